/- The program's functions hold to their readings without memory: printed by a program of ours. -/
import Derived.Test.YtbepofgmcchbdaaSeLForms
namespace Go.Proofs.Ytbepofgmcchbdaa
open Go Go.Ev Go.Sh Go.Proofs

/-! loop.example/g01297/laws.big -/
abbrev h4_x {α : Type}  : Nat → Ctx α := ctxS false M eqs jt0 [] []
def h4_b {α : Type}  (_ : Nat) (code : List Int) (r0 : Bool → Option α) : Option α :=
  r0 (decide (4096 < (((List.length code) : Nat) : Int)))
theorem h4_g {α : Type}  (n : Nat) : GenF (α := α) Try.prog Try.f4 S0 (h4_x n) n (h4_b) := by intro _ _; kernel_rfl
theorem h4_good {α : Type} : ∀ n, GoodFn (α := α) Try.prog 4 (byShape S0.sh (callS S0 laws_big n)) := good_of Try.func4 (by kernel_rfl) (by kernel_rfl) (by kernel_rfl) eqs_ok (fun n => h4_g n) (by delta h4_b laws_big; rfl) allN allN

/-! loop.example/g01297/spec.l01From -/
def h29_t3 : Tpl := ⟨(.sl 0 :: (.any :: (.any :: (.ptr 704 0 0 :: (.int .i64 :: (anyN 33 [])))))), [(0, .rows 0 5 (.int .u8)), (704, .mix 2 72 [.sl 0, .int .i64, .int .u64])], [], false⟩
def h29_p3 : PcS := loopS [.int, .rows (.int .u8), .int, .int] [0]
abbrev h29_x {α : Type} (G3 : T0 α) : Nat → Ctx α := ctxS false M eqs jt0 [] [lpT 3 h29_t3 h29_p3 R1 G3]
def h29_b3 {α : Type} (G3 : T0 α) (k : Nat) (i : Int) (code1 : List Int) (s : Int) (s1 : Int) (b0 : Int → List Int → Int → Int → Option α) (r0 : Int → Int → Option α) : Option α :=
  bif decide (i < (((List.length code1) : Nat) : Int)) then
    bif decide (i < 4096) then
      bif (decide (0 ≤ i) && decide (i < (((List.length code1) : Nat) : Int))) then
        (code1[i.toNat]?).bind fun e_ =>
        G3 k (w64 (i + 1)) code1 s (IntKind.wrap .u64 ((IntKind.wrap .u64 ((IntKind.wrap .u64 (s1 * 1099511628211)) + (IntKind.wrap .u64 e_))) + 107)) b0 r0
      else
        none
    else
      b0 i code1 s s1
  else
    b0 i code1 s s1
theorem h29_g3 {α : Type} (G3 : T0 α) (n : Nat) : GenL (α := α) Try.prog Try.f29 S1 (h29_x G3 n) 3 h29_t3 h29_p3 n G3 (h29_b3 G3) := by intro _ _ _ _ _ _; kernel_rfl
def h29_b {α : Type} (G3 : T0 α) (k : Nat) (code : List Int) (r0 : Int → Int → Option α) : Option α :=
  G3 k 0 code 0 (IntKind.wrap .u64 (12971 + (IntKind.wrap .u64 (((List.length code) : Nat) : Int))))
    (fun _ _ s2 s3 =>
      r0 s2 s3)
    r0
theorem h29_g {α : Type} (G3 : T0 α) (n : Nat) : GenF (α := α) Try.prog Try.f29 S1 (h29_x G3 n) n (h29_b G3) := by intro _ _; kernel_rfl
theorem h29_good {α : Type} : ∀ n, GoodFn (α := α) Try.prog 29 (byShape S1.sh (callS S1 spec_l01From n)) := good_of Try.func29 (by kernel_rfl) (by kernel_rfl) (by kernel_rfl) eqs_ok (fun n => h29_g spec_l01From_l3 n) (by delta h29_b spec_l01From; rfl) allN (allC (loop_fine (by kernel_rfl) (fun n => by delta h29_b3; funext _ _ _ _ _ _; exact (spec_l01From_l3.eq_2 ..).symm) (fun n => h29_g3 spec_l01From_l3 n)) allN)

/-! loop.example/g01297/spec.l01Next -/
abbrev h42_x {α : Type}  : Nat → Ctx α := ctxS false M eqs jt0 [] []
def h42_b {α : Type}  (_ : Nat) (s : List Int) (s1 : Int) (s2 : Int) (n_ : Int) (r0 : Int → Int → Int → Option α) : Option α :=
  bif decide (n_ < 1) then
    r0 0 s1 s2
  else
  bif decide (s1 < (((List.length s) : Nat) : Int)) then
    bif (decide (0 ≤ s1) && decide (s1 < (((List.length s) : Nat) : Int))) then
      (s[s1.toNat]?).bind fun e_ =>
      bif decide (n_ = 0) then
        none
      else
        r0 (Int.tmod (w64 ((w64 (IntKind.wrap .u64 ((BitVec.ofInt 64 (Int.fdiv (IntKind.wrap .u64 ((IntKind.wrap .u64 (s2 * 6364136223846793005)) + 1442695040888963407)) (2 ^ 31)) &&& BitVec.ofInt 64 1073741823).toNat))) + (w64 e_))) n_) (w64 (s1 + 1)) (IntKind.wrap .u64 ((IntKind.wrap .u64 (s2 * 6364136223846793005)) + 1442695040888963407))
    else
      none
  else
  bif decide (n_ = 0) then
    none
  else
    r0 (Int.tmod (w64 (IntKind.wrap .u64 ((BitVec.ofInt 64 (Int.fdiv (IntKind.wrap .u64 ((IntKind.wrap .u64 (s2 * 6364136223846793005)) + 1442695040888963407)) (2 ^ 31)) &&& BitVec.ofInt 64 1073741823).toNat))) n_) s1 (IntKind.wrap .u64 ((IntKind.wrap .u64 (s2 * 6364136223846793005)) + 1442695040888963407))
theorem h42_g {α : Type}  (n : Nat) : GenF (α := α) Try.prog Try.f42 S2 (h42_x n) n (h42_b) := by intro _ _ _ _ _; kernel_rfl
theorem h42_good {α : Type} : ∀ n, GoodFn (α := α) Try.prog 42 (byShape S2.sh (callS S2 spec_l01Next n)) := good_of Try.func42 (by kernel_rfl) (by kernel_rfl) (by kernel_rfl) eqs_ok (fun n => h42_g n) (by delta h42_b spec_l01Next; rfl) allN allN

/-! loop.example/g01297/spec.l01In -/
abbrev h59_x {α : Type}  : Nat → Ctx α := ctxS false M eqs jt0 [] []
def h59_b {α : Type}  (_ : Nat) (n_ : Int) (low : Int) (high : Int) (r0 : Bool → Option α) : Option α :=
  bif decide (low ≤ n_) then
    r0 (decide (n_ ≤ high))
  else
    r0 false
theorem h59_g {α : Type}  (n : Nat) : GenF (α := α) Try.prog Try.f59 S3 (h59_x n) n (h59_b) := by intro _ _ _ _; kernel_rfl
theorem h59_good {α : Type} : ∀ n, GoodFn (α := α) Try.prog 59 (byShape S3.sh (callS S3 spec_l01In n)) := good_of Try.func59 (by kernel_rfl) (by kernel_rfl) (by kernel_rfl) eqs_ok (fun n => h59_g n) (by delta h59_b spec_l01In; rfl) allN allN

/-! loop.example/g01297/spec.l01Fits -/
abbrev h58_x {α : Type} (F0 : T1 α) : Nat → Ctx α := ctxS false M eqs jt0 [⟨59, S3, F0⟩] []
def h58_b {α : Type} (F0 : T1 α) (k : Nat) (x : Int) (r0 : Bool → Option α) : Option α :=
  F0 k x (-1000000) 1000000 fun v =>
  r0 v
theorem h58_g {α : Type} (F0 : T1 α) (n : Nat) : GenF (α := α) Try.prog Try.f58 S4 (h58_x F0 n) n (h58_b F0) := by intro _ _; kernel_rfl
theorem h58_good {α : Type} : ∀ n, GoodFn (α := α) Try.prog 58 (byShape S4.sh (callS S4 spec_l01Fits n)) := good_of Try.func58 (by kernel_rfl) (by kernel_rfl) (by kernel_rfl) eqs_ok (fun n => h58_g spec_l01In n) (by delta h58_b spec_l01Fits; rfl) (allC h59_good allN) allN

/-! loop.example/g01297/spec.l06Disc -/
abbrev h32_x {α : Type}  : Nat → Ctx α := ctxS false M eqs jt0 [] []
def h32_b {α : Type}  (_ : Nat) (x : Int) (x1 : Int) (x2 : Int) (r0 : Int → Option α) : Option α :=
  r0 (w64 ((w64 (x1 * x1)) - (w64 ((w64 (4 * x)) * x2))))
theorem h32_g {α : Type}  (n : Nat) : GenF (α := α) Try.prog Try.f32 S5 (h32_x n) n (h32_b) := by intro _ _ _ _; kernel_rfl
theorem h32_good {α : Type} : ∀ n, GoodFn (α := α) Try.prog 32 (byShape S5.sh (callS S5 spec_l06Disc n)) := good_of Try.func32 (by kernel_rfl) (by kernel_rfl) (by kernel_rfl) eqs_ok (fun n => h32_g n) (by delta h32_b spec_l06Disc; rfl) allN allN

/-! loop.example/g01297/spec.l06Root -/
def h34_t2 : Tpl := ⟨(.int .i64 :: (.any :: (.any :: (.int .i64 :: (anyN 10 []))))), [], [], false⟩
def h34_p2 : PcS := loopS [.int, .int] [0]
abbrev h34_x {α : Type} (G2 : T2 α) : Nat → Ctx α := ctxS false M eqs jt0 [] [lpT 2 h34_t2 h34_p2 R3 G2]
def h34_b2 {α : Type} (G2 : T2 α) (k : Nat) (d1 : Int) (w : Int) (b0 : Int → Int → Option α) (r0 : Int → Option α) : Option α :=
  bif decide ((w64 ((w64 (w + 1)) * (w64 (w + 1)))) ≤ d1) then
    G2 k d1 (w64 (w + 1)) b0 r0
  else
    b0 d1 w
theorem h34_g2 {α : Type} (G2 : T2 α) (n : Nat) : GenL (α := α) Try.prog Try.f34 S6 (h34_x G2 n) 2 h34_t2 h34_p2 n G2 (h34_b2 G2) := by intro _ _ _ _; kernel_rfl
def h34_b {α : Type} (G2 : T2 α) (k : Nat) (d : Int) (r0 : Int → Option α) : Option α :=
  G2 k d 0
    (fun _ w1 =>
      r0 w1)
    r0
theorem h34_g {α : Type} (G2 : T2 α) (n : Nat) : GenF (α := α) Try.prog Try.f34 S6 (h34_x G2 n) n (h34_b G2) := by intro _ _; kernel_rfl
theorem h34_good {α : Type} : ∀ n, GoodFn (α := α) Try.prog 34 (byShape S6.sh (callS S6 spec_l06Root n)) := good_of Try.func34 (by kernel_rfl) (by kernel_rfl) (by kernel_rfl) eqs_ok (fun n => h34_g spec_l06Root_l2 n) (by delta h34_b spec_l06Root; rfl) allN (allC (loop_fine (by kernel_rfl) (fun n => by delta h34_b2; funext _ _ _ _; exact (spec_l06Root_l2.eq_2 ..).symm) (fun n => h34_g2 spec_l06Root_l2 n)) allN)

/-! loop.example/g01297/spec.l06Is -/
abbrev h31_x {α : Type} (F0 : T3 α) (F1 : T4 α) (F2 : T1 α) (F3 : T5 α) : Nat → Ctx α := ctxS false M eqs jt0 [⟨58, S4, F0⟩, ⟨32, S5, F1⟩, ⟨59, S3, F2⟩, ⟨34, S6, F3⟩] []
def h31_b {α : Type} (F0 : T3 α) (F1 : T4 α) (F2 : T1 α) (F3 : T5 α) (k : Nat) (x : Int) (x1 : Int) (x2 : Int) (r0 : Bool → Option α) : Option α :=
  F0 k x fun v =>
  bif (!v) then
    r0 false
  else
    F0 k x1 fun v1 =>
    bif (!v1) then
      r0 false
    else
      F0 k x2 fun v2 =>
      bif (!v2) then
        r0 false
      else
        F1 k x x1 x2 fun v3 =>
        F2 k v3 1 4000 fun v4 =>
        bif (!v4) then
          r0 false
        else
          F3 k v3 fun v5 =>
          r0 (!decide ((w64 (v5 * v5)) = v3))
theorem h31_g {α : Type} (F0 : T3 α) (F1 : T4 α) (F2 : T1 α) (F3 : T5 α) (n : Nat) : GenF (α := α) Try.prog Try.f31 S7 (h31_x F0 F1 F2 F3 n) n (h31_b F0 F1 F2 F3) := by intro _ _ _ _; kernel_rfl
theorem h31_good {α : Type} : ∀ n, GoodFn (α := α) Try.prog 31 (byShape S7.sh (callS S7 spec_l06Is n)) := good_of Try.func31 (by kernel_rfl) (by kernel_rfl) (by kernel_rfl) eqs_ok (fun n => h31_g spec_l01Fits spec_l06Disc spec_l01In spec_l06Root n) (by delta h31_b spec_l06Is; rfl) (allC h58_good (allC h32_good (allC h59_good (allC h34_good allN)))) allN

/-! loop.example/g01297/spec.l01Rest -/
abbrev h60_x {α : Type}  : Nat → Ctx α := ctxS false M eqs jt0 [] []
def h60_b {α : Type}  (_ : Nat) (n_ : Int) (x : Int) (r0 : Int → Option α) : Option α :=
  bif decide (n_ = 0) then
    none
  else
  bif decide (n_ = 0) then
    none
  else
    r0 (Int.tmod (w64 ((Int.tmod x n_) + n_)) n_)
theorem h60_g {α : Type}  (n : Nat) : GenF (α := α) Try.prog Try.f60 S8 (h60_x n) n (h60_b) := by intro _ _ _; kernel_rfl
theorem h60_good {α : Type} : ∀ n, GoodFn (α := α) Try.prog 60 (byShape S8.sh (callS S8 spec_l01Rest n)) := good_of Try.func60 (by kernel_rfl) (by kernel_rfl) (by kernel_rfl) eqs_ok (fun n => h60_g n) (by delta h60_b spec_l01Rest; rfl) allN allN

/-! loop.example/g01297/spec.l06Next -/
abbrev h33_x {α : Type} (F0 : T6 α) : Nat → Ctx α := ctxS false M eqs jt0 [⟨60, S8, F0⟩] []
def h33_b {α : Type} (F0 : T6 α) (k : Nat) (_ : Int) (x1 : Int) (x2 : Int) (d : Int) (w : Int) (r0 : Int → Int → Int → Option α) : Option α :=
  bif decide (w < (max x2 (w64 (0 - x2)))) then
    F0 k (w64 (2 * (max x2 (w64 (0 - x2))))) (w64 ((max x2 (w64 (0 - x2))) + x1)) fun v =>
    bif decide ((w64 (4 * x2)) = 0) then
      none
    else
      r0 x2 (w64 ((max x2 (w64 (0 - x2))) - v)) (w64 (Int.tdiv (w64 ((w64 ((w64 ((max x2 (w64 (0 - x2))) - v)) * (w64 ((max x2 (w64 (0 - x2))) - v)))) - d)) (w64 (4 * x2))))
  else
    F0 k (w64 (2 * (max x2 (w64 (0 - x2))))) (w64 (w + x1)) fun v1 =>
    bif decide ((w64 (4 * x2)) = 0) then
      none
    else
      r0 x2 (w64 (w - v1)) (w64 (Int.tdiv (w64 ((w64 ((w64 (w - v1)) * (w64 (w - v1)))) - d)) (w64 (4 * x2))))
theorem h33_g {α : Type} (F0 : T6 α) (n : Nat) : GenF (α := α) Try.prog Try.f33 S9 (h33_x F0 n) n (h33_b F0) := by intro _ _ _ _ _ _; kernel_rfl
theorem h33_good {α : Type} : ∀ n, GoodFn (α := α) Try.prog 33 (byShape S9.sh (callS S9 spec_l06Next n)) := good_of Try.func33 (by kernel_rfl) (by kernel_rfl) (by kernel_rfl) eqs_ok (fun n => h33_g spec_l01Rest n) (by delta h33_b spec_l06Next; rfl) (allC h60_good allN) allN

/-! loop.example/g01297/spec.l01Pick -/
abbrev h45_x {α : Type} (F0 : T7 α) : Nat → Ctx α := ctxS false M eqs jt0 [⟨42, S2, F0⟩] []
def h45_b {α : Type} (F0 : T7 α) (k : Nat) (s : List Int) (s1 : Int) (s2 : Int) (list : List Int) (r0 : Int → Int → Int → Option α) : Option α :=
  F0 k s s1 s2 (((List.length list) : Nat) : Int) fun v v1 v2 =>
  bif (decide (0 ≤ v) && decide (v < (((List.length list) : Nat) : Int))) then
    (list[v.toNat]?).bind fun e_ =>
    r0 e_ v1 v2
  else
    none
theorem h45_g {α : Type} (F0 : T7 α) (n : Nat) : GenF (α := α) Try.prog Try.f45 S10 (h45_x F0 n) n (h45_b F0) := by intro _ _ _ _ _; kernel_rfl
theorem h45_good {α : Type} : ∀ n, GoodFn (α := α) Try.prog 45 (byShape S10.sh (callS S10 spec_l01Pick n)) := good_of Try.func45 (by kernel_rfl) (by kernel_rfl) (by kernel_rfl) eqs_ok (fun n => h45_g spec_l01Next n) (by delta h45_b spec_l01Pick; rfl) (allC h42_good allN) allN

/-! loop.example/g01297/spec.l06DrawForm -/
def h28_t7 : Tpl := ⟨(.any :: (.any :: (.ptr 128 0 0 :: (.any :: (.ptr 256 0 0 :: (.int .i64 :: (anyN 37 []))))))), [(0, .mix 1 72 [.sl 1, .int .i64, .int .u64]), (128, .ints 2 25 .i64 3), (256, .ints 2 25 .i64 3), (1, .rows 0 5 (.int .u8))], [], false⟩
def h28_p7 : PcS := loopS [.int, .int, .int, .int, .int, .int, .int, .int, .int, .rows (.int .u8)] [2]
abbrev h28_x {α : Type} (F0 : T7 α) (F1 : T1 α) (F2 : T4 α) (F3 : T5 α) (F4 : T8 α) (F5 : T9 α) (G7 : T10 α) : Nat → Ctx α := ctxS false M eqs jt0 [⟨42, S2, F0⟩, ⟨31, S7, F1⟩, ⟨32, S5, F2⟩, ⟨34, S6, F3⟩, ⟨33, S9, F4⟩, ⟨45, S10, F5⟩] [lpT 7 h28_t7 h28_p7 R5 G7]
def h28_b7 {α : Type} (F2 : T4 α) (F3 : T5 α) (F4 : T8 α) (G7 : T10 α) (k : Nat) (n_ : Int) (b_ : Int) (b_1 : Int) (x : Int) (x1 : Int) (x2 : Int) (x3 : Int) (x4 : Int) (x5 : Int) (b_2 : List Int) (b2 : Int → Int → Int → Int → Int → Int → Int → Int → Int → List Int → Option α) (r0 : Int → Int → Int → Int → Int → Option α) : Option α :=
  bif decide (0 < n_) then
    F2 k x3 x4 x5 fun v13 =>
    F2 k x3 x4 x5 fun v14 =>
    F3 k v14 fun v15 =>
    F4 k x3 x4 x5 v13 v15 fun v16 v17 v18 =>
    G7 k (w64 (n_ - 1)) b_ b_1 x x1 x2 v16 v17 v18 b_2 b2 r0
  else
    b2 n_ b_ b_1 x x1 x2 x3 x4 x5 b_2
theorem h28_g7 {α : Type} (F0 : T7 α) (F1 : T1 α) (F2 : T4 α) (F3 : T5 α) (F4 : T8 α) (F5 : T9 α) (G7 : T10 α) (n : Nat) : GenL (α := α) Try.prog Try.f28 S11 (h28_x F0 F1 F2 F3 F4 F5 G7 n) 7 h28_t7 h28_p7 n G7 (h28_b7 F2 F3 F4 G7) := by intro _ _ _ _ _ _ _ _ _ _ _ _ _ _ _; kernel_rfl
def h28_b {α : Type} (F0 : T7 α) (F1 : T1 α) (F5 : T9 α) (G7 : T10 α) (k : Nat) (s : List Int) (s1 : Int) (s2 : Int) (r0 : Int → Int → Int → Int → Int → Option α) : Option α :=
  F0 k s s1 s2 25 fun v v1 v2 =>
  F0 k s v1 v2 31 fun v3 v4 v5 =>
  F0 k s v4 v5 25 fun v6 v7 v8 =>
  F1 k (w64 (v - 12)) (w64 (v3 - 15)) (w64 (v6 - 12)) fun v9 =>
  bif v9 then
    F0 k s v7 v8 3 fun v10 v11 v12 =>
    G7 k v10 v11 v12 0 0 0 (w64 (v - 12)) (w64 (v3 - 15)) (w64 (v6 - 12)) s
      (fun _ b_3 b_4 _ _ _ x9 x10 x11 _ =>
        r0 x9 x10 x11 b_3 b_4)
      r0
  else
    F0 k s v7 v8 25 fun v19 v20 v21 =>
    F0 k s v20 v21 31 fun v22 v23 v24 =>
    F0 k s v23 v24 25 fun v25 v26 v27 =>
    F1 k (w64 (v19 - 12)) (w64 (v22 - 15)) (w64 (v25 - 12)) fun v28 =>
    bif v28 then
      F0 k s v26 v27 3 fun v29 v30 v31 =>
      G7 k v29 v30 v31 0 0 0 (w64 (v19 - 12)) (w64 (v22 - 15)) (w64 (v25 - 12)) s
        (fun _ b_6 b_7 _ _ _ x15 x16 x17 _ =>
          r0 x15 x16 x17 b_6 b_7)
        r0
    else
      F0 k s v26 v27 25 fun v32 v33 v34 =>
      F0 k s v33 v34 31 fun v35 v36 v37 =>
      F0 k s v36 v37 25 fun v38 v39 v40 =>
      F1 k (w64 (v32 - 12)) (w64 (v35 - 15)) (w64 (v38 - 12)) fun v41 =>
      bif v41 then
        F0 k s v39 v40 3 fun v42 v43 v44 =>
        G7 k v42 v43 v44 0 0 0 (w64 (v32 - 12)) (w64 (v35 - 15)) (w64 (v38 - 12)) s
          (fun _ b_9 b_10 _ _ _ x21 x22 x23 _ =>
            r0 x21 x22 x23 b_9 b_10)
          r0
      else
        F0 k s v39 v40 25 fun v45 v46 v47 =>
        F0 k s v46 v47 31 fun v48 v49 v50 =>
        F0 k s v49 v50 25 fun v51 v52 v53 =>
        F1 k (w64 (v45 - 12)) (w64 (v48 - 15)) (w64 (v51 - 12)) fun v54 =>
        bif v54 then
          F0 k s v52 v53 3 fun v55 v56 v57 =>
          G7 k v55 v56 v57 0 0 0 (w64 (v45 - 12)) (w64 (v48 - 15)) (w64 (v51 - 12)) s
            (fun _ b_12 b_13 _ _ _ x27 x28 x29 _ =>
              r0 x27 x28 x29 b_12 b_13)
            r0
        else
          F0 k s v52 v53 25 fun v58 v59 v60 =>
          F0 k s v59 v60 31 fun v61 v62 v63 =>
          F0 k s v62 v63 25 fun v64 v65 v66 =>
          F1 k (w64 (v58 - 12)) (w64 (v61 - 15)) (w64 (v64 - 12)) fun v67 =>
          bif v67 then
            F0 k s v65 v66 3 fun v68 v69 v70 =>
            G7 k v68 v69 v70 0 0 0 (w64 (v58 - 12)) (w64 (v61 - 15)) (w64 (v64 - 12)) s
              (fun _ b_15 b_16 _ _ _ x33 x34 x35 _ =>
                r0 x33 x34 x35 b_15 b_16)
              r0
          else
            F0 k s v65 v66 25 fun v71 v72 v73 =>
            F0 k s v72 v73 31 fun v74 v75 v76 =>
            F0 k s v75 v76 25 fun v77 v78 v79 =>
            F1 k (w64 (v71 - 12)) (w64 (v74 - 15)) (w64 (v77 - 12)) fun v80 =>
            bif v80 then
              F0 k s v78 v79 3 fun v81 v82 v83 =>
              G7 k v81 v82 v83 0 0 0 (w64 (v71 - 12)) (w64 (v74 - 15)) (w64 (v77 - 12)) s
                (fun _ b_18 b_19 _ _ _ x39 x40 x41 _ =>
                  r0 x39 x40 x41 b_18 b_19)
                r0
            else
              F0 k s v78 v79 25 fun v84 v85 v86 =>
              F0 k s v85 v86 31 fun v87 v88 v89 =>
              F0 k s v88 v89 25 fun v90 v91 v92 =>
              F1 k (w64 (v84 - 12)) (w64 (v87 - 15)) (w64 (v90 - 12)) fun v93 =>
              bif v93 then
                F0 k s v91 v92 3 fun v94 v95 v96 =>
                G7 k v94 v95 v96 0 0 0 (w64 (v84 - 12)) (w64 (v87 - 15)) (w64 (v90 - 12)) s
                  (fun _ b_21 b_22 _ _ _ x45 x46 x47 _ =>
                    r0 x45 x46 x47 b_21 b_22)
                  r0
              else
                F0 k s v91 v92 25 fun v97 v98 v99 =>
                F0 k s v98 v99 31 fun v100 v101 v102 =>
                F0 k s v101 v102 25 fun v103 v104 v105 =>
                F1 k (w64 (v97 - 12)) (w64 (v100 - 15)) (w64 (v103 - 12)) fun v106 =>
                bif v106 then
                  F0 k s v104 v105 3 fun v107 v108 v109 =>
                  G7 k v107 v108 v109 0 0 0 (w64 (v97 - 12)) (w64 (v100 - 15)) (w64 (v103 - 12)) s
                    (fun _ b_24 b_25 _ _ _ x51 x52 x53 _ =>
                      r0 x51 x52 x53 b_24 b_25)
                    r0
                else
                  F5 k s v104 v105 [0, 1, 2] fun v110 v111 v112 =>
                  F5 k s v111 v112 [(-1), (-3), (-1000000), 1000001] fun v113 v114 v115 =>
                  r0 1 v110 v113 v114 v115
theorem h28_g {α : Type} (F0 : T7 α) (F1 : T1 α) (F2 : T4 α) (F3 : T5 α) (F4 : T8 α) (F5 : T9 α) (G7 : T10 α) (n : Nat) : GenF (α := α) Try.prog Try.f28 S11 (h28_x F0 F1 F2 F3 F4 F5 G7 n) n (h28_b F0 F1 F5 G7) := by intro _ _ _ _; kernel_rfl
theorem h28_good {α : Type} : ∀ n, GoodFn (α := α) Try.prog 28 (byShape S11.sh (callS S11 spec_l06DrawForm n)) := good_of Try.func28 (by kernel_rfl) (by kernel_rfl) (by kernel_rfl) eqs_ok (fun n => h28_g spec_l01Next spec_l06Is spec_l06Disc spec_l06Root spec_l06Next spec_l01Pick spec_l06DrawForm_l7 n) (by delta h28_b spec_l06DrawForm; rfl) (allC h42_good (allC h31_good (allC h32_good (allC h34_good (allC h33_good (allC h45_good allN)))))) (allC (loop_fine (by kernel_rfl) (fun n => by delta h28_b7; funext _ _ _ _ _ _ _ _ _ _ _ _; exact (spec_l06DrawForm_l7.eq_2 ..).symm) (fun n => h28_g7 spec_l01Next spec_l06Is spec_l06Disc spec_l06Root spec_l06Next spec_l01Pick spec_l06DrawForm_l7 n)) allN)

/-! loop.example/g01297/spec.DrawNextForm -/
abbrev h5_x {α : Type} (F0 : T11 α) (F1 : T12 α) : Nat → Ctx α := ctxS false M eqs jt0 [⟨29, S1, F0⟩, ⟨28, S11, F1⟩] []
def h5_b {α : Type} (F0 : T11 α) (F1 : T12 α) (k : Nat) (code : List Int) (r0 : Int → Int → Int → Option α) : Option α :=
  F0 k code fun v v1 =>
  F1 k code v v1 fun v2 v3 v4 _ _ =>
  r0 v2 v3 v4
theorem h5_g {α : Type} (F0 : T11 α) (F1 : T12 α) (n : Nat) : GenF (α := α) Try.prog Try.f5 S12 (h5_x F0 F1 n) n (h5_b F0 F1) := by intro _ _; kernel_rfl
theorem h5_good {α : Type} : ∀ n, GoodFn (α := α) Try.prog 5 (byShape S12.sh (callS S12 spec_DrawNextForm n)) := good_of Try.func5 (by kernel_rfl) (by kernel_rfl) (by kernel_rfl) eqs_ok (fun n => h5_g spec_l01From spec_l06DrawForm n) (by delta h5_b spec_DrawNextForm; rfl) (allC h29_good (allC h28_good allN)) allN

/-! loop.example/g01297/impl.in -/
abbrev h61_x {α : Type}  : Nat → Ctx α := ctxS false M eqs jt0 [] []
def h61_b {α : Type}  (_ : Nat) (n_ : Int) (low : Int) (high : Int) (r0 : Bool → Option α) : Option α :=
  bif decide (low ≤ n_) then
    r0 (decide (n_ ≤ high))
  else
    r0 false
theorem h61_g {α : Type}  (n : Nat) : GenF (α := α) Try.prog Try.f61 S3 (h61_x n) n (h61_b) := by intro _ _ _ _; kernel_rfl
theorem h61_good {α : Type} : ∀ n, GoodFn (α := α) Try.prog 61 (byShape S3.sh (callS S3 impl_in n)) := good_of Try.func61 (by kernel_rfl) (by kernel_rfl) (by kernel_rfl) eqs_ok (fun n => h61_g n) (by delta h61_b impl_in; rfl) allN allN

/-! loop.example/g01297/impl.isCoord -/
abbrev h35_x {α : Type} (F0 : T1 α) : Nat → Ctx α := ctxS false M eqs jt0 [⟨61, S3, F0⟩] []
def h35_b {α : Type} (F0 : T1 α) (k : Nat) (n_ : Int) (r0 : Bool → Option α) : Option α :=
  F0 k n_ (-1000000) 1000000 fun v =>
  r0 v
theorem h35_g {α : Type} (F0 : T1 α) (n : Nat) : GenF (α := α) Try.prog Try.f35 S4 (h35_x F0 n) n (h35_b F0) := by intro _ _; kernel_rfl
theorem h35_good {α : Type} : ∀ n, GoodFn (α := α) Try.prog 35 (byShape S4.sh (callS S4 impl_isCoord n)) := good_of Try.func35 (by kernel_rfl) (by kernel_rfl) (by kernel_rfl) eqs_ok (fun n => h35_g impl_in n) (by delta h35_b impl_isCoord; rfl) (allC h61_good allN) allN

/-! (loop.example/g01297/impl.Form).disc -/
abbrev h37_x {α : Type}  : Nat → Ctx α := ctxS false M eqs jt0 [] []
def h37_b {α : Type}  (_ : Nat) (x : Int) (x1 : Int) (x2 : Int) (r0 : Int → Option α) : Option α :=
  r0 (w64 ((w64 (x1 * x1)) - (w64 ((w64 (4 * x)) * x2))))
theorem h37_g {α : Type}  (n : Nat) : GenF (α := α) Try.prog Try.f37 S5 (h37_x n) n (h37_b) := by intro _ _ _ _; kernel_rfl
theorem h37_good {α : Type} : ∀ n, GoodFn (α := α) Try.prog 37 (byShape S5.sh (callS S5 impl_Form_disc n)) := good_of Try.func37 (by kernel_rfl) (by kernel_rfl) (by kernel_rfl) eqs_ok (fun n => h37_g n) (by delta h37_b impl_Form_disc; rfl) allN allN

/-! loop.example/g01297/impl.root -/
def h56_t2 : Tpl := ⟨(.int .i64 :: (.any :: (.any :: (.int .i64 :: (anyN 10 []))))), [], [], false⟩
def h56_p2 : PcS := loopS [.int, .int] [0]
abbrev h56_x {α : Type} (G2 : T2 α) : Nat → Ctx α := ctxS false M eqs jt0 [] [lpT 2 h56_t2 h56_p2 R3 G2]
def h56_b2 {α : Type} (G2 : T2 α) (k : Nat) (d1 : Int) (w : Int) (b0 : Int → Int → Option α) (r0 : Int → Option α) : Option α :=
  bif decide ((w64 ((w64 (w + 1)) * (w64 (w + 1)))) ≤ d1) then
    G2 k d1 (w64 (w + 1)) b0 r0
  else
    b0 d1 w
theorem h56_g2 {α : Type} (G2 : T2 α) (n : Nat) : GenL (α := α) Try.prog Try.f56 S6 (h56_x G2 n) 2 h56_t2 h56_p2 n G2 (h56_b2 G2) := by intro _ _ _ _; kernel_rfl
def h56_b {α : Type} (G2 : T2 α) (k : Nat) (d : Int) (r0 : Int → Option α) : Option α :=
  G2 k d 0
    (fun _ w1 =>
      r0 w1)
    r0
theorem h56_g {α : Type} (G2 : T2 α) (n : Nat) : GenF (α := α) Try.prog Try.f56 S6 (h56_x G2 n) n (h56_b G2) := by intro _ _; kernel_rfl
theorem h56_good {α : Type} : ∀ n, GoodFn (α := α) Try.prog 56 (byShape S6.sh (callS S6 impl_root n)) := good_of Try.func56 (by kernel_rfl) (by kernel_rfl) (by kernel_rfl) eqs_ok (fun n => h56_g impl_root_l2 n) (by delta h56_b impl_root; rfl) allN (allC (loop_fine (by kernel_rfl) (fun n => by delta h56_b2; funext _ _ _ _; exact (impl_root_l2.eq_2 ..).symm) (fun n => h56_g2 impl_root_l2 n)) allN)

/-! loop.example/g01297/impl.discOk -/
abbrev h36_x {α : Type} (F0 : T1 α) (F1 : T5 α) : Nat → Ctx α := ctxS false M eqs jt0 [⟨61, S3, F0⟩, ⟨56, S6, F1⟩] []
def h36_b {α : Type} (F0 : T1 α) (F1 : T5 α) (k : Nat) (d : Int) (r0 : Bool → Option α) : Option α :=
  F0 k d 1 4000 fun v =>
  bif v then
    F1 k d fun v1 =>
    F1 k d fun v2 =>
    r0 (!decide ((w64 (v1 * v2)) = d))
  else
    r0 false
theorem h36_g {α : Type} (F0 : T1 α) (F1 : T5 α) (n : Nat) : GenF (α := α) Try.prog Try.f36 S4 (h36_x F0 F1 n) n (h36_b F0 F1) := by intro _ _; kernel_rfl
theorem h36_good {α : Type} : ∀ n, GoodFn (α := α) Try.prog 36 (byShape S4.sh (callS S4 impl_discOk n)) := good_of Try.func36 (by kernel_rfl) (by kernel_rfl) (by kernel_rfl) eqs_ok (fun n => h36_g impl_in impl_root n) (by delta h36_b impl_discOk; rfl) (allC h61_good (allC h56_good allN)) allN

/-! loop.example/g01297/impl.IsForm -/
abbrev h8_x {α : Type} (F0 : T3 α) (F1 : T4 α) (F2 : T3 α) : Nat → Ctx α := ctxS false M eqs jt0 [⟨35, S4, F0⟩, ⟨37, S5, F1⟩, ⟨36, S4, F2⟩] []
def h8_b {α : Type} (F0 : T3 α) (F1 : T4 α) (F2 : T3 α) (k : Nat) (x : Int) (x1 : Int) (x2 : Int) (r0 : Bool → Option α) : Option α :=
  F0 k x fun v =>
  bif v then
    F0 k x1 fun v1 =>
    bif v1 then
      F0 k x2 fun v2 =>
      bif v2 then
        F1 k x x1 x2 fun v3 =>
        F2 k v3 fun v4 =>
        r0 v4
      else
        r0 false
    else
      r0 false
  else
    r0 false
theorem h8_g {α : Type} (F0 : T3 α) (F1 : T4 α) (F2 : T3 α) (n : Nat) : GenF (α := α) Try.prog Try.f8 S7 (h8_x F0 F1 F2 n) n (h8_b F0 F1 F2) := by intro _ _ _ _; kernel_rfl
theorem h8_good {α : Type} : ∀ n, GoodFn (α := α) Try.prog 8 (byShape S7.sh (callS S7 impl_IsForm n)) := good_of Try.func8 (by kernel_rfl) (by kernel_rfl) (by kernel_rfl) eqs_ok (fun n => h8_g impl_isCoord impl_Form_disc impl_discOk n) (by delta h8_b impl_IsForm; rfl) (allC h35_good (allC h37_good (allC h36_good allN))) allN

/-! loop.example/g01297/impl.size -/
abbrev h55_x {α : Type}  : Nat → Ctx α := ctxS false M eqs jt0 [] []
def h55_b {α : Type}  (_ : Nat) (n_ : Int) (r0 : Int → Option α) : Option α :=
  r0 (max n_ (w64 (0 - n_)))
theorem h55_g {α : Type}  (n : Nat) : GenF (α := α) Try.prog Try.f55 S6 (h55_x n) n (h55_b) := by intro _ _; kernel_rfl
theorem h55_good {α : Type} : ∀ n, GoodFn (α := α) Try.prog 55 (byShape S6.sh (callS S6 impl_size n)) := good_of Try.func55 (by kernel_rfl) (by kernel_rfl) (by kernel_rfl) eqs_ok (fun n => h55_g n) (by delta h55_b impl_size; rfl) allN allN

/-! loop.example/g01297/impl.floor -/
abbrev h70_x {α : Type}  : Nat → Ctx α := ctxS false M eqs jt0 [] []
def h70_b {α : Type}  (_ : Nat) (a : Int) (b_ : Int) (r0 : Int → Option α) : Option α :=
  bif decide (b_ = 0) then
    none
  else
  bif decide (b_ = 0) then
    none
  else
  bif (!decide ((Int.tmod a b_) = 0)) then
    bif (!(decide (a < 0) == decide (b_ < 0))) then
      r0 (w64 ((w64 (Int.tdiv a b_)) - 1))
    else
      r0 (w64 (Int.tdiv a b_))
  else
    r0 (w64 (Int.tdiv a b_))
theorem h70_g {α : Type}  (n : Nat) : GenF (α := α) Try.prog Try.f70 S8 (h70_x n) n (h70_b) := by intro _ _ _; kernel_rfl
theorem h70_good {α : Type} : ∀ n, GoodFn (α := α) Try.prog 70 (byShape S8.sh (callS S8 impl_floor n)) := good_of Try.func70 (by kernel_rfl) (by kernel_rfl) (by kernel_rfl) eqs_ok (fun n => h70_g n) (by delta h70_b impl_floor; rfl) allN allN

/-! loop.example/g01297/impl.mod -/
abbrev h57_x {α : Type} (F0 : T6 α) : Nat → Ctx α := ctxS false M eqs jt0 [⟨70, S8, F0⟩] []
def h57_b {α : Type} (F0 : T6 α) (k : Nat) (a : Int) (b_ : Int) (r0 : Int → Option α) : Option α :=
  F0 k a b_ fun v =>
  r0 (w64 (a - (w64 (b_ * v))))
theorem h57_g {α : Type} (F0 : T6 α) (n : Nat) : GenF (α := α) Try.prog Try.f57 S8 (h57_x F0 n) n (h57_b F0) := by intro _ _ _; kernel_rfl
theorem h57_good {α : Type} : ∀ n, GoodFn (α := α) Try.prog 57 (byShape S8.sh (callS S8 impl_mod n)) := good_of Try.func57 (by kernel_rfl) (by kernel_rfl) (by kernel_rfl) eqs_ok (fun n => h57_g impl_floor n) (by delta h57_b impl_mod; rfl) (allC h70_good allN) allN

/-! (loop.example/g01297/impl.Form).next -/
abbrev h30_x {α : Type} (F0 : T4 α) (F1 : T5 α) (F2 : T5 α) (F3 : T6 α) : Nat → Ctx α := ctxS false M eqs jt0 [⟨37, S5, F0⟩, ⟨55, S6, F1⟩, ⟨56, S6, F2⟩, ⟨57, S8, F3⟩] []
def h30_b {α : Type} (F0 : T4 α) (F1 : T5 α) (F2 : T5 α) (F3 : T6 α) (k : Nat) (x : Int) (x1 : Int) (x2 : Int) (r0 : Int → Int → Int → Option α) : Option α :=
  F0 k x x1 x2 fun v =>
  F1 k x2 fun v1 =>
  F2 k v fun v2 =>
  bif decide (v2 < v1) then
    F3 k (w64 ((w64 (0 - x1)) - (w64 (1 - v1)))) (w64 (2 * v1)) fun v3 =>
    bif decide ((w64 (4 * x2)) = 0) then
      none
    else
      r0 x2 (w64 ((w64 (1 - v1)) + v3)) (w64 (Int.tdiv (w64 ((w64 ((w64 ((w64 (1 - v1)) + v3)) * (w64 ((w64 (1 - v1)) + v3)))) - v)) (w64 (4 * x2))))
  else
    F3 k (w64 ((w64 (0 - x1)) - (w64 ((w64 (v2 - (w64 (2 * v1)))) + 1)))) (w64 (2 * v1)) fun v4 =>
    bif decide ((w64 (4 * x2)) = 0) then
      none
    else
      r0 x2 (w64 ((w64 ((w64 (v2 - (w64 (2 * v1)))) + 1)) + v4)) (w64 (Int.tdiv (w64 ((w64 ((w64 ((w64 ((w64 (v2 - (w64 (2 * v1)))) + 1)) + v4)) * (w64 ((w64 ((w64 (v2 - (w64 (2 * v1)))) + 1)) + v4)))) - v)) (w64 (4 * x2))))
theorem h30_g {α : Type} (F0 : T4 α) (F1 : T5 α) (F2 : T5 α) (F3 : T6 α) (n : Nat) : GenF (α := α) Try.prog Try.f30 S13 (h30_x F0 F1 F2 F3 n) n (h30_b F0 F1 F2 F3) := by intro _ _ _ _; kernel_rfl
theorem h30_good {α : Type} : ∀ n, GoodFn (α := α) Try.prog 30 (byShape S13.sh (callS S13 impl_Form_next n)) := good_of Try.func30 (by kernel_rfl) (by kernel_rfl) (by kernel_rfl) eqs_ok (fun n => h30_g impl_Form_disc impl_size impl_root impl_mod n) (by delta h30_b impl_Form_next; rfl) (allC h37_good (allC h55_good (allC h56_good (allC h57_good allN)))) allN

/-! loop.example/g01297/impl.NextForm -/
abbrev h6_x {α : Type} (F0 : T1 α) (F1 : T13 α) : Nat → Ctx α := ctxS false M eqs jt0 [⟨8, S7, F0⟩, ⟨30, S13, F1⟩] []
def h6_b {α : Type} (F0 : T1 α) (F1 : T13 α) (k : Nat) (x : Int) (x1 : Int) (x2 : Int) (r0 : Int → Int → Int → Int → Option α) : Option α :=
  F0 k x x1 x2 fun v =>
  bif (!v) then
    r0 0 0 0 1
  else
    F1 k x x1 x2 fun v1 v2 v3 =>
    r0 v1 v2 v3 0
theorem h6_g {α : Type} (F0 : T1 α) (F1 : T13 α) (n : Nat) : GenF (α := α) Try.prog Try.f6 S14 (h6_x F0 F1 n) n (h6_b F0 F1) := by intro _ _ _ _; kernel_rfl
theorem h6_good {α : Type} : ∀ n, GoodFn (α := α) Try.prog 6 (byShape S14.sh (callS S14 impl_NextForm n)) := good_of Try.func6 (by kernel_rfl) (by kernel_rfl) (by kernel_rfl) eqs_ok (fun n => h6_g impl_IsForm impl_Form_next n) (by delta h6_b impl_NextForm; rfl) (allC h8_good (allC h30_good allN)) allN

/-! loop.example/g01297/spec.NextForm -/
abbrev h7_x {α : Type} (F0 : T1 α) (F1 : T4 α) (F2 : T5 α) (F3 : T8 α) : Nat → Ctx α := ctxS false M eqs jt0 [⟨31, S7, F0⟩, ⟨32, S5, F1⟩, ⟨34, S6, F2⟩, ⟨33, S9, F3⟩] []
def h7_b {α : Type} (F0 : T1 α) (F1 : T4 α) (F2 : T5 α) (F3 : T8 α) (k : Nat) (x : Int) (x1 : Int) (x2 : Int) (r0 : Int → Int → Int → Int → Option α) : Option α :=
  F0 k x x1 x2 fun v =>
  bif (!v) then
    r0 0 0 0 1
  else
    F1 k x x1 x2 fun v1 =>
    F2 k v1 fun v2 =>
    F3 k x x1 x2 v1 v2 fun v3 v4 v5 =>
    r0 v3 v4 v5 0
theorem h7_g {α : Type} (F0 : T1 α) (F1 : T4 α) (F2 : T5 α) (F3 : T8 α) (n : Nat) : GenF (α := α) Try.prog Try.f7 S14 (h7_x F0 F1 F2 F3 n) n (h7_b F0 F1 F2 F3) := by intro _ _ _ _; kernel_rfl
theorem h7_good {α : Type} : ∀ n, GoodFn (α := α) Try.prog 7 (byShape S14.sh (callS S14 spec_NextForm n)) := good_of Try.func7 (by kernel_rfl) (by kernel_rfl) (by kernel_rfl) eqs_ok (fun n => h7_g spec_l06Is spec_l06Disc spec_l06Root spec_l06Next n) (by delta h7_b spec_NextForm; rfl) (allC h31_good (allC h32_good (allC h34_good (allC h33_good allN)))) allN

/-! loop.example/g01297/spec.IsForm -/
abbrev h9_x {α : Type} (F0 : T1 α) : Nat → Ctx α := ctxS false M eqs jt0 [⟨31, S7, F0⟩] []
def h9_b {α : Type} (F0 : T1 α) (k : Nat) (x : Int) (x1 : Int) (x2 : Int) (r0 : Bool → Option α) : Option α :=
  F0 k x x1 x2 fun v =>
  r0 v
theorem h9_g {α : Type} (F0 : T1 α) (n : Nat) : GenF (α := α) Try.prog Try.f9 S7 (h9_x F0 n) n (h9_b F0) := by intro _ _ _ _; kernel_rfl
theorem h9_good {α : Type} : ∀ n, GoodFn (α := α) Try.prog 9 (byShape S7.sh (callS S7 spec_IsForm n)) := good_of Try.func9 (by kernel_rfl) (by kernel_rfl) (by kernel_rfl) eqs_ok (fun n => h9_g spec_l06Is n) (by delta h9_b spec_IsForm; rfl) (allC h31_good allN) allN

/-! (loop.example/g01297/impl.Form).reduced -/
abbrev h40_x {α : Type} (F0 : T4 α) (F1 : T5 α) (F2 : T1 α) (F3 : T5 α) : Nat → Ctx α := ctxS false M eqs jt0 [⟨37, S5, F0⟩, ⟨56, S6, F1⟩, ⟨61, S3, F2⟩, ⟨55, S6, F3⟩] []
def h40_b {α : Type} (F0 : T4 α) (F1 : T5 α) (F2 : T1 α) (F3 : T5 α) (k : Nat) (x : Int) (x1 : Int) (x2 : Int) (r0 : Bool → Option α) : Option α :=
  F0 k x x1 x2 fun v =>
  F1 k v fun v1 =>
  F2 k x1 1 v1 fun v2 =>
  bif v2 then
    F3 k x fun v3 =>
    bif decide ((w64 (v1 - x1)) < (w64 (2 * v3))) then
      F3 k x fun v4 =>
      r0 (decide ((w64 (2 * v4)) ≤ (w64 (v1 + x1))))
    else
      r0 false
  else
    r0 false
theorem h40_g {α : Type} (F0 : T4 α) (F1 : T5 α) (F2 : T1 α) (F3 : T5 α) (n : Nat) : GenF (α := α) Try.prog Try.f40 S7 (h40_x F0 F1 F2 F3 n) n (h40_b F0 F1 F2 F3) := by intro _ _ _ _; kernel_rfl
theorem h40_good {α : Type} : ∀ n, GoodFn (α := α) Try.prog 40 (byShape S7.sh (callS S7 impl_Form_reduced n)) := good_of Try.func40 (by kernel_rfl) (by kernel_rfl) (by kernel_rfl) eqs_ok (fun n => h40_g impl_Form_disc impl_root impl_in impl_size n) (by delta h40_b impl_Form_reduced; rfl) (allC h37_good (allC h56_good (allC h61_good (allC h55_good allN)))) allN

/-! (loop.example/g01297/impl.Form).cycle -/
def h38_t1 : Tpl := ⟨(.any :: (.ptr 64 0 0 :: (anyN 23 []))), [(64, .ints 2 25 .i64 3)], [], false⟩
def h38_p1 : PcS := loopS [.int, .int, .int] [0]
def h38_t5 : Tpl := ⟨(.any :: (.ptr 64 0 0 :: (.any :: (.sl 704 :: (.ptr 256 0 0 :: (anyN 20 [])))))), [(64, .ints 2 25 .i64 3), (704, .rows 2 25 .tr), (256, .ints 2 25 .i64 3)], [], false⟩
def h38_p5 : PcS := loopS [.int, .int, .int, .rows .tr, .int, .int, .int] [2]
abbrev h38_x {α : Type} (F0 : T1 α) (F1 : T13 α) (G1 : T14 α) (G5 : T15 α) : Nat → Ctx α := ctxS false M eqs jt0 [⟨40, S7, F0⟩, ⟨30, S13, F1⟩] [lpT 1 h38_t1 h38_p1 R7 G1, lpT 5 h38_t5 h38_p5 R7 G5]
def h38_b1 {α : Type} (F0 : T1 α) (F1 : T13 α) (G1 : T14 α) (k : Nat) (x3 : Int) (x4 : Int) (x5 : Int) (b0 : Int → Int → Int → Option α) (r0 : (List (Int × Int × Int)) → Option α) : Option α :=
  F0 k x3 x4 x5 fun v =>
  bif (!v) then
    F1 k x3 x4 x5 fun v1 v2 v3 =>
    G1 k v1 v2 v3 b0 r0
  else
    b0 x3 x4 x5
theorem h38_g1 {α : Type} (F0 : T1 α) (F1 : T13 α) (G1 : T14 α) (G5 : T15 α) (n : Nat) : GenL (α := α) Try.prog Try.f38 S15 (h38_x F0 F1 G1 G5 n) 1 h38_t1 h38_p1 n G1 (h38_b1 F0 F1 G1) := by intro _ _ _ _ _; kernel_rfl
def h38_b5 {α : Type} (F1 : T13 α) (G5 : T15 α) (k : Nat) (x9 : Int) (x10 : Int) (x11 : Int) (out : List (Int × Int × Int)) (y : Int) (y1 : Int) (y2 : Int) (b2 : Int → Int → Int → (List (Int × Int × Int)) → Int → Int → Int → Option α) (r0 : (List (Int × Int × Int)) → Option α) : Option α :=
  bif (!(decide (y = x9) && (decide (y1 = x10) && decide (y2 = x11)))) then
    bif decide (((List.length out) + 1) ≤ big) then
      F1 k y y1 y2 fun v7 v8 v9 =>
      G5 k x9 x10 x11 (out ++ [(y, y1, y2)]) v7 v8 v9 b2 r0
    else
      none
  else
    b2 x9 x10 x11 out y y1 y2
theorem h38_g5 {α : Type} (F0 : T1 α) (F1 : T13 α) (G1 : T14 α) (G5 : T15 α) (n : Nat) : GenL (α := α) Try.prog Try.f38 S15 (h38_x F0 F1 G1 G5 n) 5 h38_t5 h38_p5 n G5 (h38_b5 F1 G5) := by intro _ _ _ _ _ _ _ _ _; kernel_rfl
def h38_b {α : Type} (F1 : T13 α) (G1 : T14 α) (G5 : T15 α) (k : Nat) (x : Int) (x1 : Int) (x2 : Int) (r0 : (List (Int × Int × Int)) → Option α) : Option α :=
  G1 k x x1 x2
    (fun x6 x7 x8 =>
      F1 k x6 x7 x8 fun v4 v5 v6 =>
      G5 k x6 x7 x8 [(x6, x7, x8)] v4 v5 v6
        (fun _ _ _ out1 _ _ _ =>
          r0 out1)
        r0)
    r0
theorem h38_g {α : Type} (F0 : T1 α) (F1 : T13 α) (G1 : T14 α) (G5 : T15 α) (n : Nat) : GenF (α := α) Try.prog Try.f38 S15 (h38_x F0 F1 G1 G5 n) n (h38_b F1 G1 G5) := by intro _ _ _ _; kernel_rfl
theorem h38_good {α : Type} : ∀ n, GoodFn (α := α) Try.prog 38 (byShape S15.sh (callS S15 impl_Form_cycle n)) := good_of Try.func38 (by kernel_rfl) (by kernel_rfl) (by kernel_rfl) eqs_ok (fun n => h38_g impl_Form_reduced impl_Form_next impl_Form_cycle_l1 impl_Form_cycle_l5 n) (by delta h38_b impl_Form_cycle; rfl) (allC h40_good (allC h30_good allN)) (allC (loop_fine (by kernel_rfl) (fun n => by delta h38_b1; funext _ _ _ _ _; exact (impl_Form_cycle_l1.eq_2 ..).symm) (fun n => h38_g1 impl_Form_reduced impl_Form_next impl_Form_cycle_l1 impl_Form_cycle_l5 n)) (allC (loop_fine (by kernel_rfl) (fun n => by delta h38_b5; funext _ _ _ _ _ _ _ _ _; exact (impl_Form_cycle_l5.eq_2 ..).symm) (fun n => h38_g5 impl_Form_reduced impl_Form_next impl_Form_cycle_l1 impl_Form_cycle_l5 n)) allN))

/-! loop.example/g01297/impl.CycleOfForm -/
abbrev h10_x {α : Type} (F0 : T1 α) (F1 : T16 α) : Nat → Ctx α := ctxS false M eqs jt0 [⟨8, S7, F0⟩, ⟨38, S15, F1⟩] []
def h10_b {α : Type} (F0 : T1 α) (F1 : T16 α) (k : Nat) (x : Int) (x1 : Int) (x2 : Int) (r0 : Int → Option α) (r1 : (List (Int × Int × Int)) → Int → Option α) : Option α :=
  F0 k x x1 x2 fun v =>
  bif (!v) then
    r0 1
  else
    F1 k x x1 x2 fun v1 =>
    r1 v1 0
theorem h10_g {α : Type} (F0 : T1 α) (F1 : T16 α) (n : Nat) : GenF (α := α) Try.prog Try.f10 S16 (h10_x F0 F1 n) n (h10_b F0 F1) := by intro _ _ _ _; kernel_rfl
theorem h10_good {α : Type} : ∀ n, GoodFn (α := α) Try.prog 10 (byShape S16.sh (callS S16 impl_CycleOfForm n)) := good_of Try.func10 (by kernel_rfl) (by kernel_rfl) (by kernel_rfl) eqs_ok (fun n => h10_g impl_IsForm impl_Form_cycle n) (by delta h10_b impl_CycleOfForm; rfl) (allC h8_good (allC h38_good allN)) allN

/-! loop.example/g01297/spec.l06Reduced -/
abbrev h41_x {α : Type}  : Nat → Ctx α := ctxS false M eqs jt0 [] []
def h41_b {α : Type}  (_ : Nat) (x : Int) (x1 : Int) (_ : Int) (w : Int) (r0 : Bool → Option α) : Option α :=
  bif decide (0 < x1) then
    bif decide (x1 ≤ w) then
      bif decide ((w64 (w - x1)) < (w64 (2 * (max x (w64 (0 - x)))))) then
        r0 (decide ((w64 (2 * (max x (w64 (0 - x))))) ≤ (w64 (w + x1))))
      else
        r0 false
    else
      r0 false
  else
    r0 false
theorem h41_g {α : Type}  (n : Nat) : GenF (α := α) Try.prog Try.f41 S17 (h41_x n) n (h41_b) := by intro _ _ _ _ _; kernel_rfl
theorem h41_good {α : Type} : ∀ n, GoodFn (α := α) Try.prog 41 (byShape S17.sh (callS S17 spec_l06Reduced n)) := good_of Try.func41 (by kernel_rfl) (by kernel_rfl) (by kernel_rfl) eqs_ok (fun n => h41_g n) (by delta h41_b spec_l06Reduced; rfl) allN allN

/-! loop.example/g01297/spec.l06Cycle -/
def h39_t3 : Tpl := ⟨(.any :: (.ptr 64 0 0 :: (.any :: (.int .i64 :: (.int .i64 :: (anyN 33 [])))))), [(64, .ints 2 25 .i64 3)], [], false⟩
def h39_p3 : PcS := loopS [.int, .int, .int, .int, .int] [0]
def h39_t7 : Tpl := ⟨(.any :: (.ptr 64 0 0 :: (.any :: (.int .i64 :: (.int .i64 :: (.sl 1280 :: (.ptr 384 0 0 :: (anyN 31 [])))))))), [(64, .ints 2 25 .i64 3), (1280, .rows 2 25 .tr), (384, .ints 2 25 .i64 3)], [], false⟩
def h39_p7 : PcS := loopS [.int, .int, .int, .int, .int, .rows .tr, .int, .int, .int] [2]
abbrev h39_x {α : Type} (F0 : T4 α) (F1 : T5 α) (F2 : T17 α) (F3 : T8 α) (G3 : T18 α) (G7 : T19 α) : Nat → Ctx α := ctxS false M eqs jt0 [⟨32, S5, F0⟩, ⟨34, S6, F1⟩, ⟨41, S17, F2⟩, ⟨33, S9, F3⟩] [lpT 3 h39_t3 h39_p3 R7 G3, lpT 7 h39_t7 h39_p7 R7 G7]
def h39_b3 {α : Type} (F2 : T17 α) (F3 : T8 α) (G3 : T18 α) (k : Nat) (d : Int) (w : Int) (x3 : Int) (x4 : Int) (x5 : Int) (b0 : Int → Int → Int → Int → Int → Option α) (r0 : (List (Int × Int × Int)) → Option α) : Option α :=
  F2 k x3 x4 x5 w fun v2 =>
  bif (!v2) then
    F3 k x3 x4 x5 d w fun v3 v4 v5 =>
    G3 k d w v3 v4 v5 b0 r0
  else
    b0 d w x3 x4 x5
theorem h39_g3 {α : Type} (F0 : T4 α) (F1 : T5 α) (F2 : T17 α) (F3 : T8 α) (G3 : T18 α) (G7 : T19 α) (n : Nat) : GenL (α := α) Try.prog Try.f39 S15 (h39_x F0 F1 F2 F3 G3 G7 n) 3 h39_t3 h39_p3 n G3 (h39_b3 F2 F3 G3) := by intro _ _ _ _ _ _ _; kernel_rfl
def h39_b7 {α : Type} (F3 : T8 α) (G7 : T19 α) (k : Nat) (d2 : Int) (w2 : Int) (x9 : Int) (x10 : Int) (x11 : Int) (out : List (Int × Int × Int)) (now : Int) (now1 : Int) (now2 : Int) (b2 : Int → Int → Int → Int → Int → (List (Int × Int × Int)) → Int → Int → Int → Option α) (r0 : (List (Int × Int × Int)) → Option α) : Option α :=
  bif (!(decide (now = x9) && (decide (now1 = x10) && decide (now2 = x11)))) then
    bif decide (((List.length out) + 1) ≤ big) then
      F3 k now now1 now2 d2 w2 fun v9 v10 v11 =>
      G7 k d2 w2 x9 x10 x11 (out ++ [(now, now1, now2)]) v9 v10 v11 b2 r0
    else
      none
  else
    b2 d2 w2 x9 x10 x11 out now now1 now2
theorem h39_g7 {α : Type} (F0 : T4 α) (F1 : T5 α) (F2 : T17 α) (F3 : T8 α) (G3 : T18 α) (G7 : T19 α) (n : Nat) : GenL (α := α) Try.prog Try.f39 S15 (h39_x F0 F1 F2 F3 G3 G7 n) 7 h39_t7 h39_p7 n G7 (h39_b7 F3 G7) := by intro _ _ _ _ _ _ _ _ _ _ _; kernel_rfl
def h39_b {α : Type} (F0 : T4 α) (F1 : T5 α) (F3 : T8 α) (G3 : T18 α) (G7 : T19 α) (k : Nat) (x : Int) (x1 : Int) (x2 : Int) (r0 : (List (Int × Int × Int)) → Option α) : Option α :=
  F0 k x x1 x2 fun v =>
  F1 k v fun v1 =>
  G3 k v v1 x x1 x2
    (fun d1 w1 x6 x7 x8 =>
      F3 k x6 x7 x8 d1 w1 fun v6 v7 v8 =>
      G7 k d1 w1 x6 x7 x8 [(x6, x7, x8)] v6 v7 v8
        (fun _ _ _ _ _ out1 _ _ _ =>
          r0 out1)
        r0)
    r0
theorem h39_g {α : Type} (F0 : T4 α) (F1 : T5 α) (F2 : T17 α) (F3 : T8 α) (G3 : T18 α) (G7 : T19 α) (n : Nat) : GenF (α := α) Try.prog Try.f39 S15 (h39_x F0 F1 F2 F3 G3 G7 n) n (h39_b F0 F1 F3 G3 G7) := by intro _ _ _ _; kernel_rfl
theorem h39_good {α : Type} : ∀ n, GoodFn (α := α) Try.prog 39 (byShape S15.sh (callS S15 spec_l06Cycle n)) := good_of Try.func39 (by kernel_rfl) (by kernel_rfl) (by kernel_rfl) eqs_ok (fun n => h39_g spec_l06Disc spec_l06Root spec_l06Reduced spec_l06Next spec_l06Cycle_l3 spec_l06Cycle_l7 n) (by delta h39_b spec_l06Cycle; rfl) (allC h32_good (allC h34_good (allC h41_good (allC h33_good allN)))) (allC (loop_fine (by kernel_rfl) (fun n => by delta h39_b3; funext _ _ _ _ _ _ _; exact (spec_l06Cycle_l3.eq_2 ..).symm) (fun n => h39_g3 spec_l06Disc spec_l06Root spec_l06Reduced spec_l06Next spec_l06Cycle_l3 spec_l06Cycle_l7 n)) (allC (loop_fine (by kernel_rfl) (fun n => by delta h39_b7; funext _ _ _ _ _ _ _ _ _ _ _; exact (spec_l06Cycle_l7.eq_2 ..).symm) (fun n => h39_g7 spec_l06Disc spec_l06Root spec_l06Reduced spec_l06Next spec_l06Cycle_l3 spec_l06Cycle_l7 n)) allN))

/-! loop.example/g01297/spec.CycleOfForm -/
abbrev h11_x {α : Type} (F0 : T1 α) (F1 : T16 α) : Nat → Ctx α := ctxS false M eqs jt0 [⟨31, S7, F0⟩, ⟨39, S15, F1⟩] []
def h11_b {α : Type} (F0 : T1 α) (F1 : T16 α) (k : Nat) (x : Int) (x1 : Int) (x2 : Int) (r0 : Int → Option α) (r1 : (List (Int × Int × Int)) → Int → Option α) : Option α :=
  F0 k x x1 x2 fun v =>
  bif (!v) then
    r0 1
  else
    F1 k x x1 x2 fun v1 =>
    r1 v1 0
theorem h11_g {α : Type} (F0 : T1 α) (F1 : T16 α) (n : Nat) : GenF (α := α) Try.prog Try.f11 S16 (h11_x F0 F1 n) n (h11_b F0 F1) := by intro _ _ _ _; kernel_rfl
theorem h11_good {α : Type} : ∀ n, GoodFn (α := α) Try.prog 11 (byShape S16.sh (callS S16 spec_CycleOfForm n)) := good_of Try.func11 (by kernel_rfl) (by kernel_rfl) (by kernel_rfl) eqs_ok (fun n => h11_g spec_l06Is spec_l06Cycle n) (by delta h11_b spec_CycleOfForm; rfl) (allC h31_good (allC h39_good allN)) allN

/-! loop.example/g01297/laws.forms9 -/
abbrev h12_x {α : Type}  : Nat → Ctx α := ctxS false M eqs jt0 [] []
def h12_b {α : Type}  (_ : Nat) (r0 : Bool → Option α) : Option α :=
  r0 true
theorem h12_g {α : Type}  (n : Nat) : GenF (α := α) Try.prog Try.f12 S18 (h12_x n) n (h12_b) := by intro _; kernel_rfl
theorem h12_good {α : Type} : ∀ n, GoodFn (α := α) Try.prog 12 (byShape S18.sh (callS S18 laws_forms9_0N_1N n)) := good_of Try.func12 (by kernel_rfl) (by kernel_rfl) (by kernel_rfl) eqs_ok (fun n => h12_g n) (by delta h12_b laws_forms9_0N_1N; rfl) allN allN

/-! loop.example/g01297/impl.DiscriminantOf -/
abbrev h13_x {α : Type} (F0 : T1 α) (F1 : T4 α) : Nat → Ctx α := ctxS false M eqs jt0 [⟨8, S7, F0⟩, ⟨37, S5, F1⟩] []
def h13_b {α : Type} (F0 : T1 α) (F1 : T4 α) (k : Nat) (x : Int) (x1 : Int) (x2 : Int) (r0 : Int → Int → Option α) : Option α :=
  F0 k x x1 x2 fun v =>
  bif (!v) then
    r0 0 1
  else
    F1 k x x1 x2 fun v1 =>
    r0 v1 0
theorem h13_g {α : Type} (F0 : T1 α) (F1 : T4 α) (n : Nat) : GenF (α := α) Try.prog Try.f13 S19 (h13_x F0 F1 n) n (h13_b F0 F1) := by intro _ _ _ _; kernel_rfl
theorem h13_good {α : Type} : ∀ n, GoodFn (α := α) Try.prog 13 (byShape S19.sh (callS S19 impl_DiscriminantOf n)) := good_of Try.func13 (by kernel_rfl) (by kernel_rfl) (by kernel_rfl) eqs_ok (fun n => h13_g impl_IsForm impl_Form_disc n) (by delta h13_b impl_DiscriminantOf; rfl) (allC h8_good (allC h37_good allN)) allN

/-! loop.example/g01297/spec.DiscriminantOf -/
abbrev h14_x {α : Type} (F0 : T1 α) (F1 : T4 α) : Nat → Ctx α := ctxS false M eqs jt0 [⟨31, S7, F0⟩, ⟨32, S5, F1⟩] []
def h14_b {α : Type} (F0 : T1 α) (F1 : T4 α) (k : Nat) (x : Int) (x1 : Int) (x2 : Int) (r0 : Int → Int → Option α) : Option α :=
  F0 k x x1 x2 fun v =>
  bif (!v) then
    r0 0 1
  else
    F1 k x x1 x2 fun v1 =>
    r0 v1 0
theorem h14_g {α : Type} (F0 : T1 α) (F1 : T4 α) (n : Nat) : GenF (α := α) Try.prog Try.f14 S19 (h14_x F0 F1 n) n (h14_b F0 F1) := by intro _ _ _ _; kernel_rfl
theorem h14_good {α : Type} : ∀ n, GoodFn (α := α) Try.prog 14 (byShape S19.sh (callS S19 spec_DiscriminantOf n)) := good_of Try.func14 (by kernel_rfl) (by kernel_rfl) (by kernel_rfl) eqs_ok (fun n => h14_g spec_l06Is spec_l06Disc n) (by delta h14_b spec_DiscriminantOf; rfl) (allC h31_good (allC h32_good allN)) allN

/-! loop.example/g01297/impl.IsReducedForm -/
abbrev h15_x {α : Type} (F0 : T1 α) (F1 : T1 α) : Nat → Ctx α := ctxS false M eqs jt0 [⟨8, S7, F0⟩, ⟨40, S7, F1⟩] []
def h15_b {α : Type} (F0 : T1 α) (F1 : T1 α) (k : Nat) (x : Int) (x1 : Int) (x2 : Int) (r0 : Bool → Int → Option α) : Option α :=
  F0 k x x1 x2 fun v =>
  bif (!v) then
    r0 false 1
  else
    F1 k x x1 x2 fun v1 =>
    r0 v1 0
theorem h15_g {α : Type} (F0 : T1 α) (F1 : T1 α) (n : Nat) : GenF (α := α) Try.prog Try.f15 S20 (h15_x F0 F1 n) n (h15_b F0 F1) := by intro _ _ _ _; kernel_rfl
theorem h15_good {α : Type} : ∀ n, GoodFn (α := α) Try.prog 15 (byShape S20.sh (callS S20 impl_IsReducedForm n)) := good_of Try.func15 (by kernel_rfl) (by kernel_rfl) (by kernel_rfl) eqs_ok (fun n => h15_g impl_IsForm impl_Form_reduced n) (by delta h15_b impl_IsReducedForm; rfl) (allC h8_good (allC h40_good allN)) allN

/-! loop.example/g01297/spec.IsReducedForm -/
abbrev h16_x {α : Type} (F0 : T1 α) (F1 : T4 α) (F2 : T5 α) (F3 : T17 α) : Nat → Ctx α := ctxS false M eqs jt0 [⟨31, S7, F0⟩, ⟨32, S5, F1⟩, ⟨34, S6, F2⟩, ⟨41, S17, F3⟩] []
def h16_b {α : Type} (F0 : T1 α) (F1 : T4 α) (F2 : T5 α) (F3 : T17 α) (k : Nat) (x : Int) (x1 : Int) (x2 : Int) (r0 : Bool → Int → Option α) : Option α :=
  F0 k x x1 x2 fun v =>
  bif (!v) then
    r0 false 1
  else
    F1 k x x1 x2 fun v1 =>
    F2 k v1 fun v2 =>
    F3 k x x1 x2 v2 fun v3 =>
    r0 v3 0
theorem h16_g {α : Type} (F0 : T1 α) (F1 : T4 α) (F2 : T5 α) (F3 : T17 α) (n : Nat) : GenF (α := α) Try.prog Try.f16 S20 (h16_x F0 F1 F2 F3 n) n (h16_b F0 F1 F2 F3) := by intro _ _ _ _; kernel_rfl
theorem h16_good {α : Type} : ∀ n, GoodFn (α := α) Try.prog 16 (byShape S20.sh (callS S20 spec_IsReducedForm n)) := good_of Try.func16 (by kernel_rfl) (by kernel_rfl) (by kernel_rfl) eqs_ok (fun n => h16_g spec_l06Is spec_l06Disc spec_l06Root spec_l06Reduced n) (by delta h16_b spec_IsReducedForm; rfl) (allC h31_good (allC h32_good (allC h34_good (allC h41_good allN)))) allN

/-! loop.example/g01297/spec.l06All -/
def h49_t11 : Tpl := ⟨(.int .i64 :: (.any :: (.any :: (.any :: (.int .i64 :: (.sl 1536 :: (.int .i64 :: (.int .i64 :: (anyN 61 []))))))))), [(1536, .rows 2 25 .tr)], [], false⟩
def h49_p11 : PcS := loopS [.int, .int, .int, .int, .rows .tr] [2]
def h49_t8 : Tpl := ⟨(.int .i64 :: (.any :: (.any :: (.any :: (.int .i64 :: (.sl 1536 :: (.int .i64 :: (anyN 62 [])))))))), [(1536, .rows 2 25 .tr)], [], false⟩
def h49_p8 : PcS := loopS [.int, .int, .int, .rows .tr] [0]
abbrev h49_x {α : Type} (F0 : T1 α) (F1 : T5 α) (F2 : T17 α) (G11 : T20 α) (G8 : T21 α) : Nat → Ctx α := ctxS false M eqs jt0 [⟨59, S3, F0⟩, ⟨34, S6, F1⟩, ⟨41, S17, F2⟩] [lpT 11 h49_t11 h49_p11 R8 G11, lpT 8 h49_t8 h49_p8 R8 G8]
def h49_b11 {α : Type} (F2 : T17 α) (G11 : T20 α) (k : Nat) (d2 : Int) (w1 : Int) (a1 : Int) (b_ : Int) (out1 : List (Int × Int × Int)) (b2 : Int → Int → Int → Int → (List (Int × Int × Int)) → Option α) (r0 : Int → Option α) (r1 : (List (Int × Int × Int)) → Int → Option α) : Option α :=
  bif decide (b_ ≤ w1) then
    bif (!decide (a1 = 0)) then
      bif decide ((w64 (4 * a1)) = 0) then
        none
      else
      bif (!decide ((Int.tmod (w64 ((w64 (b_ * b_)) - d2)) (w64 (4 * a1))) = 0)) then
        G11 k d2 w1 a1 (w64 (b_ + 1)) out1 b2 r0 r1
      else
      bif decide ((w64 (4 * a1)) = 0) then
        none
      else
        F2 k a1 b_ (w64 (Int.tdiv (w64 ((w64 (b_ * b_)) - d2)) (w64 (4 * a1)))) w1 fun v2 =>
        bif v2 then
          bif decide (((List.length out1) + 1) ≤ big) then
            G11 k d2 w1 a1 (w64 (b_ + 1)) (out1 ++ [(a1, b_, (w64 (Int.tdiv (w64 ((w64 (b_ * b_)) - d2)) (w64 (4 * a1)))))]) b2 r0 r1
          else
            none
        else
          G11 k d2 w1 a1 (w64 (b_ + 1)) out1 b2 r0 r1
    else
      b2 d2 w1 a1 b_ out1
  else
    b2 d2 w1 a1 b_ out1
theorem h49_g11 {α : Type} (F0 : T1 α) (F1 : T5 α) (F2 : T17 α) (G11 : T20 α) (G8 : T21 α) (n : Nat) : GenL (α := α) Try.prog Try.f49 S21 (h49_x F0 F1 F2 G11 G8 n) 11 h49_t11 h49_p11 n G11 (h49_b11 F2 G11) := by intro _ _ _ _ _ _ _; kernel_rfl
def h49_b8 {α : Type} (G11 : T20 α) (G8 : T21 α) (k : Nat) (d1 : Int) (w : Int) (a : Int) (out : List (Int × Int × Int)) (b0 : Int → Int → Int → (List (Int × Int × Int)) → Option α) (r0 : Int → Option α) (r1 : (List (Int × Int × Int)) → Int → Option α) : Option α :=
  bif decide (a ≤ w) then
    G11 k d1 w a 1 out
      (fun d3 w2 a2 _ out2 =>
        G8 k d3 w2 (w64 (a2 + 1)) out2 b0 r0 r1)
      r0 r1
  else
    b0 d1 w a out
theorem h49_g8 {α : Type} (F0 : T1 α) (F1 : T5 α) (F2 : T17 α) (G11 : T20 α) (G8 : T21 α) (n : Nat) : GenL (α := α) Try.prog Try.f49 S21 (h49_x F0 F1 F2 G11 G8 n) 8 h49_t8 h49_p8 n G8 (h49_b8 G11 G8) := by intro _ _ _ _ _ _; kernel_rfl
def h49_b {α : Type} (F0 : T1 α) (F1 : T5 α) (G8 : T21 α) (k : Nat) (d : Int) (r0 : Int → Option α) (r1 : (List (Int × Int × Int)) → Int → Option α) : Option α :=
  F0 k d 1 4000 fun v =>
  bif (!v) then
    r0 2
  else
    F1 k d fun v1 =>
    bif decide ((w64 (v1 * v1)) = d) then
      r0 5
    else
    bif decide (1 < (Int.tmod d 4)) then
      r0 5
    else
      G8 k d v1 (w64 (0 - v1)) []
        (fun _ _ _ out3 =>
          r1 out3 0)
        r0 r1
theorem h49_g {α : Type} (F0 : T1 α) (F1 : T5 α) (F2 : T17 α) (G11 : T20 α) (G8 : T21 α) (n : Nat) : GenF (α := α) Try.prog Try.f49 S21 (h49_x F0 F1 F2 G11 G8 n) n (h49_b F0 F1 G8) := by intro _ _; kernel_rfl
theorem h49_good {α : Type} : ∀ n, GoodFn (α := α) Try.prog 49 (byShape S21.sh (callS S21 spec_l06All n)) := good_of Try.func49 (by kernel_rfl) (by kernel_rfl) (by kernel_rfl) eqs_ok (fun n => h49_g spec_l01In spec_l06Root spec_l06Reduced spec_l06All_l11 spec_l06All_l8 n) (by delta h49_b spec_l06All; rfl) (allC h59_good (allC h34_good (allC h41_good allN))) (allC (loop_fine (by kernel_rfl) (fun n => by delta h49_b11; funext _ _ _ _ _ _ _ _; exact (spec_l06All_l11.eq_2 ..).symm) (fun n => h49_g11 spec_l01In spec_l06Root spec_l06Reduced spec_l06All_l11 spec_l06All_l8 n)) (allC (loop_fine (by kernel_rfl) (fun n => by delta h49_b8; funext _ _ _ _ _ _ _; exact (spec_l06All_l8.eq_2 ..).symm) (fun n => h49_g8 spec_l01In spec_l06Root spec_l06Reduced spec_l06All_l11 spec_l06All_l8 n)) allN))

/-! loop.example/g01297/spec.ReducedForms -/
abbrev h22_x {α : Type} (F0 : T22 α) : Nat → Ctx α := ctxS false M eqs jt0 [⟨49, S21, F0⟩] []
def h22_b {α : Type} (F0 : T22 α) (k : Nat) (d : Int) (r0 : Int → Option α) (r1 : (List (Int × Int × Int)) → Int → Option α) : Option α :=
  F0 k d
    (fun v =>
      r0 v)
    (fun v1 v2 =>
      r1 v1 v2)
theorem h22_g {α : Type} (F0 : T22 α) (n : Nat) : GenF (α := α) Try.prog Try.f22 S21 (h22_x F0 n) n (h22_b F0) := by intro _ _; kernel_rfl
theorem h22_good {α : Type} : ∀ n, GoodFn (α := α) Try.prog 22 (byShape S21.sh (callS S21 spec_ReducedForms n)) := good_of Try.func22 (by kernel_rfl) (by kernel_rfl) (by kernel_rfl) eqs_ok (fun n => h22_g spec_l06All n) (by delta h22_b spec_ReducedForms; rfl) (allC h49_good allN) allN

/-! loop.example/g01297/spec.DrawAreEquivalentForms -/
abbrev h17_x {α : Type} (F0 : T11 α) (F1 : T12 α) (F2 : T1 α) (F3 : T7 α) (F4 : T4 α) (F5 : T22 α) : Nat → Ctx α := ctxS false M eqs jt0 [⟨29, S1, F0⟩, ⟨28, S11, F1⟩, ⟨31, S7, F2⟩, ⟨42, S2, F3⟩, ⟨32, S5, F4⟩, ⟨22, S21, F5⟩] []
def h17_b {α : Type} (F0 : T11 α) (F1 : T12 α) (F2 : T1 α) (F3 : T7 α) (F4 : T4 α) (F5 : T22 α) (k : Nat) (code : List Int) (r0 : Int → Int → Int → Int → Int → Int → Option α) : Option α :=
  F0 k code fun v v1 =>
  F1 k code v v1 fun v2 v3 v4 v5 v6 =>
  F2 k v2 v3 v4 fun v7 =>
  bif (!v7) then
    F1 k code v5 v6 fun v8 v9 v10 _ _ =>
    r0 v2 v3 v4 v8 v9 v10
  else
    F3 k code v5 v6 4 fun v13 v14 v15 =>
    bif decide (v13 = 0) then
      F1 k code v14 v15 fun v16 v17 v18 _ _ =>
      r0 v2 v3 v4 v16 v17 v18
    else
      F4 k v2 v3 v4 fun v21 =>
      F5 k v21
        (fun _ =>
          F3 k code v14 v15 0 fun _ _ _ =>
          none)
        (fun v26 _ =>
          F3 k code v14 v15 (((List.length v26) : Nat) : Int) fun v28 _ _ =>
          bif (decide (0 ≤ v28) && decide (v28 < (((List.length v26) : Nat) : Int))) then
            (v26[v28.toNat]?).bind fun e_ =>
            r0 v2 v3 v4 e_.1 e_.2.1 e_.2.2
          else
            none)
theorem h17_g {α : Type} (F0 : T11 α) (F1 : T12 α) (F2 : T1 α) (F3 : T7 α) (F4 : T4 α) (F5 : T22 α) (n : Nat) : GenF (α := α) Try.prog Try.f17 S22 (h17_x F0 F1 F2 F3 F4 F5 n) n (h17_b F0 F1 F2 F3 F4 F5) := by intro _ _; kernel_rfl
theorem h17_good {α : Type} : ∀ n, GoodFn (α := α) Try.prog 17 (byShape S22.sh (callS S22 spec_DrawAreEquivalentForms n)) := good_of Try.func17 (by kernel_rfl) (by kernel_rfl) (by kernel_rfl) eqs_ok (fun n => h17_g spec_l01From spec_l06DrawForm spec_l06Is spec_l01Next spec_l06Disc spec_ReducedForms n) (by delta h17_b spec_DrawAreEquivalentForms; rfl) (allC h29_good (allC h28_good (allC h31_good (allC h42_good (allC h32_good (allC h22_good allN)))))) allN

/-! slices.Index[[]loop.example/g01297/impl.Form,loop.example/g01297/impl.Form] -/
def h62_t2 : Tpl := ⟨(.sl 0 :: (.any :: (.any :: (.ptr 192 0 0 :: (.any :: (.any :: (.any :: (.int .i64 :: (.int .i64 :: (anyN 10 [])))))))))), [(0, .rows 0 25 .tr), (192, .ints 2 25 .i64 3)], [], false⟩
def h62_p2 : PcS := loopS [.int, .int, .rows .tr, .int, .int, .int] [0]
abbrev h62_x {α : Type} (G2 : T23 α) : Nat → Ctx α := ctxS false M eqs jt0 [] [lpT 2 h62_t2 h62_p2 R3 G2]
def h62_b2 {α : Type} (G2 : T23 α) (k : Nat) (x : Int) (x1 : Int) (s1 : List (Int × Int × Int)) (v3 : Int) (v4 : Int) (v5 : Int) (b0 : Int → Int → (List (Int × Int × Int)) → Int → Int → Int → Option α) (r0 : Int → Option α) : Option α :=
  bif decide (x1 < x) then
    bif (decide (0 ≤ x1) && decide (x1 < (((List.length s1) : Nat) : Int))) then
      (s1[x1.toNat]?).bind fun e_ =>
      bif (decide (v3 = e_.1) && (decide (v4 = e_.2.1) && decide (v5 = e_.2.2))) then
        r0 x1
      else
        G2 k x (w64 (x1 + 1)) s1 v3 v4 v5 b0 r0
    else
      none
  else
    b0 x x1 s1 v3 v4 v5
theorem h62_g2 {α : Type} (G2 : T23 α) (n : Nat) : GenL (α := α) Try.prog Try.f62 S23 (h62_x G2 n) 2 h62_t2 h62_p2 n G2 (h62_b2 G2) := by intro _ _ _ _ _ _ _ _; kernel_rfl
def h62_b {α : Type} (G2 : T23 α) (k : Nat) (s : List (Int × Int × Int)) (v : Int) (v1 : Int) (v2 : Int) (r0 : Int → Option α) : Option α :=
  G2 k (((List.length s) : Nat) : Int) 0 s v v1 v2
    (fun _ _ _ _ _ _ =>
      r0 (-1))
    r0
theorem h62_g {α : Type} (G2 : T23 α) (n : Nat) : GenF (α := α) Try.prog Try.f62 S23 (h62_x G2 n) n (h62_b G2) := by intro _ _ _ _ _; kernel_rfl
theorem h62_good {α : Type} : ∀ n, GoodFn (α := α) Try.prog 62 (byShape S23.sh (callS S23 slices_Index_impl_Form_impl_Form n)) := good_of Try.func62 (by kernel_rfl) (by kernel_rfl) (by kernel_rfl) eqs_ok (fun n => h62_g slices_Index_impl_Form_impl_Form_l2 n) (by delta h62_b slices_Index_impl_Form_impl_Form; rfl) allN (allC (loop_fine (by kernel_rfl) (fun n => by delta h62_b2; funext _ _ _ _ _ _ _ _; exact (slices_Index_impl_Form_impl_Form_l2.eq_2 ..).symm) (fun n => h62_g2 slices_Index_impl_Form_impl_Form_l2 n)) allN)

/-! slices.Contains[[]loop.example/g01297/impl.Form,loop.example/g01297/impl.Form] -/
abbrev h43_x {α : Type} (F0 : T24 α) : Nat → Ctx α := ctxS false M eqs jt0 [⟨62, S23, F0⟩] []
def h43_b {α : Type} (F0 : T24 α) (k : Nat) (s : List (Int × Int × Int)) (v : Int) (v1 : Int) (v2 : Int) (r0 : Bool → Option α) : Option α :=
  F0 k s v v1 v2 fun v3 =>
  r0 (decide (0 ≤ v3))
theorem h43_g {α : Type} (F0 : T24 α) (n : Nat) : GenF (α := α) Try.prog Try.f43 S24 (h43_x F0 n) n (h43_b F0) := by intro _ _ _ _ _; kernel_rfl
theorem h43_good {α : Type} : ∀ n, GoodFn (α := α) Try.prog 43 (byShape S24.sh (callS S24 slices_Contains_impl_Form_impl_Form n)) := good_of Try.func43 (by kernel_rfl) (by kernel_rfl) (by kernel_rfl) eqs_ok (fun n => h43_g slices_Index_impl_Form_impl_Form n) (by delta h43_b slices_Contains_impl_Form_impl_Form; rfl) (allC h62_good allN) allN

/-! loop.example/g01297/impl.AreEquivalentForms -/
abbrev h18_x {α : Type} (F0 : T1 α) (F1 : T4 α) (F2 : T16 α) (F3 : T25 α) : Nat → Ctx α := ctxS false M eqs jt0 [⟨8, S7, F0⟩, ⟨37, S5, F1⟩, ⟨38, S15, F2⟩, ⟨43, S24, F3⟩] []
def h18_b {α : Type} (F0 : T1 α) (F1 : T4 α) (F2 : T16 α) (F3 : T25 α) (k : Nat) (x : Int) (x1 : Int) (x2 : Int) (y : Int) (y1 : Int) (y2 : Int) (r0 : Bool → Int → Option α) : Option α :=
  F0 k x x1 x2 fun v =>
  bif (!v) then
    r0 false 1
  else
    F0 k y y1 y2 fun v1 =>
    bif (!v1) then
      r0 false 1
    else
      F1 k x x1 x2 fun v2 =>
      F1 k y y1 y2 fun v3 =>
      bif decide (v2 = v3) then
        F2 k x x1 x2 fun v4 =>
        F2 k y y1 y2 fun v5 =>
        bif (true && decide (0 < (((List.length v5) : Nat) : Int))) then
          (v5[0]?).bind fun e_ =>
          F3 k v4 e_.1 e_.2.1 e_.2.2 fun v6 =>
          r0 v6 0
        else
          none
      else
        r0 false 0
theorem h18_g {α : Type} (F0 : T1 α) (F1 : T4 α) (F2 : T16 α) (F3 : T25 α) (n : Nat) : GenF (α := α) Try.prog Try.f18 S25 (h18_x F0 F1 F2 F3 n) n (h18_b F0 F1 F2 F3) := by intro _ _ _ _ _ _ _; kernel_rfl
theorem h18_good {α : Type} : ∀ n, GoodFn (α := α) Try.prog 18 (byShape S25.sh (callS S25 impl_AreEquivalentForms n)) := good_of Try.func18 (by kernel_rfl) (by kernel_rfl) (by kernel_rfl) eqs_ok (fun n => h18_g impl_IsForm impl_Form_disc impl_Form_cycle slices_Contains_impl_Form_impl_Form n) (by delta h18_b impl_AreEquivalentForms; rfl) (allC h8_good (allC h37_good (allC h38_good (allC h43_good allN)))) allN

/-! loop.example/g01297/spec.l06Has -/
def h44_t2 : Tpl := ⟨(.sl 0 :: (.any :: (.any :: (.ptr 192 0 0 :: (.any :: (.int .i64 :: (anyN 12 []))))))), [(0, .rows 0 25 .tr), (192, .ints 2 25 .i64 3)], [], false⟩
def h44_p2 : PcS := loopS [.int, .rows .tr, .int, .int, .int] [0]
abbrev h44_x {α : Type} (G2 : T26 α) : Nat → Ctx α := ctxS false M eqs jt0 [] [lpT 2 h44_t2 h44_p2 R0 G2]
def h44_b2 {α : Type} (G2 : T26 α) (k : Nat) (i : Int) (list1 : List (Int × Int × Int)) (x3 : Int) (x4 : Int) (x5 : Int) (b0 : Int → (List (Int × Int × Int)) → Int → Int → Int → Option α) (r0 : Bool → Option α) : Option α :=
  bif decide (i < (((List.length list1) : Nat) : Int)) then
    bif (decide (0 ≤ i) && decide (i < (((List.length list1) : Nat) : Int))) then
      (list1[i.toNat]?).bind fun e_ =>
      bif (decide (e_.1 = x3) && (decide (e_.2.1 = x4) && decide (e_.2.2 = x5))) then
        r0 true
      else
        G2 k (w64 (i + 1)) list1 x3 x4 x5 b0 r0
    else
      none
  else
    b0 i list1 x3 x4 x5
theorem h44_g2 {α : Type} (G2 : T26 α) (n : Nat) : GenL (α := α) Try.prog Try.f44 S24 (h44_x G2 n) 2 h44_t2 h44_p2 n G2 (h44_b2 G2) := by intro _ _ _ _ _ _ _; kernel_rfl
def h44_b {α : Type} (G2 : T26 α) (k : Nat) (list : List (Int × Int × Int)) (x : Int) (x1 : Int) (x2 : Int) (r0 : Bool → Option α) : Option α :=
  G2 k 0 list x x1 x2
    (fun _ _ _ _ _ =>
      r0 false)
    r0
theorem h44_g {α : Type} (G2 : T26 α) (n : Nat) : GenF (α := α) Try.prog Try.f44 S24 (h44_x G2 n) n (h44_b G2) := by intro _ _ _ _ _; kernel_rfl
theorem h44_good {α : Type} : ∀ n, GoodFn (α := α) Try.prog 44 (byShape S24.sh (callS S24 spec_l06Has n)) := good_of Try.func44 (by kernel_rfl) (by kernel_rfl) (by kernel_rfl) eqs_ok (fun n => h44_g spec_l06Has_l2 n) (by delta h44_b spec_l06Has; rfl) allN (allC (loop_fine (by kernel_rfl) (fun n => by delta h44_b2; funext _ _ _ _ _ _ _; exact (spec_l06Has_l2.eq_2 ..).symm) (fun n => h44_g2 spec_l06Has_l2 n)) allN)

/-! loop.example/g01297/spec.AreEquivalentForms -/
abbrev h19_x {α : Type} (F0 : T1 α) (F1 : T4 α) (F2 : T16 α) (F3 : T25 α) : Nat → Ctx α := ctxS false M eqs jt0 [⟨31, S7, F0⟩, ⟨32, S5, F1⟩, ⟨39, S15, F2⟩, ⟨44, S24, F3⟩] []
def h19_b {α : Type} (F0 : T1 α) (F1 : T4 α) (F2 : T16 α) (F3 : T25 α) (k : Nat) (x : Int) (x1 : Int) (x2 : Int) (y : Int) (y1 : Int) (y2 : Int) (r0 : Bool → Int → Option α) : Option α :=
  F0 k x x1 x2 fun v =>
  bif (!v) then
    r0 false 1
  else
    F0 k y y1 y2 fun v1 =>
    bif (!v1) then
      r0 false 1
    else
      F1 k x x1 x2 fun v2 =>
      F1 k y y1 y2 fun v3 =>
      bif (!decide (v2 = v3)) then
        r0 false 0
      else
        F2 k x x1 x2 fun v4 =>
        F2 k y y1 y2 fun v5 =>
        bif (true && decide (0 < (((List.length v5) : Nat) : Int))) then
          (v5[0]?).bind fun e_ =>
          F3 k v4 e_.1 e_.2.1 e_.2.2 fun v6 =>
          r0 v6 0
        else
          none
theorem h19_g {α : Type} (F0 : T1 α) (F1 : T4 α) (F2 : T16 α) (F3 : T25 α) (n : Nat) : GenF (α := α) Try.prog Try.f19 S25 (h19_x F0 F1 F2 F3 n) n (h19_b F0 F1 F2 F3) := by intro _ _ _ _ _ _ _; kernel_rfl
theorem h19_good {α : Type} : ∀ n, GoodFn (α := α) Try.prog 19 (byShape S25.sh (callS S25 spec_AreEquivalentForms n)) := good_of Try.func19 (by kernel_rfl) (by kernel_rfl) (by kernel_rfl) eqs_ok (fun n => h19_g spec_l06Is spec_l06Disc spec_l06Cycle spec_l06Has n) (by delta h19_b spec_AreEquivalentForms; rfl) (allC h31_good (allC h32_good (allC h39_good (allC h44_good allN)))) allN

/-! loop.example/g01297/spec.l01Near -/
abbrev h46_x {α : Type} (F0 : T7 α) (F1 : T9 α) : Nat → Ctx α := ctxS false M eqs jt0 [⟨42, S2, F0⟩, ⟨45, S10, F1⟩] []
def h46_b {α : Type} (F0 : T7 α) (F1 : T9 α) (k : Nat) (s : List Int) (s1 : Int) (s2 : Int) (most : Int) (r0 : Int → Int → Int → Option α) : Option α :=
  F0 k s s1 s2 14 fun v v1 v2 =>
  bif decide (v = 0) then
    F1 k s v1 v2 [(-1), (w64 (most + 1)), 1099511627776, (-4611686018427387904)] fun v3 v4 v5 =>
    r0 v3 v4 v5
  else
    F0 k s v1 v2 (w64 (most + 1)) fun v6 v7 v8 =>
    r0 v6 v7 v8
theorem h46_g {α : Type} (F0 : T7 α) (F1 : T9 α) (n : Nat) : GenF (α := α) Try.prog Try.f46 S2 (h46_x F0 F1 n) n (h46_b F0 F1) := by intro _ _ _ _ _; kernel_rfl
theorem h46_good {α : Type} : ∀ n, GoodFn (α := α) Try.prog 46 (byShape S2.sh (callS S2 spec_l01Near n)) := good_of Try.func46 (by kernel_rfl) (by kernel_rfl) (by kernel_rfl) eqs_ok (fun n => h46_g spec_l01Next spec_l01Pick n) (by delta h46_b spec_l01Near; rfl) (allC h42_good (allC h45_good allN)) allN

/-! loop.example/g01297/spec.DrawReducedForms -/
abbrev h20_x {α : Type} (F0 : T11 α) (F1 : T7 α) (F2 : T7 α) (F3 : T9 α) : Nat → Ctx α := ctxS false M eqs jt0 [⟨29, S1, F0⟩, ⟨42, S2, F1⟩, ⟨46, S2, F2⟩, ⟨45, S10, F3⟩] []
def h20_b {α : Type} (F0 : T11 α) (F1 : T7 α) (F2 : T7 α) (F3 : T9 α) (k : Nat) (code : List Int) (r0 : Int → Option α) : Option α :=
  F0 k code fun v v1 =>
  F1 k code v v1 60 fun v2 v3 v4 =>
  F1 k code v3 v4 60 fun v5 v6 v7 =>
  F1 k code v6 v7 60 fun v8 v9 v10 =>
  F2 k code v9 v10 4000 fun v11 v12 v13 =>
  F3 k code v12 v13 [v2, (w64 (4 * v5)), (w64 ((w64 (4 * v8)) + 1)), v11] fun v14 _ _ =>
  r0 v14
theorem h20_g {α : Type} (F0 : T11 α) (F1 : T7 α) (F2 : T7 α) (F3 : T9 α) (n : Nat) : GenF (α := α) Try.prog Try.f20 S26 (h20_x F0 F1 F2 F3 n) n (h20_b F0 F1 F2 F3) := by intro _ _; kernel_rfl
theorem h20_good {α : Type} : ∀ n, GoodFn (α := α) Try.prog 20 (byShape S26.sh (callS S26 spec_DrawReducedForms n)) := good_of Try.func20 (by kernel_rfl) (by kernel_rfl) (by kernel_rfl) eqs_ok (fun n => h20_g spec_l01From spec_l01Next spec_l01Near spec_l01Pick n) (by delta h20_b spec_DrawReducedForms; rfl) (allC h29_good (allC h42_good (allC h46_good (allC h45_good allN)))) allN

/-! loop.example/g01297/impl.discFault -/
abbrev h47_x {α : Type} (F0 : T1 α) (F1 : T3 α) : Nat → Ctx α := ctxS false M eqs jt0 [⟨61, S3, F0⟩, ⟨36, S4, F1⟩] []
def h47_b {α : Type} (F0 : T1 α) (F1 : T3 α) (k : Nat) (d : Int) (r0 : Int → Option α) : Option α :=
  F0 k d 1 4000 fun v =>
  bif (!v) then
    r0 2
  else
    F1 k d fun v1 =>
    bif (!v1) then
      r0 5
    else
    bif decide (1 < (Int.tmod d 4)) then
      r0 5
    else
      r0 0
theorem h47_g {α : Type} (F0 : T1 α) (F1 : T3 α) (n : Nat) : GenF (α := α) Try.prog Try.f47 S6 (h47_x F0 F1 n) n (h47_b F0 F1) := by intro _ _; kernel_rfl
theorem h47_good {α : Type} : ∀ n, GoodFn (α := α) Try.prog 47 (byShape S6.sh (callS S6 impl_discFault n)) := good_of Try.func47 (by kernel_rfl) (by kernel_rfl) (by kernel_rfl) eqs_ok (fun n => h47_g impl_in impl_discOk n) (by delta h47_b impl_discFault; rfl) (allC h61_good (allC h36_good allN)) allN

/-! loop.example/g01297/impl.reducedForms -/
def h48_t6 : Tpl := ⟨(.int .i64 :: (.any :: (.any :: (.sl 512 :: (.int .i64 :: (.int .i64 :: (.int .i64 :: (anyN 47 [])))))))), [(512, .rows 2 25 .tr)], [], false⟩
def h48_p6 : PcS := loopS [.int, .int, .int, .int, .rows .tr] [2]
def h48_t3 : Tpl := ⟨(.int .i64 :: (.any :: (.any :: (.sl 512 :: (.int .i64 :: (.int .i64 :: (anyN 48 []))))))), [(512, .rows 2 25 .tr)], [], false⟩
def h48_p3 : PcS := loopS [.int, .int, .int, .rows .tr] [0]
abbrev h48_x {α : Type} (F0 : T5 α) (F1 : T1 α) (G6 : T27 α) (G3 : T28 α) : Nat → Ctx α := ctxS false M eqs jt0 [⟨56, S6, F0⟩, ⟨40, S7, F1⟩] [lpT 6 h48_t6 h48_p6 R7 G6, lpT 3 h48_t3 h48_p3 R7 G3]
def h48_b6 {α : Type} (F1 : T1 α) (G6 : T27 α) (k : Nat) (d2 : Int) (w1 : Int) (a1 : Int) (b_ : Int) (out1 : List (Int × Int × Int)) (b2 : Int → Int → Int → Int → (List (Int × Int × Int)) → Option α) (r0 : (List (Int × Int × Int)) → Option α) : Option α :=
  bif decide (b_ ≤ w1) then
    bif (!decide (a1 = 0)) then
      bif decide ((w64 (4 * a1)) = 0) then
        none
      else
      bif (!decide ((Int.tmod (w64 ((w64 (b_ * b_)) - d2)) (w64 (4 * a1))) = 0)) then
        G6 k d2 w1 a1 (w64 (b_ + 1)) out1 b2 r0
      else
      bif decide ((w64 (4 * a1)) = 0) then
        none
      else
        F1 k a1 b_ (w64 (Int.tdiv (w64 ((w64 (b_ * b_)) - d2)) (w64 (4 * a1)))) fun v1 =>
        bif v1 then
          bif decide (((List.length out1) + 1) ≤ big) then
            G6 k d2 w1 a1 (w64 (b_ + 1)) (out1 ++ [(a1, b_, (w64 (Int.tdiv (w64 ((w64 (b_ * b_)) - d2)) (w64 (4 * a1)))))]) b2 r0
          else
            none
        else
          G6 k d2 w1 a1 (w64 (b_ + 1)) out1 b2 r0
    else
      b2 d2 w1 a1 b_ out1
  else
    b2 d2 w1 a1 b_ out1
theorem h48_g6 {α : Type} (F0 : T5 α) (F1 : T1 α) (G6 : T27 α) (G3 : T28 α) (n : Nat) : GenL (α := α) Try.prog Try.f48 S27 (h48_x F0 F1 G6 G3 n) 6 h48_t6 h48_p6 n G6 (h48_b6 F1 G6) := by intro _ _ _ _ _ _ _; kernel_rfl
def h48_b3 {α : Type} (G6 : T27 α) (G3 : T28 α) (k : Nat) (d1 : Int) (w : Int) (a : Int) (out : List (Int × Int × Int)) (b0 : Int → Int → Int → (List (Int × Int × Int)) → Option α) (r0 : (List (Int × Int × Int)) → Option α) : Option α :=
  bif decide (a ≤ w) then
    G6 k d1 w a 1 out
      (fun d3 w2 a2 _ out2 =>
        G3 k d3 w2 (w64 (a2 + 1)) out2 b0 r0)
      r0
  else
    b0 d1 w a out
theorem h48_g3 {α : Type} (F0 : T5 α) (F1 : T1 α) (G6 : T27 α) (G3 : T28 α) (n : Nat) : GenL (α := α) Try.prog Try.f48 S27 (h48_x F0 F1 G6 G3 n) 3 h48_t3 h48_p3 n G3 (h48_b3 G6 G3) := by intro _ _ _ _ _ _; kernel_rfl
def h48_b {α : Type} (F0 : T5 α) (G3 : T28 α) (k : Nat) (d : Int) (r0 : (List (Int × Int × Int)) → Option α) : Option α :=
  F0 k d fun v =>
  G3 k d v (w64 (0 - v)) []
    (fun _ _ _ out3 =>
      r0 out3)
    r0
theorem h48_g {α : Type} (F0 : T5 α) (F1 : T1 α) (G6 : T27 α) (G3 : T28 α) (n : Nat) : GenF (α := α) Try.prog Try.f48 S27 (h48_x F0 F1 G6 G3 n) n (h48_b F0 G3) := by intro _ _; kernel_rfl
theorem h48_good {α : Type} : ∀ n, GoodFn (α := α) Try.prog 48 (byShape S27.sh (callS S27 impl_reducedForms n)) := good_of Try.func48 (by kernel_rfl) (by kernel_rfl) (by kernel_rfl) eqs_ok (fun n => h48_g impl_root impl_Form_reduced impl_reducedForms_l6 impl_reducedForms_l3 n) (by delta h48_b impl_reducedForms; rfl) (allC h56_good (allC h40_good allN)) (allC (loop_fine (by kernel_rfl) (fun n => by delta h48_b6; funext _ _ _ _ _ _ _; exact (impl_reducedForms_l6.eq_2 ..).symm) (fun n => h48_g6 impl_root impl_Form_reduced impl_reducedForms_l6 impl_reducedForms_l3 n)) (allC (loop_fine (by kernel_rfl) (fun n => by delta h48_b3; funext _ _ _ _ _ _; exact (impl_reducedForms_l3.eq_2 ..).symm) (fun n => h48_g3 impl_root impl_Form_reduced impl_reducedForms_l6 impl_reducedForms_l3 n)) allN))

/-! loop.example/g01297/impl.ReducedForms -/
abbrev h21_x {α : Type} (F0 : T5 α) (F1 : T29 α) : Nat → Ctx α := ctxS false M eqs jt0 [⟨47, S6, F0⟩, ⟨48, S27, F1⟩] []
def h21_b {α : Type} (F0 : T5 α) (F1 : T29 α) (k : Nat) (d : Int) (r0 : Int → Option α) (r1 : (List (Int × Int × Int)) → Int → Option α) : Option α :=
  F0 k d fun v =>
  bif (!decide (v = 0)) then
    r0 v
  else
    F1 k d fun v1 =>
    r1 v1 0
theorem h21_g {α : Type} (F0 : T5 α) (F1 : T29 α) (n : Nat) : GenF (α := α) Try.prog Try.f21 S21 (h21_x F0 F1 n) n (h21_b F0 F1) := by intro _ _; kernel_rfl
theorem h21_good {α : Type} : ∀ n, GoodFn (α := α) Try.prog 21 (byShape S21.sh (callS S21 impl_ReducedForms n)) := good_of Try.func21 (by kernel_rfl) (by kernel_rfl) (by kernel_rfl) eqs_ok (fun n => h21_g impl_discFault impl_reducedForms n) (by delta h21_b impl_ReducedForms; rfl) (allC h47_good (allC h48_good allN)) allN

/-! loop.example/g01297/impl.ClassNumber -/
def h23_t11 : Tpl := ⟨(anyN 5 (.int .i64 :: (.map 1024 :: (anyN 11 (.sl 1152 :: (.int .i64 :: (.int .i64 :: (anyN 9 (.sl 1920 :: (.int .i64 :: (.int .i64 :: (anyN 8 [])))))))))))), [(1024, .map 66 .tr .bool), (1152, .rows 2 25 .tr), (1920, .rows 2 25 .tr)], [], false⟩
def h23_p11 : PcS := loopS [.int, .int, .int, .int, .int, .rows .tr, .rows .bool, .rows .tr, .rows .tr] [2]
def h23_t6 : Tpl := ⟨(anyN 5 (.int .i64 :: (.map 1024 :: (anyN 11 (.sl 1152 :: (.int .i64 :: (.int .i64 :: (anyN 20 [])))))))), [(1024, .map 66 .tr .bool), (1152, .rows 2 25 .tr)], [], false⟩
def h23_p6 : PcS := loopS [.int, .int, .int, .rows .tr, .rows .bool, .rows .tr] [0]
abbrev h23_x {α : Type} (F0 : T5 α) (F1 : T29 α) (F2 : T16 α) (G11 : T30 α) (G6 : T31 α) : Nat → Ctx α := ctxS false M eqs jt0 [⟨47, S6, F0⟩, ⟨48, S27, F1⟩, ⟨38, S15, F2⟩] [lpT 11 h23_t11 h23_p11 R9 G11, lpT 6 h23_t6 h23_p6 R9 G6]
def h23_b11 {α : Type} (G11 : T30 α) (k : Nat) (many1 : Int) (x3 : Int) (x4 : Int) (x5 : Int) (x6 : Int) (seen2 : List (Int × Int × Int)) (seen3 : List Bool) (x7 : List (Int × Int × Int)) (x8 : List (Int × Int × Int)) (b2 : Int → Int → Int → Int → Int → (List (Int × Int × Int)) → List Bool → (List (Int × Int × Int)) → (List (Int × Int × Int)) → Option α) (r0 : Int → Int → Option α) : Option α :=
  bif decide (x6 < x5) then
    bif (decide (0 ≤ x6) && decide (x6 < (((List.length x8) : Nat) : Int))) then
      (x8[x6.toNat]?).bind fun e_1 =>
      G11 k many1 x3 x4 x5 (w64 (x6 + 1)) (putK .tr seen2 (e_1.1, e_1.2.1, e_1.2.2)) (putV .tr .bool seen2 seen3 (e_1.1, e_1.2.1, e_1.2.2) true) x7 x8 b2 r0
    else
      none
  else
    b2 many1 x3 x4 x5 x6 seen2 seen3 x7 x8
theorem h23_g11 {α : Type} (F0 : T5 α) (F1 : T29 α) (F2 : T16 α) (G11 : T30 α) (G6 : T31 α) (n : Nat) : GenL (α := α) Try.prog Try.f23 S28 (h23_x F0 F1 F2 G11 G6 n) 11 h23_t11 h23_p11 n G11 (h23_b11 G11) := by intro _ _ _ _ _ _ _ _ _ _ _; kernel_rfl
def h23_b6 {α : Type} (F2 : T16 α) (G11 : T30 α) (G6 : T31 α) (k : Nat) (many : Int) (x : Int) (x1 : Int) (seen : List (Int × Int × Int)) (seen1 : List Bool) (x2 : List (Int × Int × Int)) (b0 : Int → Int → Int → (List (Int × Int × Int)) → List Bool → (List (Int × Int × Int)) → Option α) (r0 : Int → Int → Option α) : Option α :=
  bif decide (x1 < x) then
    bif (decide (0 ≤ x1) && decide (x1 < (((List.length x2) : Nat) : Int))) then
      (x2[x1.toNat]?).bind fun e_ =>
      (getM .tr .bool seen seen1 (e_.1, e_.2.1, e_.2.2) false : Bool) |> fun (g : Bool) =>
      bif g then
        G6 k many x (w64 (x1 + 1)) seen seen1 x2 b0 r0
      else
        F2 k e_.1 e_.2.1 e_.2.2 fun v2 =>
        G11 k (w64 (many + 1)) x x1 (((List.length v2) : Nat) : Int) 0 seen seen1 x2 v2
          (fun many2 x9 x10 _ _ seen4 seen5 x13 _ =>
            G6 k many2 x9 (w64 (x10 + 1)) seen4 seen5 x13 b0 r0)
          r0
    else
      none
  else
    b0 many x x1 seen seen1 x2
theorem h23_g6 {α : Type} (F0 : T5 α) (F1 : T29 α) (F2 : T16 α) (G11 : T30 α) (G6 : T31 α) (n : Nat) : GenL (α := α) Try.prog Try.f23 S28 (h23_x F0 F1 F2 G11 G6 n) 6 h23_t6 h23_p6 n G6 (h23_b6 F2 G11 G6) := by intro _ _ _ _ _ _ _ _; kernel_rfl
def h23_b {α : Type} (F0 : T5 α) (F1 : T29 α) (G6 : T31 α) (k : Nat) (d : Int) (r0 : Int → Int → Option α) : Option α :=
  F0 k d fun v =>
  bif (!decide (v = 0)) then
    r0 0 v
  else
    F1 k d fun v1 =>
    G6 k 0 (((List.length v1) : Nat) : Int) 0 [] [] v1
      (fun many3 _ _ _ _ _ =>
        r0 many3 0)
      r0
theorem h23_g {α : Type} (F0 : T5 α) (F1 : T29 α) (F2 : T16 α) (G11 : T30 α) (G6 : T31 α) (n : Nat) : GenF (α := α) Try.prog Try.f23 S28 (h23_x F0 F1 F2 G11 G6 n) n (h23_b F0 F1 G6) := by intro _ _; kernel_rfl
theorem h23_good {α : Type} : ∀ n, GoodFn (α := α) Try.prog 23 (byShape S28.sh (callS S28 impl_ClassNumber n)) := good_of Try.func23 (by kernel_rfl) (by kernel_rfl) (by kernel_rfl) eqs_ok (fun n => h23_g impl_discFault impl_reducedForms impl_Form_cycle impl_ClassNumber_l11 impl_ClassNumber_l6 n) (by delta h23_b impl_ClassNumber; rfl) (allC h47_good (allC h48_good (allC h38_good allN))) (allC (loop_fine (by kernel_rfl) (fun n => by delta h23_b11; funext _ _ _ _ _ _ _ _ _ _ _; exact (impl_ClassNumber_l11.eq_2 ..).symm) (fun n => h23_g11 impl_discFault impl_reducedForms impl_Form_cycle impl_ClassNumber_l11 impl_ClassNumber_l6 n)) (allC (loop_fine (by kernel_rfl) (fun n => by delta h23_b6; funext _ _ _ _ _ _ _ _; exact (impl_ClassNumber_l6.eq_2 ..).symm) (fun n => h23_g6 impl_discFault impl_reducedForms impl_Form_cycle impl_ClassNumber_l11 impl_ClassNumber_l6 n)) allN))

/-! loop.example/g01297/spec.ClassNumber -/
def h24_t6 : Tpl := ⟨(anyN 4 (.sl 704 :: (.any :: (.int .i64 :: (.sl 1088 :: (.int .i64 :: (anyN 32 []))))))), [(704, .rows 2 25 .tr), (1088, .rows 2 25 .tr)], [(4, 704, 25, .tr)], false⟩
def h24_p6 : PcS := loopS [.int, .int, .rows .tr, .rows .tr] [0]
abbrev h24_x {α : Type} (F0 : T22 α) (F1 : T25 α) (F2 : T16 α) (G6 : T32 α) : Nat → Ctx α := ctxS false M eqs jt0 [⟨49, S21, F0⟩, ⟨44, S24, F1⟩, ⟨39, S15, F2⟩] [lpT 6 h24_t6 h24_p6 R9 G6]
def h24_b6 {α : Type} (F1 : T25 α) (F2 : T16 α) (G6 : T32 α) (k : Nat) (count : Int) (i : Int) (list : List (Int × Int × Int)) (met : List (Int × Int × Int)) (b0 : Int → Int → (List (Int × Int × Int)) → (List (Int × Int × Int)) → Option α) (r0 : Int → Int → Option α) : Option α :=
  bif decide (i < (((List.length list) : Nat) : Int)) then
    bif (decide (0 ≤ i) && decide (i < (((List.length list) : Nat) : Int))) then
      (list[i.toNat]?).bind fun e_ =>
      F1 k met e_.1 e_.2.1 e_.2.2 fun v1 =>
      bif (!v1) then
        bif (decide (0 ≤ i) && decide (i < (((List.length list) : Nat) : Int))) then
          (list[i.toNat]?).bind fun e_1 =>
          F2 k e_1.1 e_1.2.1 e_1.2.2 fun v2 =>
          bif decide (((List.length met) + (List.length v2)) ≤ big) then
            G6 k (w64 (count + 1)) (w64 (i + 1)) list (met ++ v2) b0 r0
          else
            none
        else
          none
      else
        G6 k count (w64 (i + 1)) list met b0 r0
    else
      none
  else
    b0 count i list met
theorem h24_g6 {α : Type} (F0 : T22 α) (F1 : T25 α) (F2 : T16 α) (G6 : T32 α) (n : Nat) : GenL (α := α) Try.prog Try.f24 S28 (h24_x F0 F1 F2 G6 n) 6 h24_t6 h24_p6 n G6 (h24_b6 F1 F2 G6) := by intro _ _ _ _ _ _; kernel_rfl
def h24_b {α : Type} (F0 : T22 α) (G6 : T32 α) (k : Nat) (d : Int) (r0 : Int → Int → Option α) : Option α :=
  F0 k d
    (fun v =>
      bif (!decide (v = 0)) then
        r0 0 v
      else
        G6 k 0 0 [] []
          (fun count1 _ _ _ =>
            r0 count1 0)
          r0)
    (fun v3 v4 =>
      bif (!decide (v4 = 0)) then
        r0 0 v4
      else
        G6 k 0 0 v3 []
          (fun count2 _ _ _ =>
            r0 count2 0)
          r0)
theorem h24_g {α : Type} (F0 : T22 α) (F1 : T25 α) (F2 : T16 α) (G6 : T32 α) (n : Nat) : GenF (α := α) Try.prog Try.f24 S28 (h24_x F0 F1 F2 G6 n) n (h24_b F0 G6) := by intro _ _; kernel_rfl
theorem h24_good {α : Type} : ∀ n, GoodFn (α := α) Try.prog 24 (byShape S28.sh (callS S28 spec_ClassNumber n)) := good_of Try.func24 (by kernel_rfl) (by kernel_rfl) (by kernel_rfl) eqs_ok (fun n => h24_g spec_l06All spec_l06Has spec_l06Cycle spec_ClassNumber_l6 n) (by delta h24_b spec_ClassNumber; rfl) (allC h49_good (allC h44_good (allC h39_good allN))) (allC (loop_fine (by kernel_rfl) (fun n => by delta h24_b6; funext _ _ _ _ _ _; exact (spec_ClassNumber_l6.eq_2 ..).symm) (fun n => h24_g6 spec_l06All spec_l06Has spec_l06Cycle spec_ClassNumber_l6 n)) allN)

/-! loop.example/g01297/spec.l01Times -/
abbrev h73_x {α : Type}  : Nat → Ctx α := ctxS false M eqs jt0 [] []
def h73_b {α : Type}  (_ : Nat) (m : Int) (m1 : Int) (m2 : Int) (m3 : Int) (n_ : Int) (n_1 : Int) (n_2 : Int) (n_3 : Int) (r0 : Int → Int → Int → Int → Option α) : Option α :=
  r0 (w64 ((w64 (m * n_)) + (w64 (m1 * n_2)))) (w64 ((w64 (m * n_1)) + (w64 (m1 * n_3)))) (w64 ((w64 (m2 * n_)) + (w64 (m3 * n_2)))) (w64 ((w64 (m2 * n_1)) + (w64 (m3 * n_3))))
theorem h73_g {α : Type}  (n : Nat) : GenF (α := α) Try.prog Try.f73 S29 (h73_x n) n (h73_b) := by intro _ _ _ _ _ _ _ _ _; kernel_rfl
theorem h73_good {α : Type} : ∀ n, GoodFn (α := α) Try.prog 73 (byShape S29.sh (callS S29 spec_l01Times n)) := good_of Try.func73 (by kernel_rfl) (by kernel_rfl) (by kernel_rfl) eqs_ok (fun n => h73_g n) (by delta h73_b spec_l01Times; rfl) allN allN

/-! loop.example/g01297/spec.l01DrawUnit -/
def h64_t3 : Tpl := ⟨(.ptr 0 0 0 :: (.any :: (.ptr 128 0 0 :: (.ptr 192 0 0 :: (.int .i64 :: (anyN 37 [])))))), [(0, .mix 1 72 [.sl 1, .int .i64, .int .u64]), (128, .ints 2 46 .i64 4), (192, .ints 2 46 .i64 4), (1, .rows 0 5 (.int .u8))], [], false⟩
def h64_p3 : PcS := loopS [.int, .int, .int, .int, .int, .int, .int, .int, .int, .int, .int, .rows (.int .u8)] [0]
abbrev h64_x {α : Type} (F0 : T7 α) (F1 : T33 α) (G3 : T34 α) : Nat → Ctx α := ctxS false M eqs jt0 [⟨42, S2, F0⟩, ⟨73, S29, F1⟩] [lpT 3 h64_t3 h64_p3 R13 G3]
def h64_b3 {α : Type} (F0 : T7 α) (F1 : T33 α) (G3 : T34 α) (k : Nat) (n_ : Int) (s3 : Int) (s4 : Int) (x : Int) (x1 : Int) (x2 : Int) (x3 : Int) (out : Int) (out1 : Int) (out2 : Int) (out3 : Int) (b_ : List Int) (b0 : Int → Int → Int → Int → Int → Int → Int → Int → Int → Int → Int → List Int → Option α) (r0 : Int → Int → Int → Int → Int → Int → Option α) : Option α :=
  bif decide (0 < n_) then
    F0 k b_ s3 s4 7 fun v3 v4 v5 =>
    F0 k b_ v4 v5 3 fun v6 v7 v8 =>
    bif decide (v6 = 0) then
      F1 k out out1 out2 out3 1 (w64 (v3 - 3)) 0 1 fun v9 v10 v11 v12 =>
      G3 k (w64 (n_ - 1)) v7 v8 x x1 x2 x3 v9 v10 v11 v12 b_ b0 r0
    else
    bif decide (v6 = 1) then
      F1 k out out1 out2 out3 1 0 (w64 (v3 - 3)) 1 fun v13 v14 v15 v16 =>
      G3 k (w64 (n_ - 1)) v7 v8 x x1 x2 x3 v13 v14 v15 v16 b_ b0 r0
    else
      F1 k out out1 out2 out3 0 1 1 0 fun v17 v18 v19 v20 =>
      G3 k (w64 (n_ - 1)) v7 v8 x x1 x2 x3 v17 v18 v19 v20 b_ b0 r0
  else
    b0 n_ s3 s4 x x1 x2 x3 out out1 out2 out3 b_
theorem h64_g3 {α : Type} (F0 : T7 α) (F1 : T33 α) (G3 : T34 α) (n : Nat) : GenL (α := α) Try.prog Try.f64 S30 (h64_x F0 F1 G3 n) 3 h64_t3 h64_p3 n G3 (h64_b3 F0 F1 G3) := by intro _ _ _ _ _ _ _ _ _ _ _ _ _ _ _ _ _; kernel_rfl
def h64_b {α : Type} (F0 : T7 α) (G3 : T34 α) (k : Nat) (s : List Int) (s1 : Int) (s2 : Int) (r0 : Int → Int → Int → Int → Int → Int → Option α) : Option α :=
  F0 k s s1 s2 5 fun v v1 v2 =>
  G3 k v v1 v2 0 0 0 0 1 0 0 1 s
    (fun _ s5 s6 _ _ _ _ out4 out5 out6 out7 _ =>
      r0 out4 out5 out6 out7 s5 s6)
    r0
theorem h64_g {α : Type} (F0 : T7 α) (F1 : T33 α) (G3 : T34 α) (n : Nat) : GenF (α := α) Try.prog Try.f64 S30 (h64_x F0 F1 G3 n) n (h64_b F0 G3) := by intro _ _ _ _; kernel_rfl
theorem h64_good {α : Type} : ∀ n, GoodFn (α := α) Try.prog 64 (byShape S30.sh (callS S30 spec_l01DrawUnit n)) := good_of Try.func64 (by kernel_rfl) (by kernel_rfl) (by kernel_rfl) eqs_ok (fun n => h64_g spec_l01Next spec_l01Times spec_l01DrawUnit_l3 n) (by delta h64_b spec_l01DrawUnit; rfl) (allC h42_good (allC h73_good allN)) (allC (loop_fine (by kernel_rfl) (fun n => by delta h64_b3; funext _ _ _ _ _ _ _ _ _ _ _ _ _ _; exact (spec_l01DrawUnit_l3.eq_2 ..).symm) (fun n => h64_g3 spec_l01Next spec_l01Times spec_l01DrawUnit_l3 n)) allN)

/-! loop.example/g01297/spec.l01Size -/
abbrev h72_x {α : Type} (F0 : T9 α) : Nat → Ctx α := ctxS false M eqs jt0 [⟨45, S10, F0⟩] []
def h72_b {α : Type} (F0 : T9 α) (k : Nat) (s : List Int) (s1 : Int) (s2 : Int) (r0 : Int → Int → Int → Option α) : Option α :=
  F0 k s s1 s2 [3, 6, 12, 100, 1000, 1000000] fun v v1 v2 =>
  r0 v v1 v2
theorem h72_g {α : Type} (F0 : T9 α) (n : Nat) : GenF (α := α) Try.prog Try.f72 S31 (h72_x F0 n) n (h72_b F0) := by intro _ _ _ _; kernel_rfl
theorem h72_good {α : Type} : ∀ n, GoodFn (α := α) Try.prog 72 (byShape S31.sh (callS S31 spec_l01Size n)) := good_of Try.func72 (by kernel_rfl) (by kernel_rfl) (by kernel_rfl) eqs_ok (fun n => h72_g spec_l01Pick n) (by delta h72_b spec_l01Size; rfl) (allC h45_good allN) allN

/-! loop.example/g01297/spec.l01DrawPoint -/
abbrev h71_x {α : Type} (F0 : T7 α) : Nat → Ctx α := ctxS false M eqs jt0 [⟨42, S2, F0⟩] []
def h71_b {α : Type} (F0 : T7 α) (k : Nat) (s : List Int) (s1 : Int) (s2 : Int) (most : Int) (r0 : Int → Int → Int → Int → Option α) : Option α :=
  F0 k s s1 s2 (w64 ((w64 (2 * most)) + 1)) fun v v1 v2 =>
  F0 k s v1 v2 (w64 ((w64 (2 * most)) + 1)) fun v3 v4 v5 =>
  r0 (w64 (v - most)) (w64 (v3 - most)) v4 v5
theorem h71_g {α : Type} (F0 : T7 α) (n : Nat) : GenF (α := α) Try.prog Try.f71 S32 (h71_x F0 n) n (h71_b F0) := by intro _ _ _ _ _; kernel_rfl
theorem h71_good {α : Type} : ∀ n, GoodFn (α := α) Try.prog 71 (byShape S32.sh (callS S32 spec_l01DrawPoint n)) := good_of Try.func71 (by kernel_rfl) (by kernel_rfl) (by kernel_rfl) eqs_ok (fun n => h71_g spec_l01Next n) (by delta h71_b spec_l01DrawPoint; rfl) (allC h42_good allN) allN

/-! loop.example/g01297/spec.l01AnyMatrix -/
abbrev h63_x {α : Type} (F0 : T35 α) (F1 : T7 α) (F2 : T36 α) (F3 : T37 α) (F4 : T9 α) : Nat → Ctx α := ctxS false M eqs jt0 [⟨64, S30, F0⟩, ⟨42, S2, F1⟩, ⟨72, S31, F2⟩, ⟨71, S32, F3⟩, ⟨45, S10, F4⟩] []
def h63_b {α : Type} (F0 : T35 α) (F1 : T7 α) (F2 : T36 α) (F3 : T37 α) (F4 : T9 α) (k : Nat) (s : List Int) (s1 : Int) (s2 : Int) (r0 : Int → Int → Int → Int → Int → Int → Option α) : Option α :=
  F0 k s s1 s2 fun v v1 v2 v3 v4 v5 =>
  F1 k s v4 v5 3 fun v6 v7 v8 =>
  bif decide (v6 = 0) then
    F2 k s v7 v8 fun v9 v10 v11 =>
    F3 k s v10 v11 v9 fun v12 v13 v14 v15 =>
    F2 k s v14 v15 fun v16 v17 v18 =>
    F3 k s v17 v18 v16 fun v19 v20 v21 v22 =>
    F1 k s v21 v22 40 fun v23 v24 v25 =>
    bif decide (v23 = 0) then
      F1 k s v24 v25 2 fun v26 v27 v28 =>
      bif (decide (0 ≤ v26) && decide (v26 < 2)) then
        F1 k s v27 v28 2 fun v29 v30 v31 =>
        F4 k s v30 v31 [1000001, (-1099511627776)] fun v32 v33 v34 =>
        bif (decide (0 ≤ v29) && decide (v29 < 2)) then
          ([v12, v13, v19, v20][(moved (v26.toNat * 2) v29.toNat 1)]?).bind fun _ =>
          ((List.set [v12, v13, v19, v20] (moved (v26.toNat * 2) v29.toNat 1) v32)[0]?).bind fun e_ =>
          ((List.set [v12, v13, v19, v20] (moved (v26.toNat * 2) v29.toNat 1) v32)[1]?).bind fun e_1 =>
          ((List.set [v12, v13, v19, v20] (moved (v26.toNat * 2) v29.toNat 1) v32)[2]?).bind fun e_2 =>
          ((List.set [v12, v13, v19, v20] (moved (v26.toNat * 2) v29.toNat 1) v32)[3]?).bind fun e_3 =>
          r0 e_ e_1 e_2 e_3 v33 v34
        else
          none
      else
        none
    else
      r0 v12 v13 v19 v20 v24 v25
  else
    F1 k s v7 v8 40 fun v35 v36 v37 =>
    bif decide (v35 = 0) then
      F1 k s v36 v37 2 fun v38 v39 v40 =>
      bif (decide (0 ≤ v38) && decide (v38 < 2)) then
        F1 k s v39 v40 2 fun v41 v42 v43 =>
        F4 k s v42 v43 [1000001, (-1099511627776)] fun v44 v45 v46 =>
        bif (decide (0 ≤ v41) && decide (v41 < 2)) then
          ([v, v1, v2, v3][(moved (v38.toNat * 2) v41.toNat 1)]?).bind fun _ =>
          ((List.set [v, v1, v2, v3] (moved (v38.toNat * 2) v41.toNat 1) v44)[0]?).bind fun e_4 =>
          ((List.set [v, v1, v2, v3] (moved (v38.toNat * 2) v41.toNat 1) v44)[1]?).bind fun e_5 =>
          ((List.set [v, v1, v2, v3] (moved (v38.toNat * 2) v41.toNat 1) v44)[2]?).bind fun e_6 =>
          ((List.set [v, v1, v2, v3] (moved (v38.toNat * 2) v41.toNat 1) v44)[3]?).bind fun e_7 =>
          r0 e_4 e_5 e_6 e_7 v45 v46
        else
          none
      else
        none
    else
      r0 v v1 v2 v3 v36 v37
theorem h63_g {α : Type} (F0 : T35 α) (F1 : T7 α) (F2 : T36 α) (F3 : T37 α) (F4 : T9 α) (n : Nat) : GenF (α := α) Try.prog Try.f63 S30 (h63_x F0 F1 F2 F3 F4 n) n (h63_b F0 F1 F2 F3 F4) := by intro _ _ _ _; kernel_rfl
theorem h63_good {α : Type} : ∀ n, GoodFn (α := α) Try.prog 63 (byShape S30.sh (callS S30 spec_l01AnyMatrix n)) := good_of Try.func63 (by kernel_rfl) (by kernel_rfl) (by kernel_rfl) eqs_ok (fun n => h63_g spec_l01DrawUnit spec_l01Next spec_l01Size spec_l01DrawPoint spec_l01Pick n) (by delta h63_b spec_l01AnyMatrix; rfl) (allC h64_good (allC h42_good (allC h72_good (allC h71_good (allC h45_good allN))))) allN

/-! loop.example/g01297/spec.l06Draw -/
def h66_t7 : Tpl := ⟨(.ptr 0 0 0 :: (anyN 4 (.str :: (.int .i64 :: (.str :: (.int .i64 :: (anyN 40 []))))))), [(0, .mix 1 72 [.sl 1, .int .i64, .int .u64]), (1, .rows 0 5 (.int .u8))], [], false⟩
def h66_p7 : PcS := loopS [.str, .int, .str, .int, .int, .int, .rows (.int .u8)] [2]
def h66_t3 : Tpl := ⟨(.ptr 0 0 0 :: (anyN 4 (.str :: (.int .i64 :: (anyN 42 []))))), [(0, .mix 1 72 [.sl 1, .int .i64, .int .u64]), (1, .rows 0 5 (.int .u8))], [], false⟩
def h66_p3 : PcS := loopS [.str, .int, .int, .int, .rows (.int .u8)] [0]
def h66_t14 : Tpl := ⟨(anyN 5 (.str :: (anyN 43 []))), [(0, .mix 1 72 [.sl 1, .int .i64, .int .u64]), (1, .rows 0 5 (.int .u8))], [], false⟩
def h66_p14 : PcS := loopS [.str, .int, .int, .rows (.int .u8)] [5]
abbrev h66_x {α : Type} (F0 : T7 α) (G7 : T38 α) (G3 : T39 α) (G14 : T40 α) : Nat → Ctx α := ctxS false M eqs jt0 [⟨42, S2, F0⟩] [lpT 7 h66_t7 h66_p7 R15 G7, lpT 3 h66_t3 h66_p3 R15 G3, lpT 14 h66_t14 h66_p14 R15 G14]
def h66_b7 {α : Type} (G7 : T38 α) (k : Nat) (out1 : ByteArray) (k_1 : Int) (letter : ByteArray) (n_ : Int) (s5 : Int) (s6 : Int) (b_1 : List Int) (b2 : ByteArray → Int → ByteArray → Int → Int → Int → List Int → Option α) (r0 : ByteArray → Int → Int → Option α) : Option α :=
  bif decide (0 < n_) then
    bif decide (ByteArray.size out1 + ByteArray.size letter ≤ big) then
      G7 k (out1 ++ letter) k_1 letter (w64 (n_ - 1)) s5 s6 b_1 b2 r0
    else
      none
  else
    b2 out1 k_1 letter n_ s5 s6 b_1
theorem h66_g7 {α : Type} (F0 : T7 α) (G7 : T38 α) (G3 : T39 α) (G14 : T40 α) (n : Nat) : GenL (α := α) Try.prog Try.f66 S33 (h66_x F0 G7 G3 G14 n) 7 h66_t7 h66_p7 n G7 (h66_b7 G7) := by intro _ _ _ _ _ _ _ _ _ _ _ _ _; kernel_rfl
def h66_b3 {α : Type} (F0 : T7 α) (G7 : T38 α) (G3 : T39 α) (k : Nat) (out : ByteArray) (k_ : Int) (s3 : Int) (s4 : Int) (b_ : List Int) (b0 : ByteArray → Int → Int → Int → List Int → Option α) (r0 : ByteArray → Int → Int → Option α) : Option α :=
  bif decide (0 < k_) then
    F0 k b_ s3 s4 2 fun v3 v4 v5 =>
    bif (decide (0 ≤ v3) && decide (v3 < 2)) then
      ([(bs [76]), (bs [82])][v3.toNat]?).bind fun e_ =>
      F0 k b_ v4 v5 3 fun v6 v7 v8 =>
      F0 k b_ v7 v8 2 fun v9 v10 v11 =>
      G7 k out k_ e_ (w64 (1 + (w64 (v6 * v9)))) v10 v11 b_
        (fun out2 k_2 _ _ s7 s8 b_2 =>
          G3 k out2 (w64 (k_2 - 1)) s7 s8 b_2 b0 r0)
        r0
    else
      none
  else
    b0 out k_ s3 s4 b_
theorem h66_g3 {α : Type} (F0 : T7 α) (G7 : T38 α) (G3 : T39 α) (G14 : T40 α) (n : Nat) : GenL (α := α) Try.prog Try.f66 S33 (h66_x F0 G7 G3 G14 n) 3 h66_t3 h66_p3 n G3 (h66_b3 F0 G7 G3) := by intro _ _ _ _ _ _ _ _ _ _ _; kernel_rfl
def h66_b14 {α : Type} (G14 : T40 α) (k : Nat) (out4 : ByteArray) (b_4 : Int) (b_5 : Int) (b_6 : List Int) (b5 : ByteArray → Int → Int → List Int → Option α) (r0 : ByteArray → Int → Int → Option α) : Option α :=
  bif decide ((((ByteArray.size out4) : Nat) : Int) < 201) then
    bif decide (ByteArray.size out4 + ByteArray.size (bs [82]) ≤ big) then
      G14 k (out4 ++ (bs [82])) b_4 b_5 b_6 b5 r0
    else
      none
  else
    b5 out4 b_4 b_5 b_6
theorem h66_g14 {α : Type} (F0 : T7 α) (G7 : T38 α) (G3 : T39 α) (G14 : T40 α) (n : Nat) : GenL (α := α) Try.prog Try.f66 S33 (h66_x F0 G7 G3 G14 n) 14 h66_t14 h66_p14 n G14 (h66_b14 G14) := by intro _ _ _ _ _ _ _ _ _ _; kernel_rfl
def h66_b {α : Type} (F0 : T7 α) (G3 : T39 α) (G14 : T40 α) (k : Nat) (s : List Int) (s1 : Int) (s2 : Int) (most : Int) (r0 : ByteArray → Int → Int → Option α) : Option α :=
  F0 k s s1 s2 (w64 (most + 1)) fun v v1 v2 =>
  G3 k (bs []) v v1 v2 s
    (fun out3 _ s9 s10 b_3 =>
      F0 k b_3 s9 s10 40 fun v12 v13 v14 =>
      bif decide (v12 = 0) then
        bif decide (ByteArray.size out3 + ByteArray.size (bs [88]) ≤ big) then
          r0 (out3 ++ (bs [88])) v13 v14
        else
          none
      else
      bif decide (v12 = 1) then
        G14 k out3 v13 v14 b_3
          (fun out5 b_7 b_8 _ =>
            r0 out5 b_7 b_8)
          r0
      else
        r0 out3 v13 v14)
    r0
theorem h66_g {α : Type} (F0 : T7 α) (G7 : T38 α) (G3 : T39 α) (G14 : T40 α) (n : Nat) : GenF (α := α) Try.prog Try.f66 S33 (h66_x F0 G7 G3 G14 n) n (h66_b F0 G3 G14) := by intro _ _ _ _ _; kernel_rfl
theorem h66_good {α : Type} : ∀ n, GoodFn (α := α) Try.prog 66 (byShape S33.sh (callS S33 spec_l06Draw n)) := good_of Try.func66 (by kernel_rfl) (by kernel_rfl) (by kernel_rfl) eqs_ok (fun n => h66_g spec_l01Next spec_l06Draw_l7 spec_l06Draw_l3 spec_l06Draw_l14 n) (by delta h66_b spec_l06Draw; rfl) (allC h42_good allN) (allC (loop_fine (by kernel_rfl) (fun n => by delta h66_b7; funext _ _ _ _ _ _ _ _ _; exact (spec_l06Draw_l7.eq_2 ..).symm) (fun n => h66_g7 spec_l01Next spec_l06Draw_l7 spec_l06Draw_l3 spec_l06Draw_l14 n)) (allC (loop_fine (by kernel_rfl) (fun n => by delta h66_b3; funext _ _ _ _ _ _ _; exact (spec_l06Draw_l3.eq_2 ..).symm) (fun n => h66_g3 spec_l01Next spec_l06Draw_l7 spec_l06Draw_l3 spec_l06Draw_l14 n)) (allC (loop_fine (by kernel_rfl) (fun n => by delta h66_b14; rfl) (fun n => h66_g14 spec_l01Next spec_l06Draw_l7 spec_l06Draw_l3 spec_l06Draw_l14 n)) allN)))

/-! loop.example/g01297/spec.l01Matrix -/
abbrev h53_x {α : Type} (F0 : T3 α) : Nat → Ctx α := ctxS false M eqs jt0 [⟨58, S4, F0⟩] []
def h53_b {α : Type} (F0 : T3 α) (k : Nat) (m : Int) (m1 : Int) (m2 : Int) (m3 : Int) (r0 : Bool → Option α) : Option α :=
  F0 k m fun v =>
  bif v then
    F0 k m1 fun v1 =>
    bif v1 then
      F0 k m2 fun v2 =>
      bif v2 then
        F0 k m3 fun v3 =>
        r0 v3
      else
        r0 false
    else
      r0 false
  else
    r0 false
theorem h53_g {α : Type} (F0 : T3 α) (n : Nat) : GenF (α := α) Try.prog Try.f53 S34 (h53_x F0 n) n (h53_b F0) := by intro _ _ _ _ _; kernel_rfl
theorem h53_good {α : Type} : ∀ n, GoodFn (α := α) Try.prog 53 (byShape S34.sh (callS S34 spec_l01Matrix n)) := good_of Try.func53 (by kernel_rfl) (by kernel_rfl) (by kernel_rfl) eqs_ok (fun n => h53_g spec_l01Fits n) (by delta h53_b spec_l01Matrix; rfl) (allC h58_good allN) allN

/-! loop.example/g01297/spec.l06Matrix -/
def h65_t3 : Tpl := ⟨(.str :: (.any :: (.ptr 128 0 0 :: (.any :: (.ptr 256 0 0 :: (.int .i64 :: (anyN 28 []))))))), [(128, .ints 2 46 .i64 4), (256, .ints 2 46 .i64 4)], [], false⟩
def h65_p3 : PcS := loopS [.str, .int, .int, .int, .int, .int, .int, .int, .int, .int] [0]
abbrev h65_x {α : Type} (F0 : T33 α) (F1 : T17 α) (G3 : T41 α) : Nat → Ctx α := ctxS false M eqs jt0 [⟨73, S29, F0⟩, ⟨53, S34, F1⟩] [lpT 3 h65_t3 h65_p3 R16 G3]
def h65_b3 {α : Type} (F0 : T33 α) (F1 : T17 α) (G3 : T41 α) (k : Nat) (word1 : ByteArray) (i : Int) (x : Int) (x1 : Int) (x2 : Int) (x3 : Int) (out : Int) (out1 : Int) (out2 : Int) (out3 : Int) (b0 : ByteArray → Int → Int → Int → Int → Int → Int → Int → Int → Int → Option α) (r0 : Int → Int → Int → Int → Bool → Option α) : Option α :=
  bif decide (i < (((ByteArray.size word1) : Nat) : Int)) then
    bif decide (0 ≤ i) then
      (((ByteArray.data word1).toList)[i.toNat]?).bind fun c =>
      bif decide (((c.toNat : Nat) : Int) = 82) then
        F0 k out out1 out2 out3 1 1 0 1 fun v v1 v2 v3 =>
        F1 k v v1 v2 v3 fun v4 =>
        bif (!v4) then
          r0 0 0 0 0 false
        else
          G3 k word1 (w64 (i + 1)) x x1 x2 x3 v v1 v2 v3 b0 r0
      else
        F0 k out out1 out2 out3 1 0 1 1 fun v5 v6 v7 v8 =>
        F1 k v5 v6 v7 v8 fun v9 =>
        bif (!v9) then
          r0 0 0 0 0 false
        else
          G3 k word1 (w64 (i + 1)) x x1 x2 x3 v5 v6 v7 v8 b0 r0
    else
      none
  else
    b0 word1 i x x1 x2 x3 out out1 out2 out3
theorem h65_g3 {α : Type} (F0 : T33 α) (F1 : T17 α) (G3 : T41 α) (n : Nat) : GenL (α := α) Try.prog Try.f65 S35 (h65_x F0 F1 G3 n) 3 h65_t3 h65_p3 n G3 (h65_b3 F0 F1 G3) := by intro _ _ _ _ _ _ _ _ _ _ _ _; kernel_rfl
def h65_b {α : Type} (G3 : T41 α) (k : Nat) (word : ByteArray) (r0 : Int → Int → Int → Int → Bool → Option α) : Option α :=
  G3 k word 0 0 0 0 0 1 0 0 1
    (fun _ _ _ _ _ _ out4 out5 out6 out7 =>
      r0 out4 out5 out6 out7 true)
    r0
theorem h65_g {α : Type} (F0 : T33 α) (F1 : T17 α) (G3 : T41 α) (n : Nat) : GenF (α := α) Try.prog Try.f65 S35 (h65_x F0 F1 G3 n) n (h65_b G3) := by intro _ _; kernel_rfl
theorem h65_good {α : Type} : ∀ n, GoodFn (α := α) Try.prog 65 (byShape S35.sh (callS S35 spec_l06Matrix n)) := good_of Try.func65 (by kernel_rfl) (by kernel_rfl) (by kernel_rfl) eqs_ok (fun n => h65_g spec_l01Times spec_l01Matrix spec_l06Matrix_l3 n) (by delta h65_b spec_l06Matrix; rfl) (allC h73_good (allC h53_good allN)) (allC (loop_fine (by kernel_rfl) (fun n => by delta h65_b3; funext _ _ _ _ _ _ _ _ _ _ _ _; exact (spec_l06Matrix_l3.eq_2 ..).symm) (fun n => h65_g3 spec_l01Times spec_l01Matrix spec_l06Matrix_l3 n)) allN)

/-! loop.example/g01297/spec.l01DetOf -/
abbrev h54_x {α : Type}  : Nat → Ctx α := ctxS false M eqs jt0 [] []
def h54_b {α : Type}  (_ : Nat) (m : Int) (m1 : Int) (m2 : Int) (m3 : Int) (r0 : Int → Option α) : Option α :=
  r0 (w64 ((w64 (m * m3)) - (w64 (m1 * m2))))
theorem h54_g {α : Type}  (n : Nat) : GenF (α := α) Try.prog Try.f54 S36 (h54_x n) n (h54_b) := by intro _ _ _ _ _; kernel_rfl
theorem h54_good {α : Type} : ∀ n, GoodFn (α := α) Try.prog 54 (byShape S36.sh (callS S36 spec_l01DetOf n)) := good_of Try.func54 (by kernel_rfl) (by kernel_rfl) (by kernel_rfl) eqs_ok (fun n => h54_g n) (by delta h54_b spec_l01DetOf; rfl) allN allN

/-! loop.example/g01297/spec.l01Unit -/
abbrev h74_x {α : Type} (F0 : T42 α) : Nat → Ctx α := ctxS false M eqs jt0 [⟨54, S36, F0⟩] []
def h74_b {α : Type} (F0 : T42 α) (k : Nat) (m : Int) (m1 : Int) (m2 : Int) (m3 : Int) (r0 : Bool → Option α) : Option α :=
  F0 k m m1 m2 m3 fun v =>
  bif decide (v = 1) then
    r0 true
  else
    r0 (decide (v = (-1)))
theorem h74_g {α : Type} (F0 : T42 α) (n : Nat) : GenF (α := α) Try.prog Try.f74 S34 (h74_x F0 n) n (h74_b F0) := by intro _ _ _ _ _; kernel_rfl
theorem h74_good {α : Type} : ∀ n, GoodFn (α := α) Try.prog 74 (byShape S34.sh (callS S34 spec_l01Unit n)) := good_of Try.func74 (by kernel_rfl) (by kernel_rfl) (by kernel_rfl) eqs_ok (fun n => h74_g spec_l01DetOf n) (by delta h74_b spec_l01Unit; rfl) (allC h54_good allN) allN

/-! loop.example/g01297/spec.l01Minus -/
abbrev h75_x {α : Type} (F0 : T42 α) : Nat → Ctx α := ctxS false M eqs jt0 [⟨54, S36, F0⟩] []
def h75_b {α : Type} (F0 : T42 α) (k : Nat) (m : Int) (m1 : Int) (m2 : Int) (m3 : Int) (r0 : Int → Int → Int → Int → Option α) : Option α :=
  F0 k m m1 m2 m3 fun v =>
  r0 (w64 (v * m3)) (w64 ((w64 (0 - v)) * m1)) (w64 ((w64 (0 - v)) * m2)) (w64 (v * m))
theorem h75_g {α : Type} (F0 : T42 α) (n : Nat) : GenF (α := α) Try.prog Try.f75 S37 (h75_x F0 n) n (h75_b F0) := by intro _ _ _ _ _; kernel_rfl
theorem h75_good {α : Type} : ∀ n, GoodFn (α := α) Try.prog 75 (byShape S37.sh (callS S37 spec_l01Minus n)) := good_of Try.func75 (by kernel_rfl) (by kernel_rfl) (by kernel_rfl) eqs_ok (fun n => h75_g spec_l01DetOf n) (by delta h75_b spec_l01Minus; rfl) (allC h54_good allN) allN

/-! loop.example/g01297/spec.ConjugateMatrix -/
abbrev h67_x {α : Type} (F0 : T17 α) (F1 : T17 α) (F2 : T43 α) (F3 : T33 α) : Nat → Ctx α := ctxS false M eqs jt0 [⟨53, S34, F0⟩, ⟨74, S34, F1⟩, ⟨75, S37, F2⟩, ⟨73, S29, F3⟩] []
def h67_b {α : Type} (F0 : T17 α) (F1 : T17 α) (F2 : T43 α) (F3 : T33 α) (k : Nat) (m : Int) (m1 : Int) (m2 : Int) (m3 : Int) (u : Int) (u1 : Int) (u2 : Int) (u3 : Int) (r0 : Int → Int → Int → Int → Int → Option α) : Option α :=
  F0 k m m1 m2 m3 fun v =>
  bif (!v) then
    r0 0 0 0 0 1
  else
    F0 k u u1 u2 u3 fun v1 =>
    bif (!v1) then
      r0 0 0 0 0 1
    else
      F1 k u u1 u2 u3 fun v2 =>
      bif (!v2) then
        r0 0 0 0 0 5
      else
        F2 k u u1 u2 u3 fun v3 v4 v5 v6 =>
        F3 k v3 v4 v5 v6 m m1 m2 m3 fun v7 v8 v9 v10 =>
        F0 k v7 v8 v9 v10 fun v11 =>
        bif (!v11) then
          r0 0 0 0 0 3
        else
          F3 k v7 v8 v9 v10 u u1 u2 u3 fun v12 v13 v14 v15 =>
          F0 k v12 v13 v14 v15 fun v16 =>
          bif (!v16) then
            r0 0 0 0 0 3
          else
            r0 v12 v13 v14 v15 0
theorem h67_g {α : Type} (F0 : T17 α) (F1 : T17 α) (F2 : T43 α) (F3 : T33 α) (n : Nat) : GenF (α := α) Try.prog Try.f67 S38 (h67_x F0 F1 F2 F3 n) n (h67_b F0 F1 F2 F3) := by intro _ _ _ _ _ _ _ _ _; kernel_rfl
theorem h67_good {α : Type} : ∀ n, GoodFn (α := α) Try.prog 67 (byShape S38.sh (callS S38 spec_ConjugateMatrix n)) := good_of Try.func67 (by kernel_rfl) (by kernel_rfl) (by kernel_rfl) eqs_ok (fun n => h67_g spec_l01Matrix spec_l01Unit spec_l01Minus spec_l01Times n) (by delta h67_b spec_ConjugateMatrix; rfl) (allC h53_good (allC h74_good (allC h75_good (allC h73_good allN)))) allN

/-! loop.example/g01297/spec.l06DrawMatrix -/
abbrev h50_x {α : Type} (F0 : T7 α) (F1 : T35 α) (F2 : T35 α) (F3 : T44 α) (F4 : T45 α) (F5 : T46 α) : Nat → Ctx α := ctxS false M eqs jt0 [⟨42, S2, F0⟩, ⟨63, S30, F1⟩, ⟨64, S30, F2⟩, ⟨66, S33, F3⟩, ⟨65, S35, F4⟩, ⟨67, S38, F5⟩] []
def h50_b {α : Type} (F0 : T7 α) (F1 : T35 α) (F2 : T35 α) (F3 : T44 α) (F4 : T45 α) (F5 : T46 α) (k : Nat) (s : List Int) (s1 : Int) (s2 : Int) (r0 : Int → Int → Int → Int → Int → Int → Option α) : Option α :=
  F0 k s s1 s2 8 fun v v1 v2 =>
  bif decide (v = 0) then
    F1 k s v1 v2 fun v3 v4 v5 v6 v7 v8 =>
    r0 v3 v4 v5 v6 v7 v8
  else
  bif decide (v = 1) then
    F2 k s v1 v2 fun v9 v10 v11 v12 v13 v14 =>
    r0 v9 v10 v11 v12 v13 v14
  else
  bif decide (v = 2) then
    F0 k s v1 v2 300 fun v15 v16 v17 =>
    r0 1 v15 0 1 v16 v17
  else
    F3 k s v1 v2 6 fun v18 v19 v20 =>
    F4 k v18 fun v21 v22 v23 v24 v25 =>
    bif (!v25) then
      r0 2 1 1 1 v19 v20
    else
      F2 k s v19 v20 fun v26 v27 v28 v29 v30 v31 =>
      F0 k s v30 v31 3 fun v32 v33 v34 =>
      bif decide (v32 = 0) then
        F5 k v21 v22 v23 v24 v26 v27 v28 v29 fun v35 v36 v37 v38 v39 =>
        bif decide (v39 = 0) then
          r0 v35 v36 v37 v38 v33 v34
        else
          r0 v21 v22 v23 v24 v33 v34
      else
        r0 v21 v22 v23 v24 v33 v34
theorem h50_g {α : Type} (F0 : T7 α) (F1 : T35 α) (F2 : T35 α) (F3 : T44 α) (F4 : T45 α) (F5 : T46 α) (n : Nat) : GenF (α := α) Try.prog Try.f50 S30 (h50_x F0 F1 F2 F3 F4 F5 n) n (h50_b F0 F1 F2 F3 F4 F5) := by intro _ _ _ _; kernel_rfl
theorem h50_good {α : Type} : ∀ n, GoodFn (α := α) Try.prog 50 (byShape S30.sh (callS S30 spec_l06DrawMatrix n)) := good_of Try.func50 (by kernel_rfl) (by kernel_rfl) (by kernel_rfl) eqs_ok (fun n => h50_g spec_l01Next spec_l01AnyMatrix spec_l01DrawUnit spec_l06Draw spec_l06Matrix spec_ConjugateMatrix n) (by delta h50_b spec_l06DrawMatrix; rfl) (allC h42_good (allC h63_good (allC h64_good (allC h66_good (allC h65_good (allC h67_good allN)))))) allN

/-! loop.example/g01297/spec.DrawFormOfMatrix -/
abbrev h25_x {α : Type} (F0 : T11 α) (F1 : T35 α) : Nat → Ctx α := ctxS false M eqs jt0 [⟨29, S1, F0⟩, ⟨50, S30, F1⟩] []
def h25_b {α : Type} (F0 : T11 α) (F1 : T35 α) (k : Nat) (code : List Int) (r0 : Int → Int → Int → Int → Option α) : Option α :=
  F0 k code fun v v1 =>
  F1 k code v v1 fun v2 v3 v4 v5 _ _ =>
  r0 v2 v3 v4 v5
theorem h25_g {α : Type} (F0 : T11 α) (F1 : T35 α) (n : Nat) : GenF (α := α) Try.prog Try.f25 S39 (h25_x F0 F1 n) n (h25_b F0 F1) := by intro _ _; kernel_rfl
theorem h25_good {α : Type} : ∀ n, GoodFn (α := α) Try.prog 25 (byShape S39.sh (callS S39 spec_DrawFormOfMatrix n)) := good_of Try.func25 (by kernel_rfl) (by kernel_rfl) (by kernel_rfl) eqs_ok (fun n => h25_g spec_l01From spec_l06DrawMatrix n) (by delta h25_b spec_DrawFormOfMatrix; rfl) (allC h29_good (allC h50_good allN)) allN

/-! loop.example/g01297/impl.IsPoint -/
abbrev h78_x {α : Type} (F0 : T3 α) : Nat → Ctx α := ctxS false M eqs jt0 [⟨35, S4, F0⟩] []
def h78_b {α : Type} (F0 : T3 α) (k : Nat) (a : Int) (a1 : Int) (r0 : Bool → Option α) : Option α :=
  F0 k a fun v =>
  bif v then
    F0 k a1 fun v1 =>
    r0 v1
  else
    r0 false
theorem h78_g {α : Type} (F0 : T3 α) (n : Nat) : GenF (α := α) Try.prog Try.f78 S40 (h78_x F0 n) n (h78_b F0) := by intro _ _ _; kernel_rfl
theorem h78_good {α : Type} : ∀ n, GoodFn (α := α) Try.prog 78 (byShape S40.sh (callS S40 impl_IsPoint n)) := good_of Try.func78 (by kernel_rfl) (by kernel_rfl) (by kernel_rfl) eqs_ok (fun n => h78_g impl_isCoord n) (by delta h78_b impl_IsPoint; rfl) (allC h35_good allN) allN

/-! loop.example/g01297/impl.points$1 -/
abbrev h77_x {α : Type} (F0 : T47 α) : Nat → Ctx α := ctxS false M eqs jt0 [⟨78, S40, F0⟩] []
def h77_b {α : Type} (F0 : T47 α) (k : Nat) (a : Int) (a1 : Int) (r0 : Bool → Option α) : Option α :=
  F0 k a a1 fun v =>
  r0 (!v)
theorem h77_g {α : Type} (F0 : T47 α) (n : Nat) : GenF (α := α) Try.prog Try.f77 S40 (h77_x F0 n) n (h77_b F0) := by intro _ _ _; kernel_rfl
theorem h77_good {α : Type} : ∀ n, GoodFn (α := α) Try.prog 77 (byShape S40.sh (callS S40 impl_points_1 n)) := good_of Try.func77 (by kernel_rfl) (by kernel_rfl) (by kernel_rfl) eqs_ok (fun n => h77_g impl_IsPoint n) (by delta h77_b impl_points_1; rfl) (allC h78_good allN) allN

/-! slices.IndexFunc[[]loop.example/g01297/impl.Point,loop.example/g01297/impl.Point] -/
def h79_t2 : Tpl := ⟨(.sl 0 :: (.fn 77 [] :: (anyN 5 (.int .i64 :: (.int .i64 :: (anyN 10 [])))))), [(0, .rows 0 85 .pt)], [], false⟩
def h79_p2 : PcS := loopS [.int, .int, .rows .pt] [0]
abbrev h79_x {α : Type} (F0 : T47 α) (G2 : T48 α) : Nat → Ctx α := ctxS false M eqs jt0 [⟨77, S40, F0⟩] [lpT 2 h79_t2 h79_p2 R3 G2]
def h79_b2 {α : Type} (F0 : T47 α) (G2 : T48 α) (k : Nat) (x : Int) (x1 : Int) (s1 : List (Int × Int)) (b0 : Int → Int → (List (Int × Int)) → Option α) (r0 : Int → Option α) : Option α :=
  bif decide (x1 < x) then
    bif (decide (0 ≤ x1) && decide (x1 < (((List.length s1) : Nat) : Int))) then
      (s1[x1.toNat]?).bind fun e_ =>
      F0 k e_.1 e_.2 fun v =>
      bif v then
        r0 x1
      else
        G2 k x (w64 (x1 + 1)) s1 b0 r0
    else
      none
  else
    b0 x x1 s1
theorem h79_g2 {α : Type} (F0 : T47 α) (G2 : T48 α) (n : Nat) : GenL (α := α) Try.prog Try.f79 S41 (h79_x F0 G2 n) 2 h79_t2 h79_p2 n G2 (h79_b2 F0 G2) := by intro _ _ _ _ _; kernel_rfl
def h79_b {α : Type} (G2 : T48 α) (k : Nat) (s : List (Int × Int)) (r0 : Int → Option α) : Option α :=
  G2 k (((List.length s) : Nat) : Int) 0 s
    (fun _ _ _ =>
      r0 (-1))
    r0
theorem h79_g {α : Type} (F0 : T47 α) (G2 : T48 α) (n : Nat) : GenF (α := α) Try.prog Try.f79 S41 (h79_x F0 G2 n) n (h79_b G2) := by intro _ _; kernel_rfl
theorem h79_good {α : Type} : ∀ n, GoodFn (α := α) Try.prog 79 (byShape S41.sh (callS S41 slices_IndexFunc_impl_Point_impl_Point_1F_impl_points_1 n)) := good_of Try.func79 (by kernel_rfl) (by kernel_rfl) (by kernel_rfl) eqs_ok (fun n => h79_g impl_points_1 slices_IndexFunc_impl_Point_impl_Point_1F_impl_points_1_l2 n) (by delta h79_b slices_IndexFunc_impl_Point_impl_Point_1F_impl_points_1; rfl) (allC h77_good allN) (allC (loop_fine (by kernel_rfl) (fun n => by delta h79_b2; funext _ _ _ _ _; exact (slices_IndexFunc_impl_Point_impl_Point_1F_impl_points_1_l2.eq_2 ..).symm) (fun n => h79_g2 impl_points_1 slices_IndexFunc_impl_Point_impl_Point_1F_impl_points_1_l2 n)) allN)

/-! slices.ContainsFunc[[]loop.example/g01297/impl.Point,loop.example/g01297/impl.Point] -/
abbrev h76_x {α : Type} (F0 : T49 α) : Nat → Ctx α := ctxS false M eqs jt0 [⟨79, S41, F0⟩] []
def h76_b {α : Type} (F0 : T49 α) (k : Nat) (s : List (Int × Int)) (r0 : Bool → Option α) : Option α :=
  F0 k s fun v =>
  r0 (decide (0 ≤ v))
theorem h76_g {α : Type} (F0 : T49 α) (n : Nat) : GenF (α := α) Try.prog Try.f76 S42 (h76_x F0 n) n (h76_b F0) := by intro _ _; kernel_rfl
theorem h76_good {α : Type} : ∀ n, GoodFn (α := α) Try.prog 76 (byShape S42.sh (callS S42 slices_ContainsFunc_impl_Point_impl_Point_1F_impl_points_1 n)) := good_of Try.func76 (by kernel_rfl) (by kernel_rfl) (by kernel_rfl) eqs_ok (fun n => h76_g slices_IndexFunc_impl_Point_impl_Point_1F_impl_points_1 n) (by delta h76_b slices_ContainsFunc_impl_Point_impl_Point_1F_impl_points_1; rfl) (allC h79_good allN) allN

/-! loop.example/g01297/impl.points -/
abbrev h68_x {α : Type} (F0 : T50 α) : Nat → Ctx α := ctxS false M eqs jt0 [⟨76, S42, F0⟩] []
def h68_b {α : Type} (F0 : T50 α) (k : Nat) (list : List (Int × Int)) (r0 : Bool → Option α) : Option α :=
  F0 k list fun v =>
  r0 (!v)
theorem h68_g {α : Type} (F0 : T50 α) (n : Nat) : GenF (α := α) Try.prog Try.f68 S43 (h68_x F0 n) n (h68_b F0) := by intro _ _; kernel_rfl
theorem h68_good {α : Type} : ∀ n, GoodFn (α := α) Try.prog 68 (byShape S43.sh (callS S43 impl_points n)) := good_of Try.func68 (by kernel_rfl) (by kernel_rfl) (by kernel_rfl) eqs_ok (fun n => h68_g slices_ContainsFunc_impl_Point_impl_Point_1F_impl_points_1 n) (by delta h68_b impl_points; rfl) (allC h76_good allN) allN

/-! loop.example/g01297/impl.IsMatrix -/
abbrev h51_x {α : Type} (F0 : T50 α) : Nat → Ctx α := ctxS false M eqs jt0 [⟨68, S43, F0⟩] []
def h51_b {α : Type} (F0 : T50 α) (k : Nat) (m : Int) (m1 : Int) (m2 : Int) (m3 : Int) (r0 : Bool → Option α) : Option α :=
  F0 k [(m, m1), (m2, m3)] fun v =>
  r0 v
theorem h51_g {α : Type} (F0 : T50 α) (n : Nat) : GenF (α := α) Try.prog Try.f51 S34 (h51_x F0 n) n (h51_b F0) := by intro _ _ _ _ _; kernel_rfl
theorem h51_good {α : Type} : ∀ n, GoodFn (α := α) Try.prog 51 (byShape S34.sh (callS S34 impl_IsMatrix n)) := good_of Try.func51 (by kernel_rfl) (by kernel_rfl) (by kernel_rfl) eqs_ok (fun n => h51_g impl_points n) (by delta h51_b impl_IsMatrix; rfl) (allC h68_good allN) allN

/-! loop.example/g01297/impl.det -/
abbrev h69_x {α : Type}  : Nat → Ctx α := ctxS false M eqs jt0 [] []
def h69_b {α : Type}  (_ : Nat) (a : Int) (a1 : Int) (b_ : Int) (b_1 : Int) (r0 : Int → Option α) : Option α :=
  r0 (w64 ((w64 (a * b_1)) - (w64 (a1 * b_))))
theorem h69_g {α : Type}  (n : Nat) : GenF (α := α) Try.prog Try.f69 S44 (h69_x n) n (h69_b) := by intro _ _ _ _ _; kernel_rfl
theorem h69_good {α : Type} : ∀ n, GoodFn (α := α) Try.prog 69 (byShape S44.sh (callS S44 impl_det n)) := good_of Try.func69 (by kernel_rfl) (by kernel_rfl) (by kernel_rfl) eqs_ok (fun n => h69_g n) (by delta h69_b impl_det; rfl) allN allN

/-! (loop.example/g01297/impl.Matrix).det -/
abbrev h52_x {α : Type} (F0 : T42 α) : Nat → Ctx α := ctxS false M eqs jt0 [⟨69, S44, F0⟩] []
def h52_b {α : Type} (F0 : T42 α) (k : Nat) (m : Int) (m1 : Int) (m2 : Int) (m3 : Int) (r0 : Int → Option α) : Option α :=
  F0 k m m1 m2 m3 fun v =>
  r0 v
theorem h52_g {α : Type} (F0 : T42 α) (n : Nat) : GenF (α := α) Try.prog Try.f52 S36 (h52_x F0 n) n (h52_b F0) := by intro _ _ _ _ _; kernel_rfl
theorem h52_good {α : Type} : ∀ n, GoodFn (α := α) Try.prog 52 (byShape S36.sh (callS S36 impl_Matrix_det n)) := good_of Try.func52 (by kernel_rfl) (by kernel_rfl) (by kernel_rfl) eqs_ok (fun n => h52_g impl_det n) (by delta h52_b impl_Matrix_det; rfl) (allC h69_good allN) allN

/-! loop.example/g01297/impl.FormOfMatrix -/
abbrev h26_x {α : Type} (F0 : T17 α) (F1 : T42 α) (F2 : T1 α) : Nat → Ctx α := ctxS false M eqs jt0 [⟨51, S34, F0⟩, ⟨52, S36, F1⟩, ⟨8, S7, F2⟩] []
def h26_b {α : Type} (F0 : T17 α) (F1 : T42 α) (F2 : T1 α) (k : Nat) (m : Int) (m1 : Int) (m2 : Int) (m3 : Int) (r0 : Int → Int → Int → Int → Option α) : Option α :=
  F0 k m m1 m2 m3 fun v =>
  bif (!v) then
    r0 0 0 0 1
  else
    F1 k m m1 m2 m3 fun v1 =>
    bif (!decide (v1 = 1)) then
      r0 0 0 0 5
    else
      F2 k m2 (w64 (m3 - m)) (w64 (0 - m1)) fun v2 =>
      bif (!v2) then
        r0 0 0 0 5
      else
        r0 m2 (w64 (m3 - m)) (w64 (0 - m1)) 0
theorem h26_g {α : Type} (F0 : T17 α) (F1 : T42 α) (F2 : T1 α) (n : Nat) : GenF (α := α) Try.prog Try.f26 S45 (h26_x F0 F1 F2 n) n (h26_b F0 F1 F2) := by intro _ _ _ _ _; kernel_rfl
theorem h26_good {α : Type} : ∀ n, GoodFn (α := α) Try.prog 26 (byShape S45.sh (callS S45 impl_FormOfMatrix n)) := good_of Try.func26 (by kernel_rfl) (by kernel_rfl) (by kernel_rfl) eqs_ok (fun n => h26_g impl_IsMatrix impl_Matrix_det impl_IsForm n) (by delta h26_b impl_FormOfMatrix; rfl) (allC h51_good (allC h52_good (allC h8_good allN))) allN

/-! loop.example/g01297/spec.FormOfMatrix -/
abbrev h27_x {α : Type} (F0 : T17 α) (F1 : T42 α) (F2 : T1 α) : Nat → Ctx α := ctxS false M eqs jt0 [⟨53, S34, F0⟩, ⟨54, S36, F1⟩, ⟨31, S7, F2⟩] []
def h27_b {α : Type} (F0 : T17 α) (F1 : T42 α) (F2 : T1 α) (k : Nat) (m : Int) (m1 : Int) (m2 : Int) (m3 : Int) (r0 : Int → Int → Int → Int → Option α) : Option α :=
  F0 k m m1 m2 m3 fun v =>
  bif (!v) then
    r0 0 0 0 1
  else
    F1 k m m1 m2 m3 fun v1 =>
    bif (!decide (v1 = 1)) then
      r0 0 0 0 5
    else
      F2 k m2 (w64 (m3 - m)) (w64 (0 - m1)) fun v2 =>
      bif (!v2) then
        r0 0 0 0 5
      else
        r0 m2 (w64 (m3 - m)) (w64 (0 - m1)) 0
theorem h27_g {α : Type} (F0 : T17 α) (F1 : T42 α) (F2 : T1 α) (n : Nat) : GenF (α := α) Try.prog Try.f27 S45 (h27_x F0 F1 F2 n) n (h27_b F0 F1 F2) := by intro _ _ _ _ _; kernel_rfl
theorem h27_good {α : Type} : ∀ n, GoodFn (α := α) Try.prog 27 (byShape S45.sh (callS S45 spec_FormOfMatrix n)) := good_of Try.func27 (by kernel_rfl) (by kernel_rfl) (by kernel_rfl) eqs_ok (fun n => h27_g spec_l01Matrix spec_l01DetOf spec_l06Is n) (by delta h27_b spec_FormOfMatrix; rfl) (allC h53_good (allC h54_good (allC h31_good allN))) allN

/-! loop.example/g01297/laws.forms9 -/
abbrev h12a_x {α : Type}  : Nat → Ctx α := ctxS false M eqs jt0 [] []
def h12a_b {α : Type}  (_ : Nat) (b_ : List (Int × Int × Int)) (r0 : Bool → Option α) : Option α :=
  bif (!decide (0 = (((List.length b_) : Nat) : Int))) then
    r0 false
  else
    r0 true
theorem h12a_g {α : Type}  (n : Nat) : GenF (α := α) Try.prog Try.f12 S46 (h12a_x n) n (h12a_b) := by intro _ _; kernel_rfl
theorem h12a_good {α : Type} : ∀ n, GoodFn (α := α) Try.prog 12 (byShape S46.sh (callS S46 laws_forms9_0N n)) := good_of Try.func12 (by kernel_rfl) (by kernel_rfl) (by kernel_rfl) eqs_ok (fun n => h12a_g n) (by delta h12a_b laws_forms9_0N; rfl) allN allN

/-! loop.example/g01297/laws.forms9 -/
def h12b_t4 : Tpl := ⟨(.sl 0 :: (.nilsl :: (.any :: (.any :: (.any :: (.int .i64 :: (anyN 20 []))))))), [(0, .rows 0 25 .tr)], [], false⟩
def h12b_p4 : PcS := loopS [.int, .rows .tr] [0]
abbrev h12b_x {α : Type} (G4 : T51 α) : Nat → Ctx α := ctxS false M eqs jt0 [] [lpT 4 h12b_t4 h12b_p4 R0 G4]
def h12b_b4 {α : Type}  (_ : Nat) (i : Int) (a1 : List (Int × Int × Int)) (b0 : Int → (List (Int × Int × Int)) → Option α) (_ : Bool → Option α) : Option α :=
  bif decide (i < (((List.length a1) : Nat) : Int)) then
    bif (decide (0 ≤ i) && decide (i < (((List.length a1) : Nat) : Int))) then
      (a1[i.toNat]?).bind fun _ =>
      none
    else
      none
  else
    b0 i a1
theorem h12b_g4 {α : Type} (G4 : T51 α) (n : Nat) : GenL (α := α) Try.prog Try.f12 S47 (h12b_x G4 n) 4 h12b_t4 h12b_p4 n G4 (h12b_b4) := by intro _ _ _ _; kernel_rfl
def h12b_b {α : Type} (G4 : T51 α) (k : Nat) (a : List (Int × Int × Int)) (r0 : Bool → Option α) : Option α :=
  bif (!decide ((((List.length a) : Nat) : Int) = 0)) then
    r0 false
  else
    G4 k 0 a
      (fun _ _ =>
        r0 true)
      r0
theorem h12b_g {α : Type} (G4 : T51 α) (n : Nat) : GenF (α := α) Try.prog Try.f12 S47 (h12b_x G4 n) n (h12b_b G4) := by intro _ _; kernel_rfl
theorem h12b_good {α : Type} : ∀ n, GoodFn (α := α) Try.prog 12 (byShape S47.sh (callS S47 laws_forms9_1N n)) := good_of Try.func12 (by kernel_rfl) (by kernel_rfl) (by kernel_rfl) eqs_ok (fun n => h12b_g laws_forms9_1N_l4 n) (by delta h12b_b laws_forms9_1N; rfl) allN (allC (loop_fine (by kernel_rfl) (fun n => by delta h12b_b4; funext _ _ _ _; exact (laws_forms9_1N_l4.eq_2 ..).symm) (fun n => h12b_g4 laws_forms9_1N_l4 n)) allN)

/-! loop.example/g01297/laws.forms9 -/
def h12c_t4 : Tpl := ⟨(.sl 0 :: (.sl 64 :: (.any :: (.any :: (.any :: (.int .i64 :: (anyN 20 []))))))), [(0, .rows 0 25 .tr), (64, .rows 0 25 .tr)], [], false⟩
def h12c_p4 : PcS := loopS [.int, .rows .tr, .rows .tr] [0]
abbrev h12c_x {α : Type} (G4 : T52 α) : Nat → Ctx α := ctxS false M eqs jt0 [] [lpT 4 h12c_t4 h12c_p4 R0 G4]
def h12c_b4 {α : Type} (G4 : T52 α) (k : Nat) (i : Int) (a1 : List (Int × Int × Int)) (b_1 : List (Int × Int × Int)) (b0 : Int → (List (Int × Int × Int)) → (List (Int × Int × Int)) → Option α) (r0 : Bool → Option α) : Option α :=
  bif decide (i < (((List.length a1) : Nat) : Int)) then
    bif (decide (0 ≤ i) && decide (i < (((List.length a1) : Nat) : Int))) then
      (a1[i.toNat]?).bind fun e_ =>
      bif (decide (0 ≤ i) && decide (i < (((List.length b_1) : Nat) : Int))) then
        (b_1[i.toNat]?).bind fun e_1 =>
        bif (!(decide (e_.1 = e_1.1) && (decide (e_.2.1 = e_1.2.1) && decide (e_.2.2 = e_1.2.2)))) then
          r0 false
        else
          G4 k (w64 (i + 1)) a1 b_1 b0 r0
      else
        none
    else
      none
  else
    b0 i a1 b_1
theorem h12c_g4 {α : Type} (G4 : T52 α) (n : Nat) : GenL (α := α) Try.prog Try.f12 S48 (h12c_x G4 n) 4 h12c_t4 h12c_p4 n G4 (h12c_b4 G4) := by intro _ _ _ _ _; kernel_rfl
def h12c_b {α : Type} (G4 : T52 α) (k : Nat) (a : List (Int × Int × Int)) (b_ : List (Int × Int × Int)) (r0 : Bool → Option α) : Option α :=
  bif (!decide ((((List.length a) : Nat) : Int) = (((List.length b_) : Nat) : Int))) then
    r0 false
  else
    G4 k 0 a b_
      (fun _ _ _ =>
        r0 true)
      r0
theorem h12c_g {α : Type} (G4 : T52 α) (n : Nat) : GenF (α := α) Try.prog Try.f12 S48 (h12c_x G4 n) n (h12c_b G4) := by intro _ _ _; kernel_rfl
theorem h12c_good {α : Type} : ∀ n, GoodFn (α := α) Try.prog 12 (byShape S48.sh (callS S48 laws_forms9 n)) := good_of Try.func12 (by kernel_rfl) (by kernel_rfl) (by kernel_rfl) eqs_ok (fun n => h12c_g laws_forms9_l4 n) (by delta h12c_b laws_forms9; rfl) allN (allC (loop_fine (by kernel_rfl) (fun n => by delta h12c_b4; funext _ _ _ _ _; exact (laws_forms9_l4.eq_2 ..).symm) (fun n => h12c_g4 laws_forms9_l4 n)) allN)

end Go.Proofs.Ytbepofgmcchbdaa
