/- The program's functions hold to their readings without memory: printed by a program of ours. -/
import Derived.Test.YthjehhoafmnmkaaSeXGapsOf
namespace Go.Proofs.Ythjehhoafmnmkaa
open Go Go.Ev Go.Sh Go.Proofs
variable {α : Type}
abbrev ajZ : Nat → Ctx α := ctxS o0 M eqs jt0 [] []
def aik (_ : Nat) (a : Int) (b_ : Int) (r0 : Int → Option α) : Option α :=
 bif decide (b_ = 0) then
  none
 else
 bif decide (b_ = 0) then
  none
 else
 bif (!decide ((Int.tmod a b_) = 0)) then
  bif (!(decide (a < 0) == decide (b_ < 0))) then
   r0 (w64 ((w64 (Int.tdiv a b_)) - 1))
  else
   r0 (w64 (Int.tdiv a b_))
 else
  r0 (w64 (Int.tdiv a b_))
theorem aki (n : Nat) : GenF (α := α) Try.prog Try.f29 S0 (ajZ n) n (aik) := by intro _ _ _; kernel_rfl
theorem ahm [Inhabited az] {α : Type} : ∀ n, iw (α := α) Try.prog 29 (eQ S0.sh (gX S0 Aw n)) := lw Try.func29 (by kernel_rfl) (by kernel_rfl) (by kernel_rfl) oJ (fun n => aki n) (by delta aik Aw; rfl) allN allN
abbrev akh (F0 : T0 α) : Nat → Ctx α := ctxS o0 M eqs jt0 [⟨29, S0, F0⟩] []
def aig (F0 : T0 α) (k : Nat) (a : Int) (b_ : Int) (r0 : Int → Option α) : Option α :=
 F0 k a b_ fun v =>
 r0 (w64 (a - (w64 (b_ * v))))
theorem ako (F0 : T0 α) (n : Nat) : GenF (α := α) Try.prog Try.f16 S0 (akh F0 n) n (aig F0) := by intro _ _ _; kernel_rfl
theorem ahR [Inhabited az] {α : Type} : ∀ n, iw (α := α) Try.prog 16 (eQ S0.sh (gX S0 EQ n)) := lw Try.func16 (by kernel_rfl) (by kernel_rfl) (by kernel_rfl) oJ (fun n => ako Aw n) (by delta aig EQ; rfl) (allC ahm allN) allN
abbrev ajX : Nat → Ctx α := ctxS o0 M eqs jt0 [] []
def ain (_ : Nat) (x : Int) (r0 : Bool → Option α) : Option α :=
 r0 (!decide (x = x))
theorem ajY (n : Nat) : GenF (α := α) Try.prog Try.f34 S1 (ajX n) n (ain) := by intro _ _; kernel_rfl
theorem ahI [Inhabited az] {α : Type} : ∀ n, iw (α := α) Try.prog 34 (eQ S1.sh (gX S1 oz n)) := lw Try.func34 (by kernel_rfl) (by kernel_rfl) (by kernel_rfl) oJ (fun n => ajY n) (by delta ain oz; rfl) allN allN
abbrev akf (F0 : T1 α) : Nat → Ctx α := ctxS o0 M eqs jt0 [⟨34, S1, F0⟩] []
def aiy (F0 : T1 α) (k : Nat) (x : Int) (y : Int) (r0 : Int → Option α) : Option α :=
 F0 k x fun v =>
 F0 k y fun v1 =>
 bif v then
  bif v1 then
   r0 0
  else
   r0 (-1)
 else
 bif v1 then
  r0 1
 else
 bif decide (x < y) then
  r0 (-1)
 else
 bif decide (y < x) then
  r0 1
 else
  r0 0
theorem akj (F0 : T1 α) (n : Nat) : GenF (α := α) Try.prog Try.f28 S0 (akf F0 n) n (aiy F0) := by intro _ _ _; kernel_rfl
theorem adC [Inhabited az] {α : Type} : ∀ n, iw (α := α) Try.prog 28 (eQ S0.sh (gX S0 gq n)) := lw Try.func28 (by kernel_rfl) (by kernel_rfl) (by kernel_rfl) oJ (fun n => akj oz n) (by delta aiy gq; rfl) (allC ahI allN) allN
abbrev aj0 (F0 : T0 α) (F1 : T0 α) : Nat → Ctx α := ctxS o0 M eqs jt0 [⟨16, S0, F0⟩, ⟨28, S0, F1⟩] []
def aip (F0 : T0 α) (F1 : T0 α) (k : Nat) (a : Int) (b_ : Int) (x : Int) (x1 : Int) (r0 : Int → Option α) : Option α :=
 F0 k (w64 (a * x)) x1 fun v =>
 F0 k (w64 (b_ * x)) x1 fun v1 =>
 F1 k v v1 fun v2 =>
 r0 v2
theorem ajV (F0 : T0 α) (F1 : T0 α) (n : Nat) : GenF (α := α) Try.prog Try.f27 S2 (aj0 F0 F1 n) n (aip F0 F1) := by intro _ _ _ _ _; kernel_rfl
theorem adf [Inhabited az] {α : Type} : ∀ n, iw (α := α) Try.prog 27 (eQ S2.sh (gX S2 dW n)) := lw Try.func27 (by kernel_rfl) (by kernel_rfl) (by kernel_rfl) oJ (fun n => ajV EQ gq n) (by delta aip dW; rfl) (allC ahR (allC adC allN)) allN
def afV : Tpl := ⟨(.sl 0 :: (.int .i64 :: (.int .i64 :: (.fn 27 [.ptr 193 0 0, .ptr 194 0 0] :: (anyN 4 (.int .i64 :: (.int .i64 :: (anyN 43 [])))))))), [(0, .rows 1 2 (.int .i64)), (193, .ints 0 2 .i64 1), (194, .ints 0 2 .i64 1)], [], false⟩
def agV : PcS := qY [.int, .int, .int, .int, .rows (.int .i64), .int, .int] [2]
def afJ : Tpl := ⟨(.sl 0 :: (.int .i64 :: (.int .i64 :: (.fn 27 [.ptr 193 0 0, .ptr 194 0 0] :: (anyN 4 (.int .i64 :: (anyN 44 []))))))), [(0, .rows 1 2 (.int .i64)), (193, .ints 0 2 .i64 1), (194, .ints 0 2 .i64 1)], [], false⟩
def afB : PcS := qY [.int, .int, .int, .rows (.int .i64), .int, .int] [0]
abbrev ae8 (F0 : T2 α) (G4 : T3 α) (G1 : T4 α) : Nat → Ctx α := ctxS o0 M eqs jt0 [⟨27, S2, F0⟩] [lpT 4 afV agV R2 G4, lpT 1 afJ afB R2 G1]
def afP (F0 : T2 α) (G4 : T3 α) (k : Nat) (a2 : Int) (b_4 : Int) (i1 : Int) (j : Int) (data2 : List Int) (b_5 : Int) (b_6 : Int) (b2 : Int → Int → Int → Int → List Int → Int → Int → Option α) (r0 : List Int → Option α) : Option α :=
 bif decide (a2 < j) then
  bif (decide (0 ≤ j) && decide (j < (data2.length : Int))) then
   (data2[j.toNat]?).bind fun e_ =>
   bif (decide (0 ≤ (w64 (j - 1))) && decide ((w64 (j - 1)) < (data2.length : Int))) then
    (data2[(w64 (j - 1)).toNat]?).bind fun e_1 =>
    F0 k e_ e_1 b_5 b_6 fun v =>
    bif decide (v < 0) then
     bif (decide (0 ≤ (w64 (j - 1))) && decide ((w64 (j - 1)) < (data2.length : Int))) then
      (data2[(w64 (j - 1)).toNat]?).bind fun e_2 =>
      bif (decide (0 ≤ j) && decide (j < (data2.length : Int))) then
       (data2[j.toNat]?).bind fun e_3 =>
       bif (decide (0 ≤ j) && decide (j < (data2.length : Int))) then
        (data2[j.toNat]?).bind fun _ =>
        bif (decide (0 ≤ (w64 (j - 1))) && decide ((w64 (j - 1)) < (((List.length (List.set data2 j.toNat e_2)) : Nat) : Int))) then
         ((List.set data2 j.toNat e_2)[(w64 (j - 1)).toNat]?).bind fun _ =>
         G4 k a2 b_4 i1 (w64 (j - 1)) (List.set (List.set data2 j.toNat e_2) ((w64 (j - 1)).toNat) e_3) b_5 b_6 b2 r0
        else
         none
       else
        none
      else
       none
     else
      none
    else
     b2 a2 b_4 i1 j data2 b_5 b_6
   else
    none
  else
   none
 else
  b2 a2 b_4 i1 j data2 b_5 b_6
theorem ajH (F0 : T2 α) (G4 : T3 α) (G1 : T4 α) (n : Nat) : GenL (α := α) Try.prog Try.f45 S3 (ae8 F0 G4 G1 n) 4 afV agV n G4 (afP F0 G4) := by intro _ _ _ _ _ _ _ _ _ _ _ _ _ _; kernel_rfl
def agt (G4 : T3 α) (G1 : T4 α) (k : Nat) (a1 : Int) (b_1 : Int) (i : Int) (data1 : List Int) (b_2 : Int) (b_3 : Int) (b0 : Int → Int → Int → List Int → Int → Int → Option α) (r0 : List Int → Option α) : Option α :=
 bif decide (i < b_1) then
  G4 k a1 b_1 i i data1 b_2 b_3
   (fun a3 b_7 i2 _ data3 b_8 b_9 =>
     G1 k a3 b_7 (w64 (i2 + 1)) data3 b_8 b_9 b0 r0)
   r0
 else
  b0 a1 b_1 i data1 b_2 b_3
theorem ajk (F0 : T2 α) (G4 : T3 α) (G1 : T4 α) (n : Nat) : GenL (α := α) Try.prog Try.f45 S3 (ae8 F0 G4 G1 n) 1 afJ afB n G1 (agt G4 G1) := by intro _ _ _ _ _ _ _ _ _ _ _ _ _; kernel_rfl
def ah9 (G1 : T4 α) (k : Nat) (data : List Int) (a : Int) (b_ : Int) (cmp : Int) (cmp1 : Int) (r0 : List Int → Option α) : Option α :=
 G1 k a b_ (w64 (a + 1)) data cmp cmp1
  (fun _ _ _ data4 _ _ =>
    r0 data4)
  r0
theorem ake (F0 : T2 α) (G4 : T3 α) (G1 : T4 α) (n : Nat) : GenF (α := α) Try.prog Try.f45 S3 (ae8 F0 G4 G1 n) n (ah9 G1) := by intro _ _ _ _ _ _; kernel_rfl
theorem ahy [Inhabited az] {α : Type} : ∀ n, iw (α := α) Try.prog 45 (eQ S3.sh (gX S3 ax n)) := lw Try.func45 (by kernel_rfl) (by kernel_rfl) (by kernel_rfl) oJ (fun n => ake dW bQ aj n) (by delta ah9 ax; rfl) (allC adf allN) (allC (jQ (by kernel_rfl) (fun n => by delta afP; funext _ _ _ _ _ _ _ _ _; exact (bQ.eq_2 ..).symm) (fun n => ajH dW bQ aj n)) (allC (jQ (by kernel_rfl) (fun n => by delta agt; funext _ _ _ _ _ _ _ _; exact (aj.eq_2 ..).symm) (fun n => ajk dW bQ aj n)) allN))
def agU : Tpl := ⟨(.sl 0 :: (.int .i64 :: (.int .i64 :: (.int .i64 :: (anyN 6 (.int .i64 :: (anyN 27 []))))))), [(0, .rows 1 2 (.int .i64))], [], false⟩
def afo : PcS := qY [.int, .int, .int, .int, .rows (.int .i64)] [0]
abbrev aix (G1 : T5 α) : Nat → Ctx α := ctxS o0 M eqs jt0 [] [lpT 1 agU afo R2 G1]
def ag7 (G1 : T5 α) (k : Nat) (a1 : Int) (b_1 : Int) (n_1 : Int) (i : Int) (data1 : List Int) (b0 : Int → Int → Int → Int → List Int → Option α) (r0 : List Int → Option α) : Option α :=
 bif decide (i < n_1) then
  bif (decide (0 ≤ (w64 (b_1 + i))) && decide ((w64 (b_1 + i)) < (data1.length : Int))) then
   (data1[(w64 (b_1 + i)).toNat]?).bind fun e_ =>
   bif (decide (0 ≤ (w64 (a1 + i))) && decide ((w64 (a1 + i)) < (data1.length : Int))) then
    (data1[(w64 (a1 + i)).toNat]?).bind fun e_1 =>
    bif (decide (0 ≤ (w64 (a1 + i))) && decide ((w64 (a1 + i)) < (data1.length : Int))) then
     (data1[(w64 (a1 + i)).toNat]?).bind fun _ =>
     bif (decide (0 ≤ (w64 (b_1 + i))) && decide ((w64 (b_1 + i)) < (((List.length (List.set data1 ((w64 (a1 + i)).toNat) e_)) : Nat) : Int))) then
      ((List.set data1 ((w64 (a1 + i)).toNat) e_)[(w64 (b_1 + i)).toNat]?).bind fun _ =>
      G1 k a1 b_1 n_1 (w64 (i + 1)) (List.set (List.set data1 ((w64 (a1 + i)).toNat) e_) ((w64 (b_1 + i)).toNat) e_1) b0 r0
     else
      none
    else
     none
   else
    none
  else
   none
 else
  b0 a1 b_1 n_1 i data1
theorem ajx (G1 : T5 α) (n : Nat) : GenL (α := α) Try.prog Try.f54 S4 (aix G1 n) 1 agU afo n G1 (ag7 G1) := by intro _ _ _ _ _ _ _ _ _ _ _ _ _; kernel_rfl
def aiA (G1 : T5 α) (k : Nat) (data : List Int) (a : Int) (b_ : Int) (n_ : Int) (_ : Int) (_ : Int) (r0 : List Int → Option α) : Option α :=
 G1 k a b_ n_ 0 data
  (fun _ _ _ _ data2 =>
    r0 data2)
  r0
theorem akl (G1 : T5 α) (n : Nat) : GenF (α := α) Try.prog Try.f54 S4 (aix G1 n) n (aiA G1) := by intro _ _ _ _ _ _ _; kernel_rfl
theorem ahh [Inhabited az] {α : Type} : ∀ n, iw (α := α) Try.prog 54 (eQ S4.sh (gX S4 bJ n)) := lw Try.func54 (by kernel_rfl) (by kernel_rfl) (by kernel_rfl) oJ (fun n => akl bK n) (by delta aiA bJ; rfl) allN (allC (jQ (by kernel_rfl) (fun n => by delta ag7; funext _ _ _ _ _ _ _; exact (bK.eq_2 ..).symm) (fun n => ajx bK n)) allN)
def afn : Tpl := ⟨(.sl 0 :: (.any :: (.int .i64 :: (.any :: (.fn 27 [.ptr 257 0 0, .ptr 258 0 0] :: (anyN 5 (.int .i64 :: (.int .i64 :: (anyN 46 []))))))))), [(0, .rows 1 2 (.int .i64)), (257, .ints 0 2 .i64 1), (258, .ints 0 2 .i64 1)], [], false⟩
def agw : PcS := qY [.int, .int, .int, .rows (.int .i64), .int, .int] [0]
abbrev aiz (F0 : T6 α) (G2 : T4 α) : Nat → Ctx α := ctxS o0 M eqs jt0 [⟨54, S4, F0⟩] [lpT 2 afn agw R2 G2]
def afw (F0 : T6 α) (G2 : T4 α) (k : Nat) (m1 : Int) (i : Int) (j : Int) (data1 : List Int) (b_1 : Int) (b_2 : Int) (b0 : Int → Int → Int → List Int → Int → Int → Option α) (r0 : List Int → Option α) : Option α :=
 bif (!decide (i = j)) then
  bif decide (j < i) then
   F0 k data1 (w64 (m1 - i)) m1 j b_1 b_2 fun v =>
   G2 k m1 (w64 (i - j)) j v b_1 b_2 b0 r0
  else
   F0 k data1 (w64 (m1 - i)) (w64 ((w64 (m1 + j)) - i)) i b_1 b_2 fun v1 =>
   G2 k m1 i (w64 (j - i)) v1 b_1 b_2 b0 r0
 else
  b0 m1 i j data1 b_1 b_2
theorem ajL (F0 : T6 α) (G2 : T4 α) (n : Nat) : GenL (α := α) Try.prog Try.f52 S4 (aiz F0 G2 n) 2 afn agw n G2 (afw F0 G2) := by intro _ _ _ _ _ _ _ _ _ _ _ _ _ _; kernel_rfl
def aij (F0 : T6 α) (G2 : T4 α) (k : Nat) (data : List Int) (a : Int) (m : Int) (b_ : Int) (cmp : Int) (cmp1 : Int) (r0 : List Int → Option α) : Option α :=
 G2 k m (w64 (m - a)) (w64 (b_ - m)) data cmp cmp1
  (fun m2 i1 _ data2 b_3 b_4 =>
    F0 k data2 (w64 (m2 - i1)) m2 i1 b_3 b_4 fun v2 =>
    r0 v2)
  r0
theorem ajU (F0 : T6 α) (G2 : T4 α) (n : Nat) : GenF (α := α) Try.prog Try.f52 S4 (aiz F0 G2 n) n (aij F0 G2) := by intro _ _ _ _ _ _ _; kernel_rfl
theorem ahA [Inhabited az] {α : Type} : ∀ n, iw (α := α) Try.prog 52 (eQ S4.sh (gX S4 aX n)) := lw Try.func52 (by kernel_rfl) (by kernel_rfl) (by kernel_rfl) oJ (fun n => ajU bJ dQ n) (by delta aij aX; rfl) (allC ahh allN) (allC (jQ (by kernel_rfl) (fun n => by delta afw; funext _ _ _ _ _ _ _ _; exact (dQ.eq_2 ..).symm) (fun n => ajL bJ dQ n)) allN)
def ag8 : Tpl := ⟨(.sl 0 :: (.int .i64 :: (.any :: (.any :: (.fn 27 [.ptr 257 0 0, .ptr 258 0 0] :: (anyN 5 (.int .i64 :: (.int .i64 :: (anyN 208 []))))))))), [(0, .rows 1 2 (.int .i64)), (257, .ints 0 2 .i64 1), (258, .ints 0 2 .i64 1)], [], false⟩
def aga : PcS := qY [.int, .int, .int, .rows (.int .i64), .int, .int] [0]
def afS : Tpl := ⟨(.sl 0 :: (anyN 9 (.int .i64 :: (.any :: (.any :: (.int .i64 :: (anyN 206 []))))))), [(0, .rows 1 2 (.int .i64))], [], false⟩
def afz : PcS := qY [.int, .int, .rows (.int .i64)] [2]
def aeg : Tpl := ⟨(.sl 0 :: (.any :: (.int .i64 :: (.any :: (.fn 27 [.ptr 257 0 0, .ptr 258 0 0] :: (anyN 9 (.int .i64 :: (.int .i64 :: (anyN 204 []))))))))), [(0, .rows 1 2 (.int .i64)), (257, .ints 0 2 .i64 1), (258, .ints 0 2 .i64 1)], [], false⟩
def aen : PcS := qY [.int, .int, .int, .rows (.int .i64), .int, .int] [4]
def aey : Tpl := ⟨(.sl 0 :: (anyN 13 (.int .i64 :: (.any :: (.any :: (.int .i64 :: (anyN 202 []))))))), [(0, .rows 1 2 (.int .i64))], [], false⟩
def aeA : PcS := qY [.int, .int, .rows (.int .i64)] [6]
def aer : Tpl := ⟨(.sl 0 :: (.int .i64 :: (.int .i64 :: (.int .i64 :: (.fn 27 [.ptr 257 0 0, .ptr 258 0 0] :: (anyN 13 (.int .i64 :: (.int .i64 :: (.int .i64 :: (.int .i64 :: (.int .i64 :: (anyN 197 [])))))))))))), [(0, .rows 1 2 (.int .i64)), (257, .ints 0 2 .i64 1), (258, .ints 0 2 .i64 1)], [], false⟩
def aeE : PcS := qY [.int, .int, .int, .int, .int, .int, .int, .int, .rows (.int .i64), .int, .int] [8]
abbrev XJ (F0 : T6 α) (F1 : T2 α) (F2 : T6 α) (G3 : T4 α) (G9 : T7 α) (G15 : T4 α) (G21 : T7 α) (G33 : T8 α) : Nat → Ctx α := ctxS o0 M eqs jt0 [⟨46, S4, F0⟩, ⟨27, S2, F1⟩, ⟨52, S4, F2⟩] [lpT 3 ag8 aga R2 G3, lpT 9 afS afz R2 G9, lpT 15 aeg aen R2 G15, lpT 21 aey aeA R2 G21, lpT 33 aer aeE R2 G33]
def afL (F1 : T2 α) (G3 : T4 α) (k : Nat) (a1 : Int) (i : Int) (j : Int) (data1 : List Int) (b_1 : Int) (b_2 : Int) (b0 : Int → Int → Int → List Int → Int → Int → Option α) (r0 : List Int → Option α) : Option α :=
 bif decide (i < j) then
  bif (decide (0 ≤ (w64 (Int.fdiv (IntKind.wrap .u64 (w64 (i + j))) (2 ^ 1)))) && decide ((w64 (Int.fdiv (IntKind.wrap .u64 (w64 (i + j))) (2 ^ 1))) < (data1.length : Int))) then
   (data1[(w64 (Int.fdiv (IntKind.wrap .u64 (w64 (i + j))) (2 ^ 1))).toNat]?).bind fun e_ =>
   bif (decide (0 ≤ a1) && decide (a1 < (data1.length : Int))) then
    (data1[a1.toNat]?).bind fun e_1 =>
    F1 k e_ e_1 b_1 b_2 fun v =>
    bif decide (v < 0) then
     G3 k a1 (w64 ((w64 (Int.fdiv (IntKind.wrap .u64 (w64 (i + j))) (2 ^ 1))) + 1)) j data1 b_1 b_2 b0 r0
    else
     G3 k a1 i (w64 (Int.fdiv (IntKind.wrap .u64 (w64 (i + j))) (2 ^ 1))) data1 b_1 b_2 b0 r0
   else
    none
  else
   none
 else
  b0 a1 i j data1 b_1 b_2
theorem ajM (F0 : T6 α) (F1 : T2 α) (F2 : T6 α) (G3 : T4 α) (G9 : T7 α) (G15 : T4 α) (G21 : T7 α) (G33 : T8 α) (n : Nat) : GenL (α := α) Try.prog Try.f46 S4 (XJ F0 F1 F2 G3 G9 G15 G21 G33 n) 3 ag8 aga n G3 (afL F1 G3) := by intro _ _ _ _ _ _ _ _ _ _ _ _ _ _; kernel_rfl
def afj (G9 : T7 α) (k : Nat) (i2 : Int) (k_ : Int) (data3 : List Int) (b2 : Int → Int → List Int → Option α) (r0 : List Int → Option α) : Option α :=
 bif decide (k_ < (w64 (i2 - 1))) then
  bif (decide (0 ≤ (w64 (k_ + 1))) && decide ((w64 (k_ + 1)) < (data3.length : Int))) then
   (data3[(w64 (k_ + 1)).toNat]?).bind fun e_2 =>
   bif (decide (0 ≤ k_) && decide (k_ < (data3.length : Int))) then
    (data3[k_.toNat]?).bind fun e_3 =>
    bif (decide (0 ≤ k_) && decide (k_ < (data3.length : Int))) then
     (data3[k_.toNat]?).bind fun _ =>
     bif (decide (0 ≤ (w64 (k_ + 1))) && decide ((w64 (k_ + 1)) < (((List.length (List.set data3 k_.toNat e_2)) : Nat) : Int))) then
      ((List.set data3 k_.toNat e_2)[(w64 (k_ + 1)).toNat]?).bind fun _ =>
      G9 k i2 (w64 (k_ + 1)) (List.set (List.set data3 k_.toNat e_2) ((w64 (k_ + 1)).toNat) e_3) b2 r0
     else
      none
    else
     none
   else
    none
  else
   none
 else
  b2 i2 k_ data3
theorem ajB (F0 : T6 α) (F1 : T2 α) (F2 : T6 α) (G3 : T4 α) (G9 : T7 α) (G15 : T4 α) (G21 : T7 α) (G33 : T8 α) (n : Nat) : GenL (α := α) Try.prog Try.f46 S4 (XJ F0 F1 F2 G3 G9 G15 G21 G33 n) 9 afS afz n G9 (afj G9) := by intro _ _ _ _ _ _ _ _ _ _ _; kernel_rfl
def aet (F1 : T2 α) (G15 : T4 α) (k : Nat) (m1 : Int) (i4 : Int) (j2 : Int) (data5 : List Int) (b_5 : Int) (b_6 : Int) (b4 : Int → Int → Int → List Int → Int → Int → Option α) (r0 : List Int → Option α) : Option α :=
 bif decide (i4 < j2) then
  bif (decide (0 ≤ m1) && decide (m1 < (data5.length : Int))) then
   (data5[m1.toNat]?).bind fun e_4 =>
   bif (decide (0 ≤ (w64 (Int.fdiv (IntKind.wrap .u64 (w64 (i4 + j2))) (2 ^ 1)))) && decide ((w64 (Int.fdiv (IntKind.wrap .u64 (w64 (i4 + j2))) (2 ^ 1))) < (data5.length : Int))) then
    (data5[(w64 (Int.fdiv (IntKind.wrap .u64 (w64 (i4 + j2))) (2 ^ 1))).toNat]?).bind fun e_5 =>
    F1 k e_4 e_5 b_5 b_6 fun v1 =>
    bif (!decide (v1 < 0)) then
     G15 k m1 (w64 ((w64 (Int.fdiv (IntKind.wrap .u64 (w64 (i4 + j2))) (2 ^ 1))) + 1)) j2 data5 b_5 b_6 b4 r0
    else
     G15 k m1 i4 (w64 (Int.fdiv (IntKind.wrap .u64 (w64 (i4 + j2))) (2 ^ 1))) data5 b_5 b_6 b4 r0
   else
    none
  else
   none
 else
  b4 m1 i4 j2 data5 b_5 b_6
theorem aiS (F0 : T6 α) (F1 : T2 α) (F2 : T6 α) (G3 : T4 α) (G9 : T7 α) (G15 : T4 α) (G21 : T7 α) (G33 : T8 α) (n : Nat) : GenL (α := α) Try.prog Try.f46 S4 (XJ F0 F1 F2 G3 G9 G15 G21 G33 n) 15 aeg aen n G15 (aet F1 G15) := by intro _ _ _ _ _ _ _ _ _ _ _ _ _ _; kernel_rfl
def aeo (G21 : T7 α) (k : Nat) (i6 : Int) (k_2 : Int) (data7 : List Int) (b6 : Int → Int → List Int → Option α) (r0 : List Int → Option α) : Option α :=
 bif decide (i6 < k_2) then
  bif (decide (0 ≤ (w64 (k_2 - 1))) && decide ((w64 (k_2 - 1)) < (data7.length : Int))) then
   (data7[(w64 (k_2 - 1)).toNat]?).bind fun e_6 =>
   bif (decide (0 ≤ k_2) && decide (k_2 < (data7.length : Int))) then
    (data7[k_2.toNat]?).bind fun e_7 =>
    bif (decide (0 ≤ k_2) && decide (k_2 < (data7.length : Int))) then
     (data7[k_2.toNat]?).bind fun _ =>
     bif (decide (0 ≤ (w64 (k_2 - 1))) && decide ((w64 (k_2 - 1)) < (((List.length (List.set data7 k_2.toNat e_6)) : Nat) : Int))) then
      ((List.set data7 k_2.toNat e_6)[(w64 (k_2 - 1)).toNat]?).bind fun _ =>
      G21 k i6 (w64 (k_2 - 1)) (List.set (List.set data7 k_2.toNat e_6) ((w64 (k_2 - 1)).toNat) e_7) b6 r0
     else
      none
    else
     none
   else
    none
  else
   none
 else
  b6 i6 k_2 data7
theorem ai2 (F0 : T6 α) (F1 : T2 α) (F2 : T6 α) (G3 : T4 α) (G9 : T7 α) (G15 : T4 α) (G21 : T7 α) (G33 : T8 α) (n : Nat) : GenL (α := α) Try.prog Try.f46 S4 (XJ F0 F1 F2 G3 G9 G15 G21 G33 n) 21 aey aeA n G21 (aeo G21) := by intro _ _ _ _ _ _ _ _ _ _ _; kernel_rfl
def aeD (F1 : T2 α) (G33 : T8 α) (k : Nat) (a3 : Int) (m3 : Int) (b_9 : Int) (mid : Int) (n_ : Int) (start : Int) (r_ : Int) (p_ : Int) (data9 : List Int) (b_10 : Int) (b_11 : Int) (b8 : Int → Int → Int → Int → Int → Int → Int → Int → List Int → Int → Int → Option α) (r0 : List Int → Option α) : Option α :=
 bif decide (start < r_) then
  bif (decide (0 ≤ (w64 (p_ - (w64 (Int.fdiv (IntKind.wrap .u64 (w64 (start + r_))) (2 ^ 1)))))) && decide ((w64 (p_ - (w64 (Int.fdiv (IntKind.wrap .u64 (w64 (start + r_))) (2 ^ 1))))) < (data9.length : Int))) then
   (data9[(w64 (p_ - (w64 (Int.fdiv (IntKind.wrap .u64 (w64 (start + r_))) (2 ^ 1))))).toNat]?).bind fun e_8 =>
   bif (decide (0 ≤ (w64 (Int.fdiv (IntKind.wrap .u64 (w64 (start + r_))) (2 ^ 1)))) && decide ((w64 (Int.fdiv (IntKind.wrap .u64 (w64 (start + r_))) (2 ^ 1))) < (data9.length : Int))) then
    (data9[(w64 (Int.fdiv (IntKind.wrap .u64 (w64 (start + r_))) (2 ^ 1))).toNat]?).bind fun e_9 =>
    F1 k e_8 e_9 b_10 b_11 fun v2 =>
    bif (!decide (v2 < 0)) then
     G33 k a3 m3 b_9 mid n_ (w64 ((w64 (Int.fdiv (IntKind.wrap .u64 (w64 (start + r_))) (2 ^ 1))) + 1)) r_ p_ data9 b_10 b_11 b8 r0
    else
     G33 k a3 m3 b_9 mid n_ start (w64 (Int.fdiv (IntKind.wrap .u64 (w64 (start + r_))) (2 ^ 1))) p_ data9 b_10 b_11 b8 r0
   else
    none
  else
   none
 else
  b8 a3 m3 b_9 mid n_ start r_ p_ data9 b_10 b_11
theorem aiW (F0 : T6 α) (F1 : T2 α) (F2 : T6 α) (G3 : T4 α) (G9 : T7 α) (G15 : T4 α) (G21 : T7 α) (G33 : T8 α) (n : Nat) : GenL (α := α) Try.prog Try.f46 S4 (XJ F0 F1 F2 G3 G9 G15 G21 G33 n) 33 aer aeE n G33 (aeD F1 G33) := by intro _ _ _ _ _ _ _ _ _ _ _ _ _ _ _ _ _ _ _; kernel_rfl
def Xz (F0 : T6 α) (F2 : T6 α) (G3 : T4 α) (G9 : T7 α) (G15 : T4 α) (G21 : T7 α) (G33 : T8 α) (k : Nat) (data : List Int) (a : Int) (m : Int) (b_ : Int) (cmp : Int) (cmp1 : Int) (r0 : List Int → Option α) : Option α :=
 bif decide ((w64 (m - a)) = 1) then
  G3 k a m b_ data cmp cmp1
   (fun a2 i1 _ data2 _ _ =>
     G9 k i1 a2 data2
      (fun _ _ data4 =>
        r0 data4)
      r0)
   r0
 else
 bif decide ((w64 (b_ - m)) = 1) then
  G15 k m a m data cmp cmp1
   (fun m2 i5 _ data6 _ _ =>
     G21 k i5 m2 data6
      (fun _ _ data8 =>
        r0 data8)
      r0)
   r0
 else
 bif decide ((w64 (Int.fdiv (IntKind.wrap .u64 (w64 (a + b_))) (2 ^ 1))) < m) then
  G33 k a m b_ (w64 (Int.fdiv (IntKind.wrap .u64 (w64 (a + b_))) (2 ^ 1))) (w64 ((w64 (Int.fdiv (IntKind.wrap .u64 (w64 (a + b_))) (2 ^ 1))) + m)) (w64 ((w64 ((w64 (Int.fdiv (IntKind.wrap .u64 (w64 (a + b_))) (2 ^ 1))) + m)) - b_)) (w64 (Int.fdiv (IntKind.wrap .u64 (w64 (a + b_))) (2 ^ 1))) (w64 ((w64 ((w64 (Int.fdiv (IntKind.wrap .u64 (w64 (a + b_))) (2 ^ 1))) + m)) - 1)) data cmp cmp1
   (fun a4 m4 b_12 mid1 n_1 start1 _ _ data10 b_13 b_14 =>
     bif decide (start1 < m4) then
      bif decide (m4 < (w64 (n_1 - start1))) then
       F2 k data10 start1 m4 (w64 (n_1 - start1)) b_13 b_14 fun v3 =>
       bif decide (a4 < start1) then
        bif decide (start1 < mid1) then
         F0 k v3 a4 start1 mid1 b_13 b_14 fun v4 =>
         bif decide (mid1 < (w64 (n_1 - start1))) then
          bif decide ((w64 (n_1 - start1)) < b_12) then
           F0 k v4 mid1 (w64 (n_1 - start1)) b_12 b_13 b_14 fun v5 =>
           r0 v5
          else
           r0 v4
         else
          r0 v4
        else
        bif decide (mid1 < (w64 (n_1 - start1))) then
         bif decide ((w64 (n_1 - start1)) < b_12) then
          F0 k v3 mid1 (w64 (n_1 - start1)) b_12 b_13 b_14 fun v6 =>
          r0 v6
         else
          r0 v3
        else
         r0 v3
       else
       bif decide (mid1 < (w64 (n_1 - start1))) then
        bif decide ((w64 (n_1 - start1)) < b_12) then
         F0 k v3 mid1 (w64 (n_1 - start1)) b_12 b_13 b_14 fun v7 =>
         r0 v7
        else
         r0 v3
       else
        r0 v3
      else
      bif decide (a4 < start1) then
       bif decide (start1 < mid1) then
        F0 k data10 a4 start1 mid1 b_13 b_14 fun v8 =>
        bif decide (mid1 < (w64 (n_1 - start1))) then
         bif decide ((w64 (n_1 - start1)) < b_12) then
          F0 k v8 mid1 (w64 (n_1 - start1)) b_12 b_13 b_14 fun v9 =>
          r0 v9
         else
          r0 v8
        else
         r0 v8
       else
       bif decide (mid1 < (w64 (n_1 - start1))) then
        bif decide ((w64 (n_1 - start1)) < b_12) then
         F0 k data10 mid1 (w64 (n_1 - start1)) b_12 b_13 b_14 fun v10 =>
         r0 v10
        else
         r0 data10
       else
        r0 data10
      else
      bif decide (mid1 < (w64 (n_1 - start1))) then
       bif decide ((w64 (n_1 - start1)) < b_12) then
        F0 k data10 mid1 (w64 (n_1 - start1)) b_12 b_13 b_14 fun v11 =>
        r0 v11
       else
        r0 data10
      else
       r0 data10
     else
     bif decide (a4 < start1) then
      bif decide (start1 < mid1) then
       F0 k data10 a4 start1 mid1 b_13 b_14 fun v12 =>
       bif decide (mid1 < (w64 (n_1 - start1))) then
        bif decide ((w64 (n_1 - start1)) < b_12) then
         F0 k v12 mid1 (w64 (n_1 - start1)) b_12 b_13 b_14 fun v13 =>
         r0 v13
        else
         r0 v12
       else
        r0 v12
      else
      bif decide (mid1 < (w64 (n_1 - start1))) then
       bif decide ((w64 (n_1 - start1)) < b_12) then
        F0 k data10 mid1 (w64 (n_1 - start1)) b_12 b_13 b_14 fun v14 =>
        r0 v14
       else
        r0 data10
      else
       r0 data10
     else
     bif decide (mid1 < (w64 (n_1 - start1))) then
      bif decide ((w64 (n_1 - start1)) < b_12) then
       F0 k data10 mid1 (w64 (n_1 - start1)) b_12 b_13 b_14 fun v15 =>
       r0 v15
      else
       r0 data10
     else
      r0 data10)
   r0
 else
  G33 k a m b_ (w64 (Int.fdiv (IntKind.wrap .u64 (w64 (a + b_))) (2 ^ 1))) (w64 ((w64 (Int.fdiv (IntKind.wrap .u64 (w64 (a + b_))) (2 ^ 1))) + m)) a m (w64 ((w64 ((w64 (Int.fdiv (IntKind.wrap .u64 (w64 (a + b_))) (2 ^ 1))) + m)) - 1)) data cmp cmp1
   (fun a5 m5 b_15 mid2 n_2 start2 _ _ data11 b_16 b_17 =>
     bif decide (start2 < m5) then
      bif decide (m5 < (w64 (n_2 - start2))) then
       F2 k data11 start2 m5 (w64 (n_2 - start2)) b_16 b_17 fun v16 =>
       bif decide (a5 < start2) then
        bif decide (start2 < mid2) then
         F0 k v16 a5 start2 mid2 b_16 b_17 fun v17 =>
         bif decide (mid2 < (w64 (n_2 - start2))) then
          bif decide ((w64 (n_2 - start2)) < b_15) then
           F0 k v17 mid2 (w64 (n_2 - start2)) b_15 b_16 b_17 fun v18 =>
           r0 v18
          else
           r0 v17
         else
          r0 v17
        else
        bif decide (mid2 < (w64 (n_2 - start2))) then
         bif decide ((w64 (n_2 - start2)) < b_15) then
          F0 k v16 mid2 (w64 (n_2 - start2)) b_15 b_16 b_17 fun v19 =>
          r0 v19
         else
          r0 v16
        else
         r0 v16
       else
       bif decide (mid2 < (w64 (n_2 - start2))) then
        bif decide ((w64 (n_2 - start2)) < b_15) then
         F0 k v16 mid2 (w64 (n_2 - start2)) b_15 b_16 b_17 fun v20 =>
         r0 v20
        else
         r0 v16
       else
        r0 v16
      else
      bif decide (a5 < start2) then
       bif decide (start2 < mid2) then
        F0 k data11 a5 start2 mid2 b_16 b_17 fun v21 =>
        bif decide (mid2 < (w64 (n_2 - start2))) then
         bif decide ((w64 (n_2 - start2)) < b_15) then
          F0 k v21 mid2 (w64 (n_2 - start2)) b_15 b_16 b_17 fun v22 =>
          r0 v22
         else
          r0 v21
        else
         r0 v21
       else
       bif decide (mid2 < (w64 (n_2 - start2))) then
        bif decide ((w64 (n_2 - start2)) < b_15) then
         F0 k data11 mid2 (w64 (n_2 - start2)) b_15 b_16 b_17 fun v23 =>
         r0 v23
        else
         r0 data11
       else
        r0 data11
      else
      bif decide (mid2 < (w64 (n_2 - start2))) then
       bif decide ((w64 (n_2 - start2)) < b_15) then
        F0 k data11 mid2 (w64 (n_2 - start2)) b_15 b_16 b_17 fun v24 =>
        r0 v24
       else
        r0 data11
      else
       r0 data11
     else
     bif decide (a5 < start2) then
      bif decide (start2 < mid2) then
       F0 k data11 a5 start2 mid2 b_16 b_17 fun v25 =>
       bif decide (mid2 < (w64 (n_2 - start2))) then
        bif decide ((w64 (n_2 - start2)) < b_15) then
         F0 k v25 mid2 (w64 (n_2 - start2)) b_15 b_16 b_17 fun v26 =>
         r0 v26
        else
         r0 v25
       else
        r0 v25
      else
      bif decide (mid2 < (w64 (n_2 - start2))) then
       bif decide ((w64 (n_2 - start2)) < b_15) then
        F0 k data11 mid2 (w64 (n_2 - start2)) b_15 b_16 b_17 fun v27 =>
        r0 v27
       else
        r0 data11
      else
       r0 data11
     else
     bif decide (mid2 < (w64 (n_2 - start2))) then
      bif decide ((w64 (n_2 - start2)) < b_15) then
       F0 k data11 mid2 (w64 (n_2 - start2)) b_15 b_16 b_17 fun v28 =>
       r0 v28
      else
       r0 data11
     else
      r0 data11)
   r0
theorem aku (F0 : T6 α) (F1 : T2 α) (F2 : T6 α) (G3 : T4 α) (G9 : T7 α) (G15 : T4 α) (G21 : T7 α) (G33 : T8 α) (n : Nat) : GenF (α := α) Try.prog Try.f46 S4 (XJ F0 F1 F2 G3 G9 G15 G21 G33 n) n (Xz F0 F2 G3 G9 G15 G21 G33) := by intro _ _ _ _ _ _ _; kernel_rfl
theorem ajR (F : T6 α) (n : Nat) (h : F n = aQ n) : Xz F aX aY aV aW aZ aJ n = Xz aQ aX aY aV aW aZ aJ n := by delta Xz; rw [h]
theorem ahu [Inhabited az] {α : Type} : ∀ n, iw (α := α) Try.prog 46 (eQ S4.sh (gX S4 aQ n)) := adF (S := S4) (F := aQ (α := α)) (body := fun (F : T6 α) => Xz F aX aY aV aW aZ aJ) Try.func46 (by kernel_rfl) (by kernel_rfl) (by kernel_rfl) oJ (fun (F : T6 α) n => aku F dW aX aY aV aW aZ aJ n) (by kernel_rfl) (fun n => by delta Xz; funext _ _ _ _ _ _ _; exact (aQ.eq_2 ..)) ajR (allC adf (allC ahA allN)) (fun (F : T6 α) => (allC (jQ (by kernel_rfl) (fun n => by delta afL; funext _ _ _ _ _ _ _ _; exact (aY.eq_2 ..).symm) (fun n => ajM F dW aX aY aV aW aZ aJ n)) (allC (jQ (by kernel_rfl) (fun n => by delta afj; funext _ _ _ _ _; exact (aV.eq_2 ..).symm) (fun n => ajB F dW aX aY aV aW aZ aJ n)) (allC (jQ (by kernel_rfl) (fun n => by delta aet; funext _ _ _ _ _ _ _ _; exact (aW.eq_2 ..).symm) (fun n => aiS F dW aX aY aV aW aZ aJ n)) (allC (jQ (by kernel_rfl) (fun n => by delta aeo; funext _ _ _ _ _; exact (aZ.eq_2 ..).symm) (fun n => ai2 F dW aX aY aV aW aZ aJ n)) (allC (jQ (by kernel_rfl) (fun n => by delta aeD; funext _ _ _ _ _ _ _ _ _ _ _ _ _; exact (aJ.eq_2 ..).symm) (fun n => aiW F dW aX aY aV aW aZ aJ n)) allN))))))
def afR : Tpl := ⟨(.sl 0 :: (.int .i64 :: (.fn 27 [.ptr 129 0 0, .ptr 130 0 0] :: (.any :: (.any :: (.any :: (.int .i64 :: (.int .i64 :: (.int .i64 :: (anyN 54 [])))))))))), [(0, .rows 1 2 (.int .i64)), (129, .ints 0 2 .i64 1), (130, .ints 0 2 .i64 1)], [], false⟩
def afG : PcS := qY [.int, .int, .int, .int, .rows (.int .i64), .int, .int] [0]
def ag2 : Tpl := ⟨(.sl 0 :: (.int .i64 :: (.fn 27 [.ptr 129 0 0, .ptr 130 0 0] :: (.any :: (.any :: (.any :: (.int .i64 :: (.int .i64 :: (.int .i64 :: (anyN 54 [])))))))))), [(0, .rows 1 2 (.int .i64)), (129, .ints 0 2 .i64 1), (130, .ints 0 2 .i64 1)], [], false⟩
def agY : PcS := qY [.int, .int, .int, .int, .rows (.int .i64), .int, .int] [4]
def agr : Tpl := ⟨(.sl 0 :: (.int .i64 :: (.fn 27 [.ptr 129 0 0, .ptr 130 0 0] :: (.any :: (.any :: (.any :: (.int .i64 :: (anyN 56 [])))))))), [(0, .rows 1 2 (.int .i64)), (129, .ints 0 2 .i64 1), (130, .ints 0 2 .i64 1)], [], false⟩
def afH : PcS := qY [.int, .int, .rows (.int .i64), .int, .int] [2]
abbrev acv (F0 : T9 α) (F1 : T6 α) (G2 : T3 α) (G9 : T3 α) (G7 : T10 α) : Nat → Ctx α := ctxS o0 M eqs jt0 [⟨45, S3, F0⟩, ⟨46, S4, F1⟩] [lpT 2 afR afG R2 G2, lpT 9 ag2 agY R2 G9, lpT 7 agr afH R2 G7]
def agm (F0 : T9 α) (G2 : T3 α) (k : Nat) (n_1 : Int) (blockSize : Int) (a : Int) (b_ : Int) (data1 : List Int) (b_1 : Int) (b_2 : Int) (b0 : Int → Int → Int → Int → List Int → Int → Int → Option α) (r0 : List Int → Option α) : Option α :=
 bif decide (b_ ≤ n_1) then
  F0 k data1 a b_ b_1 b_2 fun v =>
  G2 k n_1 blockSize b_ (w64 (b_ + blockSize)) v b_1 b_2 b0 r0
 else
  b0 n_1 blockSize a b_ data1 b_1 b_2
theorem ajO (F0 : T9 α) (F1 : T6 α) (G2 : T3 α) (G9 : T3 α) (G7 : T10 α) (n : Nat) : GenL (α := α) Try.prog Try.f33 S5 (acv F0 F1 G2 G9 G7 n) 2 afR afG n G2 (agm F0 G2) := by intro _ _ _ _ _ _ _ _ _ _ _ _ _; kernel_rfl
def agk (F1 : T6 α) (G9 : T3 α) (k : Nat) (n_4 : Int) (blockSize3 : Int) (a2 : Int) (b_8 : Int) (data4 : List Int) (b_9 : Int) (b_10 : Int) (b4 : Int → Int → Int → Int → List Int → Int → Int → Option α) (r0 : List Int → Option α) : Option α :=
 bif decide (b_8 ≤ n_4) then
  F1 k data4 a2 (w64 (a2 + blockSize3)) b_8 b_9 b_10 fun v2 =>
  G9 k n_4 blockSize3 b_8 (w64 (b_8 + (w64 (2 * blockSize3)))) v2 b_9 b_10 b4 r0
 else
  b4 n_4 blockSize3 a2 b_8 data4 b_9 b_10
theorem ajF (F0 : T9 α) (F1 : T6 α) (G2 : T3 α) (G9 : T3 α) (G7 : T10 α) (n : Nat) : GenL (α := α) Try.prog Try.f33 S5 (acv F0 F1 G2 G9 G7 n) 9 ag2 agY n G9 (agk F1 G9) := by intro _ _ _ _ _ _ _ _ _ _ _ _ _; kernel_rfl
def afI (F1 : T6 α) (G9 : T3 α) (G7 : T10 α) (k : Nat) (n_3 : Int) (blockSize2 : Int) (data3 : List Int) (b_6 : Int) (b_7 : Int) (b2 : Int → Int → List Int → Int → Int → Option α) (r0 : List Int → Option α) : Option α :=
 bif decide (blockSize2 < n_3) then
  G9 k n_3 blockSize2 0 (w64 (2 * blockSize2)) data3 b_6 b_7
   (fun n_5 blockSize4 a3 _ data5 b_12 b_13 =>
     bif decide ((w64 (a3 + blockSize4)) < n_5) then
      F1 k data5 a3 (w64 (a3 + blockSize4)) n_5 b_12 b_13 fun v3 =>
      G7 k n_5 (w64 (blockSize4 * 2)) v3 b_12 b_13 b2 r0
     else
      G7 k n_5 (w64 (blockSize4 * 2)) data5 b_12 b_13 b2 r0)
   r0
 else
  b2 n_3 blockSize2 data3 b_6 b_7
theorem aju (F0 : T9 α) (F1 : T6 α) (G2 : T3 α) (G9 : T3 α) (G7 : T10 α) (n : Nat) : GenL (α := α) Try.prog Try.f33 S5 (acv F0 F1 G2 G9 G7 n) 7 agr afH n G7 (afI F1 G9 G7) := by intro _ _ _ _ _ _ _ _ _ _ _; kernel_rfl
def aib (F0 : T9 α) (G2 : T3 α) (G7 : T10 α) (k : Nat) (data : List Int) (n_ : Int) (cmp : Int) (cmp1 : Int) (r0 : List Int → Option α) : Option α :=
 G2 k n_ 20 0 20 data cmp cmp1
  (fun n_2 blockSize1 a1 _ data2 b_4 b_5 =>
    F0 k data2 a1 n_2 b_4 b_5 fun v1 =>
    G7 k n_2 blockSize1 v1 b_4 b_5
     (fun _ _ data6 _ _ =>
       r0 data6)
     r0)
  r0
theorem akk (F0 : T9 α) (F1 : T6 α) (G2 : T3 α) (G9 : T3 α) (G7 : T10 α) (n : Nat) : GenF (α := α) Try.prog Try.f33 S5 (acv F0 F1 G2 G9 G7 n) n (aib F0 G2 G7) := by intro _ _ _ _ _; kernel_rfl
theorem ahL [Inhabited az] {α : Type} : ∀ n, iw (α := α) Try.prog 33 (eQ S5.sh (gX S5 fV n)) := lw Try.func33 (by kernel_rfl) (by kernel_rfl) (by kernel_rfl) oJ (fun n => akk ax aQ bW bZ aK n) (by delta aib fV; rfl) (allC ahy (allC ahu allN)) (allC (jQ (by kernel_rfl) (fun n => by delta agm; funext _ _ _ _ _ _ _ _ _; exact (bW.eq_2 ..).symm) (fun n => ajO ax aQ bW bZ aK n)) (allC (jQ (by kernel_rfl) (fun n => by delta agk; funext _ _ _ _ _ _ _ _ _; exact (bZ.eq_2 ..).symm) (fun n => ajF ax aQ bW bZ aK n)) (allC (jQ (by kernel_rfl) (fun n => by delta afI; funext _ _ _ _ _ _ _; exact (aK.eq_2 ..).symm) (fun n => aju ax aQ bW bZ aK n)) allN)))
abbrev akx (F0 : T11 α) : Nat → Ctx α := ctxS o0 M eqs jt0 [⟨33, S5, F0⟩] []
def aio (F0 : T11 α) (k : Nat) (x : List Int) (cmp : Int) (cmp1 : Int) (r0 : List Int → Option α) : Option α :=
 F0 k x (x.length : Int) cmp cmp1 fun v =>
 r0 v
theorem aj9 (F0 : T11 α) (n : Nat) : GenF (α := α) Try.prog Try.f26 S6 (akx F0 n) n (aio F0) := by intro _ _ _ _; kernel_rfl
theorem ahX [Inhabited az] {α : Type} : ∀ n, iw (α := α) Try.prog 26 (eQ S6.sh (gX S6 bY n)) := lw Try.func26 (by kernel_rfl) (by kernel_rfl) (by kernel_rfl) oJ (fun n => aj9 fV n) (by delta aio bY; rfl) (allC ahL allN) allN
def agO : Tpl := ⟨(.any :: (.any :: (.any :: (.ptr 192 0 0 :: (.ptr 256 0 0 :: (.any :: (.any :: (.sl 576 :: (.any :: (.any :: (.int .i64 :: (.int .i64 :: (anyN 11 []))))))))))))), [(192, .ints 2 2 .i64 1), (256, .ints 2 2 .i64 1), (576, .rows 2 2 (.int .i64))], [], false⟩
def afr : PcS := qY [.int, .int, .int, .int, .rows (.int .i64)] [0]
abbrev aiB (F0 : T12 α) (G3 : T5 α) : Nat → Ctx α := ctxS o0 M eqs jt0 [⟨26, S6, F0⟩] [lpT 3 agO afr R3 G3]
def agG (G3 : T5 α) (k : Nat) (x : Int) (x1 : Int) (p_1 : Int) (q_1 : Int) (out : List Int) (b0 : Int → Int → Int → Int → List Int → Option α) (r0 : List Int → Option α) : Option α :=
 bif decide (x1 < x) then
  bif decide (((List.length out) + 1) ≤ big) then
   G3 k x (w64 (x1 + 1)) p_1 q_1 (out ++ [x1]) b0 r0
  else
   none
 else
  b0 x x1 p_1 q_1 out
theorem ajP (F0 : T12 α) (G3 : T5 α) (n : Nat) : GenL (α := α) Try.prog Try.f15 S7 (aiB F0 G3 n) 3 agO afr n G3 (agG G3) := by intro _ _ _ _ _ _ _; kernel_rfl
def air (F0 : T12 α) (G3 : T5 α) (k : Nat) (p_ : Int) (q_ : Int) (n_ : Int) (r0 : List Int → Option α) : Option α :=
 G3 k n_ 0 p_ q_ []
  (fun _ _ p_2 q_2 out1 =>
    F0 k out1 p_2 q_2 fun v =>
    r0 v)
  r0
theorem akt (F0 : T12 α) (G3 : T5 α) (n : Nat) : GenF (α := α) Try.prog Try.f15 S7 (aiB F0 G3 n) n (air F0 G3) := by intro _ _ _ _; kernel_rfl
theorem ahc [Inhabited az] {α : Type} : ∀ n, iw (α := α) Try.prog 15 (eQ S7.sh (gX S7 tY n)) := lw Try.func15 (by kernel_rfl) (by kernel_rfl) (by kernel_rfl) oJ (fun n => akt bY lX n) (by delta air tY; rfl) (allC ahX allN) (allC (jQ (by kernel_rfl) (fun n => by delta agG; funext _ _ _ _ _ _ _; exact (lX.eq_2 ..).symm) (fun n => ajP bY lX n)) allN)
def agd : Tpl := ⟨(.sl 0 :: (.sl 64 :: (anyN 7 (.sl 0 :: (.int .i64 :: (.int .i64 :: (anyN 24 []))))))), [(0, .rows 0 2 (.int .i64)), (64, .rows 0 2 (.int .i64))], [], false⟩
def afC : PcS := qY [.int, .int, .rows (.int .i64), .rows (.int .i64)] [0]
abbrev aih (F0 : T0 α) (G2 : T13 α) : Nat → Ctx α := ctxS o0 M eqs jt0 [⟨28, S0, F0⟩] [lpT 2 agd afC R0 G2]
def agl (F0 : T0 α) (G2 : T13 α) (k : Nat) (x : Int) (x1 : Int) (s1_1 : List Int) (s2_1 : List Int) (b0 : Int → Int → List Int → List Int → Option α) (r0 : Int → Option α) : Option α :=
 bif decide (x1 < x) then
  bif (decide (0 ≤ x1) && decide (x1 < (s1_1.length : Int))) then
   (s1_1[x1.toNat]?).bind fun e_ =>
   bif decide ((s2_1.length : Int) ≤ x1) then
    r0 1
   else
   bif (decide (0 ≤ x1) && decide (x1 < (s2_1.length : Int))) then
    (s2_1[x1.toNat]?).bind fun e_1 =>
    F0 k e_ e_1 fun v =>
    bif (!decide (v = 0)) then
     r0 v
    else
     G2 k x (w64 (x1 + 1)) s1_1 s2_1 b0 r0
   else
    none
  else
   none
 else
  b0 x x1 s1_1 s2_1
theorem ajv (F0 : T0 α) (G2 : T13 α) (n : Nat) : GenL (α := α) Try.prog Try.f19 S8 (aih F0 G2 n) 2 agd afC n G2 (agl F0 G2) := by intro _ _ _ _ _ _; kernel_rfl
def aiq (G2 : T13 α) (k : Nat) (s1_ : List Int) (s2_ : List Int) (r0 : Int → Option α) : Option α :=
 G2 k (s1_.length : Int) 0 s1_ s2_
  (fun _ _ s1_2 s2_2 =>
    bif decide ((s1_2.length : Int) < (s2_2.length : Int)) then
     r0 (-1)
    else
     r0 0)
  r0
theorem aj3 (F0 : T0 α) (G2 : T13 α) (n : Nat) : GenF (α := α) Try.prog Try.f19 S8 (aih F0 G2 n) n (aiq G2) := by intro _ _ _; kernel_rfl
theorem acG [Inhabited az] {α : Type} : ∀ n, iw (α := α) Try.prog 19 (eQ S8.sh (gX S8 jK n)) := lw Try.func19 (by kernel_rfl) (by kernel_rfl) (by kernel_rfl) oJ (fun n => aj3 gq dK n) (by delta aiq jK; rfl) (allC adC allN) (allC (jQ (by kernel_rfl) (fun n => by delta agl; funext _ _ _ _ _ _; exact (dK.eq_2 ..).symm) (fun n => ajv gq dK n)) allN)
def agq : Tpl := ⟨(.sl 0 :: (.sl 64 :: (.any :: (.any :: (.any :: (.int .i64 :: (anyN 20 []))))))), [(0, .rows 0 2 (.int .i64)), (64, .rows 0 2 (.int .i64))], [], false⟩
def afO : PcS := qY [.int, .rows (.int .i64), .rows (.int .i64)] [0]
abbrev aie (G4 : T14 α) : Nat → Ctx α := ctxS o0 M eqs jt0 [] [lpT 4 agq afO R1 G4]
def afX (G4 : T14 α) (k : Nat) (i : Int) (a1 : List Int) (b_1 : List Int) (b0 : Int → List Int → List Int → Option α) (r0 : Bool → Option α) : Option α :=
 bif decide (i < (a1.length : Int)) then
  bif (decide (0 ≤ i) && decide (i < (a1.length : Int))) then
   (a1[i.toNat]?).bind fun e_ =>
   bif (decide (0 ≤ i) && decide (i < (b_1.length : Int))) then
    (b_1[i.toNat]?).bind fun e_1 =>
    bif (!decide (e_ = e_1)) then
     r0 false
    else
     G4 k (w64 (i + 1)) a1 b_1 b0 r0
   else
    none
  else
   none
 else
  b0 i a1 b_1
theorem ajC (G4 : T14 α) (n : Nat) : GenL (α := α) Try.prog Try.f20 S9 (aie G4 n) 4 agq afO n G4 (afX G4) := by intro _ _ _ _ _; kernel_rfl
def ail (G4 : T14 α) (k : Nat) (a : List Int) (b_ : List Int) (r0 : Bool → Option α) : Option α :=
 bif (!decide ((a.length : Int) = (b_.length : Int))) then
  r0 false
 else
  G4 k 0 a b_
   (fun _ _ _ =>
     r0 true)
   r0
theorem akw (G4 : T14 α) (n : Nat) : GenF (α := α) Try.prog Try.f20 S9 (aie G4 n) n (ail G4) := by intro _ _ _; kernel_rfl
theorem ahf [Inhabited az] {α : Type} : ∀ n, iw (α := α) Try.prog 20 (eQ S9.sh (gX S9 uz n)) := lw Try.func20 (by kernel_rfl) (by kernel_rfl) (by kernel_rfl) oJ (fun n => akw jZ n) (by delta ail uz; rfl) allN (allC (jQ (by kernel_rfl) (fun n => by delta afX; funext _ _ _ _ _; exact (jZ.eq_2 ..).symm) (fun n => ajC jZ n)) allN)
def afY : Tpl := ⟨(.sl 0 :: (.int .i64 :: (.any :: (.any :: (.any :: (.int .i64 :: (anyN 15 []))))))), [(0, .rows 0 2 (.int .i64))], [], false⟩
def afT : PcS := qY [.int, .int, .rows (.int .i64)] [0]
abbrev aid (G2 : T15 α) : Nat → Ctx α := ctxS o0 M eqs jt0 [] [lpT 2 afY afT R0 G2]
def afM (G2 : T15 α) (k : Nat) (k_1 : Int) (i : Int) (a1 : List Int) (b0 : Int → Int → List Int → Option α) (r0 : Int → Option α) : Option α :=
 bif decide (i < (a1.length : Int)) then
  bif (decide (0 ≤ i) && decide (i < (a1.length : Int))) then
   (a1[i.toNat]?).bind fun e_ =>
   bif (!decide (e_ = k_1)) then
    r0 (-1)
   else
    G2 k (w64 (k_1 + 1)) (w64 (i + 1)) a1 b0 r0
  else
   none
 else
  b0 k_1 i a1
theorem ajN (G2 : T15 α) (n : Nat) : GenL (α := α) Try.prog Try.f22 S10 (aid G2 n) 2 afY afT n G2 (afM G2) := by intro _ _ _ _ _; kernel_rfl
def aiG (G2 : T15 α) (k : Nat) (a : List Int) (k_ : Int) (r0 : Int → Option α) : Option α :=
 G2 k k_ 0 a
  (fun k_2 _ _ =>
    r0 k_2)
  r0
theorem ajW (G2 : T15 α) (n : Nat) : GenF (α := α) Try.prog Try.f22 S10 (aid G2 n) n (aiG G2) := by intro _ _ _; kernel_rfl
theorem ah4 [Inhabited az] {α : Type} : ∀ n, iw (α := α) Try.prog 22 (eQ S10.sh (gX S10 rV n)) := lw Try.func22 (by kernel_rfl) (by kernel_rfl) (by kernel_rfl) oJ (fun n => ajW iy n) (by delta aiG rV; rfl) allN (allC (jQ (by kernel_rfl) (fun n => by delta afM; funext _ _ _ _ _; exact (iy.eq_2 ..).symm) (fun n => ajN iy n)) allN)
def afk : Tpl := ⟨(.sl 0 :: (.any :: (.any :: (.int .i64 :: (.sub 0 :: (.int .i64 :: (anyN 55 []))))))), [(0, .rows 1 2 (.int .i64))], [], false⟩
def agB : PcS := qY [.int, .nat, .nat, .int, .rows (.int .i64)] [2]
def af7 : Tpl := ⟨(.sl 0 :: (.any :: (.any :: (.int .i64 :: (anyN 57 []))))), [(0, .rows 1 2 (.int .i64))], [], false⟩
def af8 : PcS := qY [.int, .rows (.int .i64)] [0]
abbrev aeM (G9 : T16 α) (G4 : T17 α) : Nat → Ctx α := ctxS o0 M eqs jt0 [] [lpT 9 afk agB R4 G9, lpT 4 af7 af8 R4 G4]
def agv (G9 : T16 α) (k : Nat) (k_1 : Int) (s2_ : Nat) (s2_1 : Nat) (k2_ : Int) (s2 : List Int) (b2 : Int → Nat → Nat → Int → List Int → Option α) (r0 : List Int → Option α) : Option α :=
 bif decide (k2_ < ((s2_1 : Nat) : Int)) then
  bif (decide (0 ≤ k2_) && decide (k2_ < ((s2_1 : Nat) : Int))) then
   (s2[(jq s2_ k2_.toNat 1)]?).bind fun e_2 =>
   bif (decide (0 ≤ (w64 (k2_ - 1))) && decide ((w64 (k2_ - 1)) < ((s2_1 : Nat) : Int))) then
    (s2[(jq s2_ ((w64 (k2_ - 1)).toNat) 1)]?).bind fun e_3 =>
    bif (!decide (e_2 = e_3)) then
     bif (decide (0 ≤ k2_) && decide (k2_ < ((s2_1 : Nat) : Int))) then
      (s2[(jq s2_ k2_.toNat 1)]?).bind fun e_4 =>
      bif (decide (0 ≤ k_1) && decide (k_1 < (s2.length : Int))) then
       (s2[k_1.toNat]?).bind fun _ =>
       G9 k (w64 (k_1 + 1)) s2_ s2_1 (w64 (k2_ + 1)) (List.set s2 k_1.toNat e_4) b2 r0
      else
       none
     else
      none
    else
     G9 k k_1 s2_ s2_1 (w64 (k2_ + 1)) s2 b2 r0
   else
    none
  else
   none
 else
  b2 k_1 s2_ s2_1 k2_ s2
theorem ajI (G9 : T16 α) (G4 : T17 α) (n : Nat) : GenL (α := α) Try.prog Try.f17 S11 (aeM G9 G4 n) 9 afk agB n G9 (agv G9) := by intro _ _ _ _ _ _ _ _; kernel_rfl
def agA (G9 : T16 α) (G4 : T17 α) (k : Nat) (k_ : Int) (s1 : List Int) (b0 : Int → List Int → Option α) (r0 : List Int → Option α) : Option α :=
 bif decide (k_ < (s1.length : Int)) then
  bif (decide (0 ≤ k_) && decide (k_ < (s1.length : Int))) then
   (s1[k_.toNat]?).bind fun e_ =>
   bif (decide (0 ≤ (w64 (k_ - 1))) && decide ((w64 (k_ - 1)) < (s1.length : Int))) then
    (s1[(w64 (k_ - 1)).toNat]?).bind fun e_1 =>
    bif decide (e_ = e_1) then
     bif (decide (0 ≤ k_) && decide (k_ ≤ (s1.length : Int))) then
      G9 k k_ k_.toNat ((List.length s1) - k_.toNat) 1 s1
       (fun k_2 _ _ _ s3 =>
         bif (decide (0 ≤ k_2) && decide (k_2 ≤ (s3.length : Int))) then
          bif (decide (0 ≤ k_2) && decide (k_2 ≤ (((List.length (((List.take k_2.toNat s3) ++ (List.replicate ((List.length s3) - k_2.toNat) 0)) ++ (List.drop (k_2.toNat + ((List.length s3) - k_2.toNat)) s3))) : Nat) : Int))) then
           r0 (List.take (k_2.toNat - 0) (((List.take k_2.toNat s3) ++ (List.replicate ((List.length s3) - k_2.toNat) 0)) ++ (List.drop (k_2.toNat + ((List.length s3) - k_2.toNat)) s3)))
          else
           none
         else
          none)
       r0
     else
      none
    else
     G4 k (w64 (k_ + 1)) s1 b0 r0
   else
    none
  else
   none
 else
  b0 k_ s1
theorem ajj (G9 : T16 α) (G4 : T17 α) (n : Nat) : GenL (α := α) Try.prog Try.f17 S11 (aeM G9 G4 n) 4 af7 af8 n G4 (agA G9 G4) := by intro _ _ _ _ _; kernel_rfl
def aia (G4 : T17 α) (k : Nat) (s : List Int) (r0 : List Int → Option α) : Option α :=
 bif decide ((s.length : Int) < 2) then
  r0 s
 else
  G4 k 1 s
   (fun _ s4 =>
     r0 s4)
   r0
theorem akd (G9 : T16 α) (G4 : T17 α) (n : Nat) : GenF (α := α) Try.prog Try.f17 S11 (aeM G9 G4 n) n (aia G4) := by intro _ _; kernel_rfl
theorem ahv [Inhabited az] {α : Type} : ∀ n, iw (α := α) Try.prog 17 (eQ S11.sh (gX S11 jV n)) := lw Try.func17 (by kernel_rfl) (by kernel_rfl) (by kernel_rfl) oJ (fun n => akd dY fZ n) (by delta aia jV; rfl) allN (allC (jQ (by kernel_rfl) (fun n => by delta agv; funext _ _ _ _ _ _ _; exact (dY.eq_2 ..).symm) (fun n => ajI dY fZ n)) (allC (jQ (by kernel_rfl) (fun n => by delta agA; funext _ _ _ _; exact (fZ.eq_2 ..).symm) (fun n => ajj dY fZ n)) allN))
def agW : Tpl := ⟨(.sl 0 :: (.int .i64 :: (.any :: (.any :: (.any :: (.int .i64 :: (anyN 13 []))))))), [(0, .rows 1 2 (.int .i64))], [], false⟩
def agE : PcS := qY [.int, .int, .rows (.int .i64)] [0]
abbrev aiE (G2 : T18 α) : Nat → Ctx α := ctxS o0 M eqs jt0 [] [lpT 2 agW agE R5 G2]
def af2 (G2 : T18 α) (k : Nat) (k_1 : Int) (i : Int) (a1 : List Int) (b0 : Int → Int → List Int → Option α) (r0 : Int → List Int → Option α) : Option α :=
 bif decide (i < (a1.length : Int)) then
  bif (decide (0 ≤ i) && decide (i < (a1.length : Int))) then
   (a1[i.toNat]?).bind fun _ =>
   G2 k (w64 (k_1 + 1)) (w64 (i + 1)) (List.set a1 i.toNat k_1) b0 r0
  else
   none
 else
  b0 k_1 i a1
theorem aji (G2 : T18 α) (n : Nat) : GenL (α := α) Try.prog Try.f21 S12 (aiE G2 n) 2 agW agE n G2 (af2 G2) := by intro _ _ _ _ _ _ _; kernel_rfl
def aii (G2 : T18 α) (k : Nat) (a : List Int) (k_ : Int) (r0 : Int → List Int → Option α) : Option α :=
 G2 k k_ 0 a
  (fun k_2 _ a2 =>
    r0 k_2 a2)
  r0
theorem aj8 (G2 : T18 α) (n : Nat) : GenF (α := α) Try.prog Try.f21 S12 (aiE G2 n) n (aii G2) := by intro _ _ _; kernel_rfl
theorem ahE [Inhabited az] {α : Type} : ∀ n, iw (α := α) Try.prog 21 (eQ S12.sh (gX S12 rY n)) := lw Try.func21 (by kernel_rfl) (by kernel_rfl) (by kernel_rfl) oJ (fun n => aj8 kY n) (by delta aii rY; rfl) allN (allC (jQ (by kernel_rfl) (fun n => by delta af2; funext _ _ _ _ _; exact (kY.eq_2 ..).symm) (fun n => aji kY n)) allN)
abbrev akv : Nat → Ctx α := ctxS o0 M eqs jt0 [] []
def aiC (_ : Nat) (n_ : Int) (x : Int) (r0 : Int → Option α) : Option α :=
 bif decide (n_ = 0) then
  none
 else
 bif decide (n_ = 0) then
  none
 else
  r0 (Int.tmod (w64 ((Int.tmod x n_) + n_)) n_)
theorem akc (n : Nat) : GenF (α := α) Try.prog Try.f12 S0 (akv n) n (aiC) := by intro _ _ _; kernel_rfl
theorem ahq [Inhabited az] {α : Type} : ∀ n, iw (α := α) Try.prog 12 (eQ S0.sh (gX S0 pV n)) := lw Try.func12 (by kernel_rfl) (by kernel_rfl) (by kernel_rfl) oJ (fun n => akc n) (by delta aiC pV; rfl) allN allN
abbrev akb : Nat → Ctx α := ctxS o0 M eqs jt0 [] []
def aiH (_ : Nat) (list : List Int) (r0 : List Int → Option α) : Option α :=
 bif decide ((0 + (List.length list)) ≤ big) then
  r0 ([] ++ list)
 else
  none
theorem akn (n : Nat) : GenF (α := α) Try.prog Try.f24 S14 (akb n) n (aiH) := by intro _ _; kernel_rfl
theorem ah2 [Inhabited az] {α : Type} : ∀ n, iw (α := α) Try.prog 24 (eQ S14.sh (gX S14 qQ n)) := lw Try.func24 (by kernel_rfl) (by kernel_rfl) (by kernel_rfl) oJ (fun n => akn n) (by delta aiH qQ; rfl) allN allN
def agL : Tpl := ⟨(.int .i64 :: (.int .i64 :: (.int .i64 :: (anyN 4 (.sl 768 :: (.int .i64 :: (.int .i64 :: (.int .i64 :: (anyN 44 []))))))))), [(768, .rows 2 2 (.int .i64))], [], false⟩
def aft : PcS := qY [.int, .int, .int, .int, .int, .int, .rows (.int .i64)] [2]
def ags : Tpl := ⟨(.int .i64 :: (.int .i64 :: (.int .i64 :: (anyN 4 (.sl 768 :: (.int .i64 :: (anyN 46 []))))))), [(768, .rows 2 2 (.int .i64))], [(7, 768, 2, (.int .i64))], false⟩
def agI : PcS := qY [.int, .int, .int, .int, .rows (.int .i64)] [0]
abbrev aeK (F0 : T0 α) (F1 : T20 α) (G6 : T21 α) (G3 : T5 α) : Nat → Ctx α := ctxS o0 M eqs jt0 [⟨12, S0, F0⟩, ⟨24, S14, F1⟩] [lpT 6 agL aft R3 G6, lpT 3 ags agI R3 G3]
def agN (F0 : T0 α) (G6 : T21 α) (k : Nat) (p_2 : Int) (q_2 : Int) (n_2 : Int) (k_1 : Int) (own : Int) (at_ : Int) (out1 : List Int) (b2 : Int → Int → Int → Int → Int → Int → List Int → Option α) (r0 : List Int → Option α) : Option α :=
 bif decide (0 < at_) then
  bif (decide (0 ≤ (w64 (at_ - 1))) && decide ((w64 (at_ - 1)) < (out1.length : Int))) then
   (out1[(w64 (at_ - 1)).toNat]?).bind fun e_ =>
   F0 k q_2 (w64 (e_ * p_2)) fun v1 =>
   bif decide (own < v1) then
    G6 k p_2 q_2 n_2 k_1 own (w64 (at_ - 1)) out1 b2 r0
   else
    b2 p_2 q_2 n_2 k_1 own at_ out1
  else
   none
 else
  b2 p_2 q_2 n_2 k_1 own at_ out1
theorem ajg (F0 : T0 α) (F1 : T20 α) (G6 : T21 α) (G3 : T5 α) (n : Nat) : GenL (α := α) Try.prog Try.f11 S7 (aeK F0 F1 G6 G3 n) 6 agL aft n G6 (agN F0 G6) := by intro _ _ _ _ _ _ _ _ _; kernel_rfl
def af9 (F0 : T0 α) (F1 : T20 α) (G6 : T21 α) (G3 : T5 α) (k : Nat) (p_1 : Int) (q_1 : Int) (n_1 : Int) (k_ : Int) (out : List Int) (b0 : Int → Int → Int → Int → List Int → Option α) (r0 : List Int → Option α) : Option α :=
 bif decide (k_ < n_1) then
  F0 k q_1 (w64 (k_ * p_1)) fun v =>
  G6 k p_1 q_1 n_1 k_ v (out.length : Int) out
   (fun p_3 q_3 n_3 k_2 _ at_1 out2 =>
     bif (decide (0 ≤ at_1) && decide (at_1 ≤ (out2.length : Int))) then
      bif decide ((1 + (List.length (List.take ((List.length out2) - at_1.toNat) (List.drop at_1.toNat out2)))) ≤ big) then
       bif (decide (0 ≤ at_1) && decide (at_1 ≤ (out2.length : Int))) then
        F1 k (List.take (at_1.toNat - 0) (List.drop 0 out2)) fun v2 =>
        bif decide (((List.length v2) + (List.length ([k_2] ++ (List.take ((List.length out2) - at_1.toNat) (List.drop at_1.toNat out2))))) ≤ big) then
         G3 k p_3 q_3 n_3 (w64 (k_2 + 1)) (v2 ++ ([k_2] ++ (List.take ((List.length out2) - at_1.toNat) (List.drop at_1.toNat out2)))) b0 r0
        else
         none
       else
        none
      else
       none
     else
      none)
   r0
 else
  b0 p_1 q_1 n_1 k_ out
theorem ajJ (F0 : T0 α) (F1 : T20 α) (G6 : T21 α) (G3 : T5 α) (n : Nat) : GenL (α := α) Try.prog Try.f11 S7 (aeK F0 F1 G6 G3 n) 3 ags agI n G3 (af9 F0 F1 G6 G3) := by intro _ _ _ _ _ _ _; kernel_rfl
def aiu (G3 : T5 α) (k : Nat) (p_ : Int) (q_ : Int) (n_ : Int) (r0 : List Int → Option α) : Option α :=
 G3 k p_ q_ n_ 0 []
  (fun _ _ _ _ out3 =>
    r0 out3)
  r0
theorem aj7 (F0 : T0 α) (F1 : T20 α) (G6 : T21 α) (G3 : T5 α) (n : Nat) : GenF (α := α) Try.prog Try.f11 S7 (aeK F0 F1 G6 G3 n) n (aiu G3) := by intro _ _ _ _; kernel_rfl
theorem ahi [Inhabited az] {α : Type} : ∀ n, iw (α := α) Try.prog 11 (eQ S7.sh (gX S7 uj n)) := lw Try.func11 (by kernel_rfl) (by kernel_rfl) (by kernel_rfl) oJ (fun n => aj7 pV qQ jv jw n) (by delta aiu uj; rfl) (allC ahq (allC ah2 allN)) (allC (jQ (by kernel_rfl) (fun n => by delta agN; funext _ _ _ _ _ _ _ _ _; exact (jv.eq_2 ..).symm) (fun n => ajg pV qQ jv jw n)) (allC (jQ (by kernel_rfl) (fun n => by delta af9; funext _ _ _ _ _ _ _; exact (jw.eq_2 ..).symm) (fun n => ajJ pV qQ jv jw n)) allN))
end Go.Proofs.Ythjehhoafmnmkaa
