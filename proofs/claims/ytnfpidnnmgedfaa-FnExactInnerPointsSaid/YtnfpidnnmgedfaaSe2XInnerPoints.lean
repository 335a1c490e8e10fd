/- The program's functions hold to their readings without memory: printed by a program of ours. -/
import Derived.Test.YtnfpidnnmgedfaaSe1XInnerPoints
namespace Go.Proofs.Ytnfpidnnmgedfaa
open Go Go.Ev Go.Sh Go.Proofs

/-! loop.example/g01297/impl.InnerPoints -/
def impl_InnerPoints_sh : List SkD := [.agg [.int .i64, .int .i64, .int .i64, .int .i64, .int .i64, .int .i64]]
def impl_InnerPoints_runG {α : Type} (F : Nat → Int → Int → Int → Int → Int → Int → (Int → Option α) → ((List (Int × Int)) → Int → Option α) → Option α) (n : Nat) (p : List P1) (κ : Res → Option α) : Option α := match p with
  | [.int t, .int t1, .int t2, .int t3, .int t4, .int t5] => F n t t1 t2 t3 t4 t5 (fun v1 => κ ⟨[.nilsl, .int .i64 v1], []⟩) (fun v1 v2 => κ ⟨[.sl 33 .pt v1, .int .i64 v2], []⟩)
  | _ => none
def impl_InnerPoints_run {α : Type} (n : Nat) (p : List P1) (κ : Res → Option α) : Option α := impl_InnerPoints_runG impl_InnerPoints n p κ
def impl_InnerPoints_CG {α : Type} (F0 : Nat → Int → Int → Int → Int → Int → Int → (Bool → Option α) → Option α) (F1 : Nat → Int → Int → Int → Int → Int → Int → (Int → Option α) → Option α) (F2 : Nat → Int → Int → Int → Int → Int → Int → Int → Int → (Bool → Option α) → Option α) (n : Nat) : FuncId → List D → (Res → Option α) → Option α := tabC [(75, (byShape impl_IsTriangle_sh (impl_IsTriangle_runG F0 n))), (92, (byShape impl_Triangle_inner_sh (impl_Triangle_inner_runG F1 n))), (93, (byShape impl_Triangle_inside_sh (impl_Triangle_inside_runG F2 n)))]
def impl_InnerPoints_C {α : Type} (n : Nat) : FuncId → List D → (Res → Option α) → Option α := impl_InnerPoints_CG impl_IsTriangle impl_Triangle_inner impl_Triangle_inside n
def impl_InnerPoints_M : FuncId → List Nat := tabM []
def impl_InnerPoints_t11 : Tpl := ⟨[.any, .ptr 64 0 0, .any, .any, .sl 1152, .int .i64, .int .i64, .int .i64, .int .i64, .any, .any, .any, .any, .any, .any, .any, .any, .any, .any, .any, .any, .any, .any, .any, .any, .any, .any, .any, .any, .any, .any, .any, .any, .any, .any, .any, .any, .any, .any, .any, .any, .any, .any, .any, .any, .any, .any, .any, .any, .any, .any, .any, .any, .any, .any, .any, .any, .any, .any, .any, .any, .any, .any, .any, .any, .any, .any, .any, .any, .any, .any, .any, .any, .any, .any, .any, .any, .any, .any, .any], [(64, .ints 2 50 .i64 6), (1152, .rows 2 33 .pt)], []⟩
def impl_InnerPoints_uG11 {α : Type} (G : Nat → Int → Int → Int → Int → Int → Int → Int → Int → Int → Int → (List (Int × Int)) → (Int → Int → Int → Int → Int → Int → Int → Int → Int → Int → (List (Int × Int)) → Option α) → (Int → Option α) → ((List (Int × Int)) → Int → Option α) → Option α) (n : Nat) (p : List P1) (brk : Nat → List P1 → Option α) (ret : Res → Option α) : Option α := match p with
  | [.int low1, .int high1, .int x1, .int y, .int t12, .int t13, .int t14, .int t15, .int t16, .int t17, .rows .pt out1] => G n low1 high1 x1 y t12 t13 t14 t15 t16 t17 out1 (fun low1 high1 x1 y t12 t13 t14 t15 t16 t17 out1 => brk 3 [.int low1, .int high1, .int x1, .int y, .int t12, .int t13, .int t14, .int t15, .int t16, .int t17, .rows .pt out1]) (fun v1 => ret ⟨[.nilsl, .int .i64 v1], []⟩) (fun v1 v2 => ret ⟨[.sl 33 .pt v1, .int .i64 v2], []⟩)
  | _ => none
def impl_InnerPoints_u11 {α : Type} (n : Nat) (p : List P1) (brk : Nat → List P1 → Option α) (ret : Res → Option α) : Option α := impl_InnerPoints_uG11 impl_InnerPoints_l11 n p brk ret
def impl_InnerPoints_t8 : Tpl := ⟨[.any, .ptr 64 0 0, .any, .any, .sl 1152, .int .i64, .int .i64, .int .i64, .any, .any, .any, .any, .any, .any, .any, .any, .any, .any, .any, .any, .any, .any, .any, .any, .any, .any, .any, .any, .any, .any, .any, .any, .any, .any, .any, .any, .any, .any, .any, .any, .any, .any, .any, .any, .any, .any, .any, .any, .any, .any, .any, .any, .any, .any, .any, .any, .any, .any, .any, .any, .any, .any, .any, .any, .any, .any, .any, .any, .any, .any, .any, .any, .any, .any, .any, .any, .any, .any, .any, .any], [(64, .ints 2 50 .i64 6), (1152, .rows 2 33 .pt)], []⟩
def impl_InnerPoints_uG8 {α : Type} (G : Nat → Int → Int → Int → Int → Int → Int → Int → Int → Int → (List (Int × Int)) → (Int → Int → Int → Int → Int → Int → Int → Int → Int → (List (Int × Int)) → Option α) → (Int → Option α) → ((List (Int × Int)) → Int → Option α) → Option α) (n : Nat) (p : List P1) (brk : Nat → List P1 → Option α) (ret : Res → Option α) : Option α := match p with
  | [.int low, .int high, .int x, .int t6, .int t7, .int t8, .int t9, .int t10, .int t11, .rows .pt out] => G n low high x t6 t7 t8 t9 t10 t11 out (fun low high x t6 t7 t8 t9 t10 t11 out => brk 1 [.int low, .int high, .int x, .int t6, .int t7, .int t8, .int t9, .int t10, .int t11, .rows .pt out]) (fun v1 => ret ⟨[.nilsl, .int .i64 v1], []⟩) (fun v1 v2 => ret ⟨[.sl 33 .pt v1, .int .i64 v2], []⟩)
  | _ => none
def impl_InnerPoints_u8 {α : Type} (n : Nat) (p : List P1) (brk : Nat → List P1 → Option α) (ret : Res → Option α) : Option α := impl_InnerPoints_uG8 impl_InnerPoints_l8 n p brk ret
def impl_InnerPoints_lpsG {α : Type} (G11 : Nat → Int → Int → Int → Int → Int → Int → Int → Int → Int → Int → (List (Int × Int)) → (Int → Int → Int → Int → Int → Int → Int → Int → Int → Int → (List (Int × Int)) → Option α) → (Int → Option α) → ((List (Int × Int)) → Int → Option α) → Option α) (G8 : Nat → Int → Int → Int → Int → Int → Int → Int → Int → Int → (List (Int × Int)) → (Int → Int → Int → Int → Int → Int → Int → Int → Int → (List (Int × Int)) → Option α) → (Int → Option α) → ((List (Int × Int)) → Int → Option α) → Option α) : List (LoopT α) := [⟨11, impl_InnerPoints_t11, impl_InnerPoints_uG11 G11⟩, ⟨8, impl_InnerPoints_t8, impl_InnerPoints_uG8 G8⟩]
def impl_InnerPoints_lps {α : Type} : List (LoopT α) := impl_InnerPoints_lpsG impl_InnerPoints_l11 impl_InnerPoints_l8
def impl_InnerPoints_XG {α : Type} (F0 : Nat → Int → Int → Int → Int → Int → Int → (Bool → Option α) → Option α) (F1 : Nat → Int → Int → Int → Int → Int → Int → (Int → Option α) → Option α) (F2 : Nat → Int → Int → Int → Int → Int → Int → Int → Int → (Bool → Option α) → Option α) (G11 : Nat → Int → Int → Int → Int → Int → Int → Int → Int → Int → Int → (List (Int × Int)) → (Int → Int → Int → Int → Int → Int → Int → Int → Int → Int → (List (Int × Int)) → Option α) → (Int → Option α) → ((List (Int × Int)) → Int → Option α) → Option α) (G8 : Nat → Int → Int → Int → Int → Int → Int → Int → Int → Int → (List (Int × Int)) → (Int → Int → Int → Int → Int → Int → Int → Int → Int → (List (Int × Int)) → Option α) → (Int → Option α) → ((List (Int × Int)) → Int → Option α) → Option α) (n : Nat) : Ctx α := ⟨impl_InnerPoints_CG F0 F1 F2 n, impl_InnerPoints_M, eqs, lpOf (impl_InnerPoints_lpsG G11 G8) n⟩
def impl_InnerPoints_X {α : Type} (n : Nat) : Ctx α := impl_InnerPoints_XG impl_IsTriangle impl_Triangle_inner impl_Triangle_inside impl_InnerPoints_l11 impl_InnerPoints_l8 n
def impl_InnerPoints_Lt (np : Nat) (lent : List (Bool × Nat × Blk)) : Prop := np = 1 ∧ lent = []
def impl_InnerPoints_lb11 {α : Type} (F0 : Nat → Int → Int → Int → Int → Int → Int → (Bool → Option α) → Option α) (F1 : Nat → Int → Int → Int → Int → Int → Int → (Int → Option α) → Option α) (F2 : Nat → Int → Int → Int → Int → Int → Int → Int → Int → (Bool → Option α) → Option α) (G11 : Nat → Int → Int → Int → Int → Int → Int → Int → Int → Int → Int → (List (Int × Int)) → (Int → Int → Int → Int → Int → Int → Int → Int → Int → Int → (List (Int × Int)) → Option α) → (Int → Option α) → ((List (Int × Int)) → Int → Option α) → Option α) (G8 : Nat → Int → Int → Int → Int → Int → Int → Int → Int → Int → (List (Int × Int)) → (Int → Int → Int → Int → Int → Int → Int → Int → Int → (List (Int × Int)) → Option α) → (Int → Option α) → ((List (Int × Int)) → Int → Option α) → Option α) (k : Nat) (low1 : Int) (high1 : Int) (x1 : Int) (y : Int) (t12 : Int) (t13 : Int) (t14 : Int) (t15 : Int) (t16 : Int) (t17 : Int) (out1 : List (Int × Int)) (b3 : Int → Int → Int → Int → Int → Int → Int → Int → Int → Int → (List (Int × Int)) → Option α) (r0 : Int → Option α) (r1 : (List (Int × Int)) → Int → Option α) : Option α :=
  bif decide (y ≤ high1) then
    F2 k t12 t13 t14 t15 t16 t17 x1 y fun v2 =>
    bif v2 then
      bif decide (((List.length out1) + 1) ≤ big) then
        G11 k low1 high1 x1 (w64 (y + 1)) t12 t13 t14 t15 t16 t17 (out1 ++ [(x1, y)]) b3 r0 r1
      else
        none
    else
      G11 k low1 high1 x1 (w64 (y + 1)) t12 t13 t14 t15 t16 t17 out1 b3 r0 r1
  else
    b3 low1 high1 x1 y t12 t13 t14 t15 t16 t17 out1
theorem impl_InnerPoints_l11_gen {α : Type} (F0 : Nat → Int → Int → Int → Int → Int → Int → (Bool → Option α) → Option α) (F1 : Nat → Int → Int → Int → Int → Int → Int → (Int → Option α) → Option α) (F2 : Nat → Int → Int → Int → Int → Int → Int → Int → Int → (Bool → Option α) → Option α) (G11 : Nat → Int → Int → Int → Int → Int → Int → Int → Int → Int → Int → (List (Int × Int)) → (Int → Int → Int → Int → Int → Int → Int → Int → Int → Int → (List (Int × Int)) → Option α) → (Int → Option α) → ((List (Int × Int)) → Int → Option α) → Option α) (G8 : Nat → Int → Int → Int → Int → Int → Int → Int → Int → Int → (List (Int × Int)) → (Int → Int → Int → Int → Int → Int → Int → Int → Int → (List (Int × Int)) → Option α) → (Int → Option α) → ((List (Int × Int)) → Int → Option α) → Option α) (n : Nat) (low1 : Int) (high1 : Int) (x1 : Int) (y : Int) (t12 : Int) (t13 : Int) (t14 : Int) (t15 : Int) (t16 : Int) (t17 : Int) (out1 : List (Int × Int)) (brk : Nat → List P1 → Option α) (ret : Res → Option α) : ev ((impl_InnerPoints_XG F0 F1 F2 G11 G8 n).env Try.prog Try.f44 1 []) (findLoop (loopsIn (Try.f44.body.getD .skip)) 11) ((impl_InnerPoints_t11.build [.int low1, .int high1, .int x1, .int y, .int t12, .int t13, .int t14, .int t15, .int t16, .int t17, .rows .pt out1]).getD ⟨[], []⟩) (roundK (1 * 64) impl_InnerPoints_t11 (fun q => impl_InnerPoints_uG11 G11 n q brk ret) brk ret) = impl_InnerPoints_lb11 F0 F1 F2 G11 G8 n low1 high1 x1 y t12 t13 t14 t15 t16 t17 out1 (fun low1 high1 x1 y t12 t13 t14 t15 t16 t17 out1 => brk 3 [.int low1, .int high1, .int x1, .int y, .int t12, .int t13, .int t14, .int t15, .int t16, .int t17, .rows .pt out1]) (fun v1 => ret ⟨[.nilsl, .int .i64 v1], []⟩) (fun v1 v2 => ret ⟨[.sl 33 .pt v1, .int .i64 v2], []⟩) := by kernel_rfl
theorem impl_InnerPoints_l11_ev {α : Type} (n : Nat) (low1 : Int) (high1 : Int) (x1 : Int) (y : Int) (t12 : Int) (t13 : Int) (t14 : Int) (t15 : Int) (t16 : Int) (t17 : Int) (out1 : List (Int × Int)) (brk : Nat → List P1 → Option α) (ret : Res → Option α) : ev ((impl_InnerPoints_X n).env Try.prog Try.f44 1 []) (findLoop (loopsIn (Try.f44.body.getD .skip)) 11) ((impl_InnerPoints_t11.build [.int low1, .int high1, .int x1, .int y, .int t12, .int t13, .int t14, .int t15, .int t16, .int t17, .rows .pt out1]).getD ⟨[], []⟩) (roundK (1 * 64) impl_InnerPoints_t11 (fun q => impl_InnerPoints_u11 n q brk ret) brk ret) = impl_InnerPoints_u11 (n + 1) [.int low1, .int high1, .int x1, .int y, .int t12, .int t13, .int t14, .int t15, .int t16, .int t17, .rows .pt out1] brk ret := (impl_InnerPoints_l11_gen impl_IsTriangle impl_Triangle_inner impl_Triangle_inside impl_InnerPoints_l11 impl_InnerPoints_l8 n low1 high1 x1 y t12 t13 t14 t15 t16 t17 out1 brk ret).trans (by kernel_rfl)
def impl_InnerPoints_lb8 {α : Type} (F0 : Nat → Int → Int → Int → Int → Int → Int → (Bool → Option α) → Option α) (F1 : Nat → Int → Int → Int → Int → Int → Int → (Int → Option α) → Option α) (F2 : Nat → Int → Int → Int → Int → Int → Int → Int → Int → (Bool → Option α) → Option α) (G11 : Nat → Int → Int → Int → Int → Int → Int → Int → Int → Int → Int → (List (Int × Int)) → (Int → Int → Int → Int → Int → Int → Int → Int → Int → Int → (List (Int × Int)) → Option α) → (Int → Option α) → ((List (Int × Int)) → Int → Option α) → Option α) (G8 : Nat → Int → Int → Int → Int → Int → Int → Int → Int → Int → (List (Int × Int)) → (Int → Int → Int → Int → Int → Int → Int → Int → Int → (List (Int × Int)) → Option α) → (Int → Option α) → ((List (Int × Int)) → Int → Option α) → Option α) (k : Nat) (low : Int) (high : Int) (x : Int) (t6 : Int) (t7 : Int) (t8 : Int) (t9 : Int) (t10 : Int) (t11 : Int) (out : List (Int × Int)) (b1 : Int → Int → Int → Int → Int → Int → Int → Int → Int → (List (Int × Int)) → Option α) (r0 : Int → Option α) (r1 : (List (Int × Int)) → Int → Option α) : Option α :=
  bif decide (x ≤ (max (max t6 t8) t10)) then
    G11 k low high x low t6 t7 t8 t9 t10 t11 out
      (fun low2 high2 x2 y1 t18 t19 t20 t21 t22 t23 out2 =>
        G8 k low2 high2 (w64 (x2 + 1)) t18 t19 t20 t21 t22 t23 out2 b1 r0 r1)
      r0 r1
  else
    b1 low high x t6 t7 t8 t9 t10 t11 out
theorem impl_InnerPoints_l8_gen {α : Type} (F0 : Nat → Int → Int → Int → Int → Int → Int → (Bool → Option α) → Option α) (F1 : Nat → Int → Int → Int → Int → Int → Int → (Int → Option α) → Option α) (F2 : Nat → Int → Int → Int → Int → Int → Int → Int → Int → (Bool → Option α) → Option α) (G11 : Nat → Int → Int → Int → Int → Int → Int → Int → Int → Int → Int → (List (Int × Int)) → (Int → Int → Int → Int → Int → Int → Int → Int → Int → Int → (List (Int × Int)) → Option α) → (Int → Option α) → ((List (Int × Int)) → Int → Option α) → Option α) (G8 : Nat → Int → Int → Int → Int → Int → Int → Int → Int → Int → (List (Int × Int)) → (Int → Int → Int → Int → Int → Int → Int → Int → Int → (List (Int × Int)) → Option α) → (Int → Option α) → ((List (Int × Int)) → Int → Option α) → Option α) (n : Nat) (low : Int) (high : Int) (x : Int) (t6 : Int) (t7 : Int) (t8 : Int) (t9 : Int) (t10 : Int) (t11 : Int) (out : List (Int × Int)) (brk : Nat → List P1 → Option α) (ret : Res → Option α) : ev ((impl_InnerPoints_XG F0 F1 F2 G11 G8 n).env Try.prog Try.f44 1 []) (findLoop (loopsIn (Try.f44.body.getD .skip)) 8) ((impl_InnerPoints_t8.build [.int low, .int high, .int x, .int t6, .int t7, .int t8, .int t9, .int t10, .int t11, .rows .pt out]).getD ⟨[], []⟩) (roundK (1 * 64) impl_InnerPoints_t8 (fun q => impl_InnerPoints_uG8 G8 n q brk ret) brk ret) = impl_InnerPoints_lb8 F0 F1 F2 G11 G8 n low high x t6 t7 t8 t9 t10 t11 out (fun low high x t6 t7 t8 t9 t10 t11 out => brk 1 [.int low, .int high, .int x, .int t6, .int t7, .int t8, .int t9, .int t10, .int t11, .rows .pt out]) (fun v1 => ret ⟨[.nilsl, .int .i64 v1], []⟩) (fun v1 v2 => ret ⟨[.sl 33 .pt v1, .int .i64 v2], []⟩) := by kernel_rfl
theorem impl_InnerPoints_l8_ev {α : Type} (n : Nat) (low : Int) (high : Int) (x : Int) (t6 : Int) (t7 : Int) (t8 : Int) (t9 : Int) (t10 : Int) (t11 : Int) (out : List (Int × Int)) (brk : Nat → List P1 → Option α) (ret : Res → Option α) : ev ((impl_InnerPoints_X n).env Try.prog Try.f44 1 []) (findLoop (loopsIn (Try.f44.body.getD .skip)) 8) ((impl_InnerPoints_t8.build [.int low, .int high, .int x, .int t6, .int t7, .int t8, .int t9, .int t10, .int t11, .rows .pt out]).getD ⟨[], []⟩) (roundK (1 * 64) impl_InnerPoints_t8 (fun q => impl_InnerPoints_u8 n q brk ret) brk ret) = impl_InnerPoints_u8 (n + 1) [.int low, .int high, .int x, .int t6, .int t7, .int t8, .int t9, .int t10, .int t11, .rows .pt out] brk ret := (impl_InnerPoints_l8_gen impl_IsTriangle impl_Triangle_inner impl_Triangle_inside impl_InnerPoints_l11 impl_InnerPoints_l8 n low high x t6 t7 t8 t9 t10 t11 out brk ret).trans (by kernel_rfl)
def impl_InnerPoints_body {α : Type} (F0 : Nat → Int → Int → Int → Int → Int → Int → (Bool → Option α) → Option α) (F1 : Nat → Int → Int → Int → Int → Int → Int → (Int → Option α) → Option α) (F2 : Nat → Int → Int → Int → Int → Int → Int → Int → Int → (Bool → Option α) → Option α) (G11 : Nat → Int → Int → Int → Int → Int → Int → Int → Int → Int → Int → (List (Int × Int)) → (Int → Int → Int → Int → Int → Int → Int → Int → Int → Int → (List (Int × Int)) → Option α) → (Int → Option α) → ((List (Int × Int)) → Int → Option α) → Option α) (G8 : Nat → Int → Int → Int → Int → Int → Int → Int → Int → Int → (List (Int × Int)) → (Int → Int → Int → Int → Int → Int → Int → Int → Int → (List (Int × Int)) → Option α) → (Int → Option α) → ((List (Int × Int)) → Int → Option α) → Option α) (k : Nat) (t : Int) (t1 : Int) (t2 : Int) (t3 : Int) (t4 : Int) (t5 : Int) (r0 : Int → Option α) (r1 : (List (Int × Int)) → Int → Option α) : Option α :=
  F0 k t t1 t2 t3 t4 t5 fun v =>
  bif (!v) then
    r0 1
  else
    F1 k t t1 t2 t3 t4 t5 fun v1 =>
    bif decide (1000 < v1) then
      r0 3
    else
      G8 k (min (min t1 t3) t5) (max (max t1 t3) t5) (min (min t t2) t4) t t1 t2 t3 t4 t5 []
        (fun low3 high3 x3 t24 t25 t26 t27 t28 t29 out3 =>
          r1 out3 0)
        r0 r1
theorem impl_InnerPoints_gen {α : Type} (F0 : Nat → Int → Int → Int → Int → Int → Int → (Bool → Option α) → Option α) (F1 : Nat → Int → Int → Int → Int → Int → Int → (Int → Option α) → Option α) (F2 : Nat → Int → Int → Int → Int → Int → Int → Int → Int → (Bool → Option α) → Option α) (G11 : Nat → Int → Int → Int → Int → Int → Int → Int → Int → Int → Int → (List (Int × Int)) → (Int → Int → Int → Int → Int → Int → Int → Int → Int → Int → (List (Int × Int)) → Option α) → (Int → Option α) → ((List (Int × Int)) → Int → Option α) → Option α) (G8 : Nat → Int → Int → Int → Int → Int → Int → Int → Int → Int → (List (Int × Int)) → (Int → Int → Int → Int → Int → Int → Int → Int → Int → (List (Int × Int)) → Option α) → (Int → Option α) → ((List (Int × Int)) → Int → Option α) → Option α) (n : Nat) (t : Int) (t1 : Int) (t2 : Int) (t3 : Int) (t4 : Int) (t5 : Int) (κ : Res → Option α) : evFn Try.prog (impl_InnerPoints_XG F0 F1 F2 G11 G8 n) Try.f44 (((buildDs impl_InnerPoints_sh [.int t, .int t1, .int t2, .int t3, .int t4, .int t5]).map Prod.fst).getD []) κ = impl_InnerPoints_body F0 F1 F2 G11 G8 n t t1 t2 t3 t4 t5 (fun v1 => κ ⟨[.nilsl, .int .i64 v1], []⟩) (fun v1 v2 => κ ⟨[.sl 33 .pt v1, .int .i64 v2], []⟩) := by kernel_rfl
theorem impl_InnerPoints_ev {α : Type} (n : Nat) (t : Int) (t1 : Int) (t2 : Int) (t3 : Int) (t4 : Int) (t5 : Int) (κ : Res → Option α) : evFn Try.prog (impl_InnerPoints_X n) Try.f44 (((buildDs impl_InnerPoints_sh [.int t, .int t1, .int t2, .int t3, .int t4, .int t5]).map Prod.fst).getD []) κ = impl_InnerPoints_run n [.int t, .int t1, .int t2, .int t3, .int t4, .int t5] κ := (impl_InnerPoints_gen impl_IsTriangle impl_Triangle_inner impl_Triangle_inside impl_InnerPoints_l11 impl_InnerPoints_l8 n t t1 t2 t3 t4 t5 κ).trans (by kernel_rfl)
theorem impl_InnerPoints_en (t : Int) (t1 : Int) (t2 : Int) (t3 : Int) (t4 : Int) (t5 : Int) : (entry 0 (((buildDs impl_InnerPoints_sh [.int t, .int t1, .int t2, .int t3, .int t4, .int t5]).map Prod.fst).getD [])).map (fun x => (x.1.length, x.2.lent)) = some (1, []) := by kernel_rfl
theorem impl_InnerPoints_good {α : Type} : ∀ n, GoodFn (α := α) Try.prog 44 (byShape impl_InnerPoints_sh (impl_InnerPoints_run n)) := by
  refine fn_good' Try.func44 (c := (Try.f44.body.getD .skip)) (by kernel_rfl) (by kernel_rfl) (by kernel_rfl) impl_InnerPoints_C impl_InnerPoints_M eqs impl_InnerPoints_lps (fun n => tabC_good (List.forall_mem_cons.2 ⟨(impl_IsTriangle_good n), (List.forall_mem_cons.2 ⟨(impl_Triangle_inner_good n), (List.forall_mem_cons.2 ⟨(impl_Triangle_inside_good n), (fun _ h => absurd h List.not_mem_nil)⟩)⟩)⟩)) eqs_ok impl_InnerPoints_Lt ?_ ?_ impl_InnerPoints_sh impl_InnerPoints_run ?_
  · refine List.forall_mem_cons.2 ⟨?_, List.forall_mem_cons.2 ⟨?_, (fun _ h => absurd h List.not_mem_nil)⟩⟩
    · intro p brk ret; show impl_InnerPoints_u11 0 p brk ret = none; unfold impl_InnerPoints_u11 impl_InnerPoints_uG11; split <;> rfl
    · intro p brk ret; show impl_InnerPoints_u8 0 p brk ret = none; unfold impl_InnerPoints_u8 impl_InnerPoints_uG8; split <;> rfl
  · refine List.forall_mem_cons.2 ⟨?_, List.forall_mem_cons.2 ⟨?_, (fun _ h => absurd h List.not_mem_nil)⟩⟩
    · intro np lent hL n p brk ret st r hb hr
      obtain ⟨rfl, rfl⟩ := hL
      rw [← tpl_of hb]
      change impl_InnerPoints_u11 (n + 1) p brk ret = some r at hr
      have hr0 := hr
      unfold impl_InnerPoints_u11 impl_InnerPoints_uG11 at hr
      split at hr
      · exact (impl_InnerPoints_l11_ev n _ _ _ _ _ _ _ _ _ _ _ brk ret).trans hr0
      · cases hr
    · intro np lent hL n p brk ret st r hb hr
      obtain ⟨rfl, rfl⟩ := hL
      rw [← tpl_of hb]
      change impl_InnerPoints_u8 (n + 1) p brk ret = some r at hr
      have hr0 := hr
      unfold impl_InnerPoints_u8 impl_InnerPoints_uG8 at hr
      split at hr
      · exact (impl_InnerPoints_l8_ev n _ _ _ _ _ _ _ _ _ _ brk ret).trans hr0
      · cases hr
  · intro n p κ r ds hd hr
    have hr0 := hr
    unfold impl_InnerPoints_run impl_InnerPoints_runG at hr
    split at hr
    · rw [← ds_of hd]
      exact ⟨en_of (impl_InnerPoints_en _ _ _ _ _ _) ⟨rfl, rfl⟩, (impl_InnerPoints_ev n _ _ _ _ _ _ κ).trans hr0⟩
    · cases hr

/-! loop.example/g01297/laws.eqPointS -/
def laws_eqPointS_0N_1N_sh : List SkD := [.nilsl, .nilsl]
def laws_eqPointS_0N_1N_runG {α : Type} (F : Nat → (Bool → Option α) → Option α) (n : Nat) (p : List P1) (κ : Res → Option α) : Option α := match p with
  | [] => F n (fun v1 => κ ⟨[.bool v1], []⟩)
  | _ => none
def laws_eqPointS_0N_1N_run {α : Type} (n : Nat) (p : List P1) (κ : Res → Option α) : Option α := laws_eqPointS_0N_1N_runG laws_eqPointS_0N_1N n p κ
def laws_eqPointS_0N_1N_CG {α : Type}  (n : Nat) : FuncId → List D → (Res → Option α) → Option α := tabC []
def laws_eqPointS_0N_1N_C {α : Type} (n : Nat) : FuncId → List D → (Res → Option α) → Option α := laws_eqPointS_0N_1N_CG n
def laws_eqPointS_0N_1N_M : FuncId → List Nat := tabM []
def laws_eqPointS_0N_1N_lpsG {α : Type}  : List (LoopT α) := []
def laws_eqPointS_0N_1N_lps {α : Type} : List (LoopT α) := laws_eqPointS_0N_1N_lpsG
def laws_eqPointS_0N_1N_XG {α : Type}   (n : Nat) : Ctx α := ⟨laws_eqPointS_0N_1N_CG n, laws_eqPointS_0N_1N_M, eqs, lpOf (laws_eqPointS_0N_1N_lpsG) n⟩
def laws_eqPointS_0N_1N_X {α : Type} (n : Nat) : Ctx α := laws_eqPointS_0N_1N_XG n
def laws_eqPointS_0N_1N_Lt (np : Nat) (lent : List (Bool × Nat × Blk)) : Prop := np = 2 ∧ lent = []
def laws_eqPointS_0N_1N_body {α : Type}   (k : Nat)  (r0 : Bool → Option α) : Option α :=
  r0 true
theorem laws_eqPointS_0N_1N_gen {α : Type}   (n : Nat)  (κ : Res → Option α) : evFn Try.prog (laws_eqPointS_0N_1N_XG n) Try.f21 (((buildDs laws_eqPointS_0N_1N_sh []).map Prod.fst).getD []) κ = laws_eqPointS_0N_1N_body n (fun v1 => κ ⟨[.bool v1], []⟩) := by kernel_rfl
theorem laws_eqPointS_0N_1N_ev {α : Type} (n : Nat)  (κ : Res → Option α) : evFn Try.prog (laws_eqPointS_0N_1N_X n) Try.f21 (((buildDs laws_eqPointS_0N_1N_sh []).map Prod.fst).getD []) κ = laws_eqPointS_0N_1N_run n [] κ := (laws_eqPointS_0N_1N_gen n κ).trans (by kernel_rfl)
theorem laws_eqPointS_0N_1N_en  : (entry 0 (((buildDs laws_eqPointS_0N_1N_sh []).map Prod.fst).getD [])).map (fun x => (x.1.length, x.2.lent)) = some (2, []) := by kernel_rfl
theorem laws_eqPointS_0N_1N_good {α : Type} : ∀ n, GoodFn (α := α) Try.prog 21 (byShape laws_eqPointS_0N_1N_sh (laws_eqPointS_0N_1N_run n)) := by
  refine fn_good' Try.func21 (c := (Try.f21.body.getD .skip)) (by kernel_rfl) (by kernel_rfl) (by kernel_rfl) laws_eqPointS_0N_1N_C laws_eqPointS_0N_1N_M eqs laws_eqPointS_0N_1N_lps (fun n => tabC_good (fun _ h => absurd h List.not_mem_nil)) eqs_ok laws_eqPointS_0N_1N_Lt ?_ ?_ laws_eqPointS_0N_1N_sh laws_eqPointS_0N_1N_run ?_
  · exact (fun _ h => absurd h List.not_mem_nil)
  · exact (fun _ h => absurd h List.not_mem_nil)
  · intro n p κ r ds hd hr
    have hr0 := hr
    unfold laws_eqPointS_0N_1N_run laws_eqPointS_0N_1N_runG at hr
    split at hr
    · rw [← ds_of hd]
      exact ⟨en_of (laws_eqPointS_0N_1N_en) ⟨rfl, rfl⟩, (laws_eqPointS_0N_1N_ev n κ).trans hr0⟩
    · cases hr

/-! loop.example/g01297/laws.markPointS -/
def laws_markPointS_0N_sh : List SkD := [.nilsl, .int .i64]
def laws_markPointS_0N_runG {α : Type} (F : Nat → Int → (Int → Option α) → Option α) (n : Nat) (p : List P1) (κ : Res → Option α) : Option α := match p with
  | [.int k_] => F n k_ (fun v1 => κ ⟨[.int .i64 v1], []⟩)
  | _ => none
def laws_markPointS_0N_run {α : Type} (n : Nat) (p : List P1) (κ : Res → Option α) : Option α := laws_markPointS_0N_runG laws_markPointS_0N n p κ
def laws_markPointS_0N_CG {α : Type}  (n : Nat) : FuncId → List D → (Res → Option α) → Option α := tabC []
def laws_markPointS_0N_C {α : Type} (n : Nat) : FuncId → List D → (Res → Option α) → Option α := laws_markPointS_0N_CG n
def laws_markPointS_0N_M : FuncId → List Nat := tabM []
def laws_markPointS_0N_lpsG {α : Type}  : List (LoopT α) := []
def laws_markPointS_0N_lps {α : Type} : List (LoopT α) := laws_markPointS_0N_lpsG
def laws_markPointS_0N_XG {α : Type}   (n : Nat) : Ctx α := ⟨laws_markPointS_0N_CG n, laws_markPointS_0N_M, eqs, lpOf (laws_markPointS_0N_lpsG) n⟩
def laws_markPointS_0N_X {α : Type} (n : Nat) : Ctx α := laws_markPointS_0N_XG n
def laws_markPointS_0N_Lt (np : Nat) (lent : List (Bool × Nat × Blk)) : Prop := np = 2 ∧ lent = []
def laws_markPointS_0N_body {α : Type}   (k : Nat) (k_ : Int) (r0 : Int → Option α) : Option α :=
  r0 k_
theorem laws_markPointS_0N_gen {α : Type}   (n : Nat) (k_ : Int) (κ : Res → Option α) : evFn Try.prog (laws_markPointS_0N_XG n) Try.f22 (((buildDs laws_markPointS_0N_sh [.int k_]).map Prod.fst).getD []) κ = laws_markPointS_0N_body n k_ (fun v1 => κ ⟨[.int .i64 v1], []⟩) := by kernel_rfl
theorem laws_markPointS_0N_ev {α : Type} (n : Nat) (k_ : Int) (κ : Res → Option α) : evFn Try.prog (laws_markPointS_0N_X n) Try.f22 (((buildDs laws_markPointS_0N_sh [.int k_]).map Prod.fst).getD []) κ = laws_markPointS_0N_run n [.int k_] κ := (laws_markPointS_0N_gen n k_ κ).trans (by kernel_rfl)
theorem laws_markPointS_0N_en (k_ : Int) : (entry 0 (((buildDs laws_markPointS_0N_sh [.int k_]).map Prod.fst).getD [])).map (fun x => (x.1.length, x.2.lent)) = some (2, []) := by kernel_rfl
theorem laws_markPointS_0N_good {α : Type} : ∀ n, GoodFn (α := α) Try.prog 22 (byShape laws_markPointS_0N_sh (laws_markPointS_0N_run n)) := by
  refine fn_good' Try.func22 (c := (Try.f22.body.getD .skip)) (by kernel_rfl) (by kernel_rfl) (by kernel_rfl) laws_markPointS_0N_C laws_markPointS_0N_M eqs laws_markPointS_0N_lps (fun n => tabC_good (fun _ h => absurd h List.not_mem_nil)) eqs_ok laws_markPointS_0N_Lt ?_ ?_ laws_markPointS_0N_sh laws_markPointS_0N_run ?_
  · exact (fun _ h => absurd h List.not_mem_nil)
  · exact (fun _ h => absurd h List.not_mem_nil)
  · intro n p κ r ds hd hr
    have hr0 := hr
    unfold laws_markPointS_0N_run laws_markPointS_0N_runG at hr
    split at hr
    · rw [← ds_of hd]
      exact ⟨en_of (laws_markPointS_0N_en _) ⟨rfl, rfl⟩, (laws_markPointS_0N_ev n _ κ).trans hr0⟩
    · cases hr

/-! loop.example/g01297/laws.heldPointS -/
def laws_heldPointS_0N_sh : List SkD := [.nilsl, .int .i64]
def laws_heldPointS_0N_runG {α : Type} (F : Nat → Int → (Int → Option α) → Option α) (n : Nat) (p : List P1) (κ : Res → Option α) : Option α := match p with
  | [.int k_] => F n k_ (fun v1 => κ ⟨[.int .i64 v1], []⟩)
  | _ => none
def laws_heldPointS_0N_run {α : Type} (n : Nat) (p : List P1) (κ : Res → Option α) : Option α := laws_heldPointS_0N_runG laws_heldPointS_0N n p κ
def laws_heldPointS_0N_CG {α : Type}  (n : Nat) : FuncId → List D → (Res → Option α) → Option α := tabC []
def laws_heldPointS_0N_C {α : Type} (n : Nat) : FuncId → List D → (Res → Option α) → Option α := laws_heldPointS_0N_CG n
def laws_heldPointS_0N_M : FuncId → List Nat := tabM []
def laws_heldPointS_0N_lpsG {α : Type}  : List (LoopT α) := []
def laws_heldPointS_0N_lps {α : Type} : List (LoopT α) := laws_heldPointS_0N_lpsG
def laws_heldPointS_0N_XG {α : Type}   (n : Nat) : Ctx α := ⟨laws_heldPointS_0N_CG n, laws_heldPointS_0N_M, eqs, lpOf (laws_heldPointS_0N_lpsG) n⟩
def laws_heldPointS_0N_X {α : Type} (n : Nat) : Ctx α := laws_heldPointS_0N_XG n
def laws_heldPointS_0N_Lt (np : Nat) (lent : List (Bool × Nat × Blk)) : Prop := np = 2 ∧ lent = []
def laws_heldPointS_0N_body {α : Type}   (k : Nat) (k_ : Int) (r0 : Int → Option α) : Option α :=
  r0 k_
theorem laws_heldPointS_0N_gen {α : Type}   (n : Nat) (k_ : Int) (κ : Res → Option α) : evFn Try.prog (laws_heldPointS_0N_XG n) Try.f23 (((buildDs laws_heldPointS_0N_sh [.int k_]).map Prod.fst).getD []) κ = laws_heldPointS_0N_body n k_ (fun v1 => κ ⟨[.int .i64 v1], []⟩) := by kernel_rfl
theorem laws_heldPointS_0N_ev {α : Type} (n : Nat) (k_ : Int) (κ : Res → Option α) : evFn Try.prog (laws_heldPointS_0N_X n) Try.f23 (((buildDs laws_heldPointS_0N_sh [.int k_]).map Prod.fst).getD []) κ = laws_heldPointS_0N_run n [.int k_] κ := (laws_heldPointS_0N_gen n k_ κ).trans (by kernel_rfl)
theorem laws_heldPointS_0N_en (k_ : Int) : (entry 0 (((buildDs laws_heldPointS_0N_sh [.int k_]).map Prod.fst).getD [])).map (fun x => (x.1.length, x.2.lent)) = some (2, []) := by kernel_rfl
theorem laws_heldPointS_0N_good {α : Type} : ∀ n, GoodFn (α := α) Try.prog 23 (byShape laws_heldPointS_0N_sh (laws_heldPointS_0N_run n)) := by
  refine fn_good' Try.func23 (c := (Try.f23.body.getD .skip)) (by kernel_rfl) (by kernel_rfl) (by kernel_rfl) laws_heldPointS_0N_C laws_heldPointS_0N_M eqs laws_heldPointS_0N_lps (fun n => tabC_good (fun _ h => absurd h List.not_mem_nil)) eqs_ok laws_heldPointS_0N_Lt ?_ ?_ laws_heldPointS_0N_sh laws_heldPointS_0N_run ?_
  · exact (fun _ h => absurd h List.not_mem_nil)
  · exact (fun _ h => absurd h List.not_mem_nil)
  · intro n p κ r ds hd hr
    have hr0 := hr
    unfold laws_heldPointS_0N_run laws_heldPointS_0N_runG at hr
    split at hr
    · rw [← ds_of hd]
      exact ⟨en_of (laws_heldPointS_0N_en _) ⟨rfl, rfl⟩, (laws_heldPointS_0N_ev n _ κ).trans hr0⟩
    · cases hr

/-! loop.example/g01297/laws.eqPointS -/
def laws_eqPointS_1N_sh : List SkD := [.sl 33 .pt, .nilsl]
def laws_eqPointS_1N_runG {α : Type} (F : Nat → (List (Int × Int)) → (Bool → Option α) → Option α) (n : Nat) (p : List P1) (κ : Res → Option α) : Option α := match p with
  | [.rows .pt a] => F n a (fun v1 => κ ⟨[.bool v1], []⟩)
  | _ => none
def laws_eqPointS_1N_run {α : Type} (n : Nat) (p : List P1) (κ : Res → Option α) : Option α := laws_eqPointS_1N_runG laws_eqPointS_1N n p κ
def laws_eqPointS_1N_CG {α : Type}  (n : Nat) : FuncId → List D → (Res → Option α) → Option α := tabC []
def laws_eqPointS_1N_C {α : Type} (n : Nat) : FuncId → List D → (Res → Option α) → Option α := laws_eqPointS_1N_CG n
def laws_eqPointS_1N_M : FuncId → List Nat := tabM []
def laws_eqPointS_1N_t4 : Tpl := ⟨[.sl 0, .nilsl, .any, .any, .any, .int .i64, .any, .any, .any, .any, .any, .any, .any, .any, .any, .any, .any, .any, .any, .any, .any, .any, .any, .any, .any, .any, .any], [(0, .rows 0 33 .pt)], []⟩
def laws_eqPointS_1N_uG4 {α : Type} (G : Nat → Int → (List (Int × Int)) → (Int → (List (Int × Int)) → Option α) → (Bool → Option α) → Option α) (n : Nat) (p : List P1) (brk : Nat → List P1 → Option α) (ret : Res → Option α) : Option α := match p with
  | [.int i, .rows .pt a1] => G n i a1 (fun i a1 => brk 0 [.int i, .rows .pt a1]) (fun v1 => ret ⟨[.bool v1], []⟩)
  | _ => none
def laws_eqPointS_1N_u4 {α : Type} (n : Nat) (p : List P1) (brk : Nat → List P1 → Option α) (ret : Res → Option α) : Option α := laws_eqPointS_1N_uG4 laws_eqPointS_1N_l4 n p brk ret
def laws_eqPointS_1N_lpsG {α : Type} (G4 : Nat → Int → (List (Int × Int)) → (Int → (List (Int × Int)) → Option α) → (Bool → Option α) → Option α) : List (LoopT α) := [⟨4, laws_eqPointS_1N_t4, laws_eqPointS_1N_uG4 G4⟩]
def laws_eqPointS_1N_lps {α : Type} : List (LoopT α) := laws_eqPointS_1N_lpsG laws_eqPointS_1N_l4
def laws_eqPointS_1N_XG {α : Type}  (G4 : Nat → Int → (List (Int × Int)) → (Int → (List (Int × Int)) → Option α) → (Bool → Option α) → Option α) (n : Nat) : Ctx α := ⟨laws_eqPointS_1N_CG n, laws_eqPointS_1N_M, eqs, lpOf (laws_eqPointS_1N_lpsG G4) n⟩
def laws_eqPointS_1N_X {α : Type} (n : Nat) : Ctx α := laws_eqPointS_1N_XG laws_eqPointS_1N_l4 n
def laws_eqPointS_1N_Lt (np : Nat) (lent : List (Bool × Nat × Blk)) : Prop := np = 2 ∧ lent = []
def laws_eqPointS_1N_lb4 {α : Type}  (G4 : Nat → Int → (List (Int × Int)) → (Int → (List (Int × Int)) → Option α) → (Bool → Option α) → Option α) (k : Nat) (i : Int) (a1 : List (Int × Int)) (b0 : Int → (List (Int × Int)) → Option α) (r0 : Bool → Option α) : Option α :=
  bif decide (i < (((List.length a1) : Nat) : Int)) then
    bif (decide (0 ≤ i) && decide (i < (((List.length a1) : Nat) : Int))) then
      (a1[i.toNat]?).bind fun e_ =>
      none
    else
      none
  else
    b0 i a1
theorem laws_eqPointS_1N_l4_gen {α : Type}  (G4 : Nat → Int → (List (Int × Int)) → (Int → (List (Int × Int)) → Option α) → (Bool → Option α) → Option α) (n : Nat) (i : Int) (a1 : List (Int × Int)) (brk : Nat → List P1 → Option α) (ret : Res → Option α) : ev ((laws_eqPointS_1N_XG G4 n).env Try.prog Try.f21 2 []) (findLoop (loopsIn (Try.f21.body.getD .skip)) 4) ((laws_eqPointS_1N_t4.build [.int i, .rows .pt a1]).getD ⟨[], []⟩) (roundK (2 * 64) laws_eqPointS_1N_t4 (fun q => laws_eqPointS_1N_uG4 G4 n q brk ret) brk ret) = laws_eqPointS_1N_lb4 G4 n i a1 (fun i a1 => brk 0 [.int i, .rows .pt a1]) (fun v1 => ret ⟨[.bool v1], []⟩) := by kernel_rfl
theorem laws_eqPointS_1N_l4_ev {α : Type} (n : Nat) (i : Int) (a1 : List (Int × Int)) (brk : Nat → List P1 → Option α) (ret : Res → Option α) : ev ((laws_eqPointS_1N_X n).env Try.prog Try.f21 2 []) (findLoop (loopsIn (Try.f21.body.getD .skip)) 4) ((laws_eqPointS_1N_t4.build [.int i, .rows .pt a1]).getD ⟨[], []⟩) (roundK (2 * 64) laws_eqPointS_1N_t4 (fun q => laws_eqPointS_1N_u4 n q brk ret) brk ret) = laws_eqPointS_1N_u4 (n + 1) [.int i, .rows .pt a1] brk ret := (laws_eqPointS_1N_l4_gen laws_eqPointS_1N_l4 n i a1 brk ret).trans (by kernel_rfl)
def laws_eqPointS_1N_body {α : Type}  (G4 : Nat → Int → (List (Int × Int)) → (Int → (List (Int × Int)) → Option α) → (Bool → Option α) → Option α) (k : Nat) (a : List (Int × Int)) (r0 : Bool → Option α) : Option α :=
  bif (!decide ((((List.length a) : Nat) : Int) = 0)) then
    r0 false
  else
    G4 k 0 a
      (fun i1 a2 =>
        r0 true)
      r0
theorem laws_eqPointS_1N_gen {α : Type}  (G4 : Nat → Int → (List (Int × Int)) → (Int → (List (Int × Int)) → Option α) → (Bool → Option α) → Option α) (n : Nat) (a : List (Int × Int)) (κ : Res → Option α) : evFn Try.prog (laws_eqPointS_1N_XG G4 n) Try.f21 (((buildDs laws_eqPointS_1N_sh [.rows .pt a]).map Prod.fst).getD []) κ = laws_eqPointS_1N_body G4 n a (fun v1 => κ ⟨[.bool v1], []⟩) := by kernel_rfl
theorem laws_eqPointS_1N_ev {α : Type} (n : Nat) (a : List (Int × Int)) (κ : Res → Option α) : evFn Try.prog (laws_eqPointS_1N_X n) Try.f21 (((buildDs laws_eqPointS_1N_sh [.rows .pt a]).map Prod.fst).getD []) κ = laws_eqPointS_1N_run n [.rows .pt a] κ := (laws_eqPointS_1N_gen laws_eqPointS_1N_l4 n a κ).trans (by kernel_rfl)
theorem laws_eqPointS_1N_en (a : List (Int × Int)) : (entry 0 (((buildDs laws_eqPointS_1N_sh [.rows .pt a]).map Prod.fst).getD [])).map (fun x => (x.1.length, x.2.lent)) = some (2, []) := by kernel_rfl
theorem laws_eqPointS_1N_good {α : Type} : ∀ n, GoodFn (α := α) Try.prog 21 (byShape laws_eqPointS_1N_sh (laws_eqPointS_1N_run n)) := by
  refine fn_good' Try.func21 (c := (Try.f21.body.getD .skip)) (by kernel_rfl) (by kernel_rfl) (by kernel_rfl) laws_eqPointS_1N_C laws_eqPointS_1N_M eqs laws_eqPointS_1N_lps (fun n => tabC_good (fun _ h => absurd h List.not_mem_nil)) eqs_ok laws_eqPointS_1N_Lt ?_ ?_ laws_eqPointS_1N_sh laws_eqPointS_1N_run ?_
  · refine List.forall_mem_cons.2 ⟨?_, (fun _ h => absurd h List.not_mem_nil)⟩
    · intro p brk ret; show laws_eqPointS_1N_u4 0 p brk ret = none; unfold laws_eqPointS_1N_u4 laws_eqPointS_1N_uG4; split <;> rfl
  · refine List.forall_mem_cons.2 ⟨?_, (fun _ h => absurd h List.not_mem_nil)⟩
    · intro np lent hL n p brk ret st r hb hr
      obtain ⟨rfl, rfl⟩ := hL
      rw [← tpl_of hb]
      change laws_eqPointS_1N_u4 (n + 1) p brk ret = some r at hr
      have hr0 := hr
      unfold laws_eqPointS_1N_u4 laws_eqPointS_1N_uG4 at hr
      split at hr
      · exact (laws_eqPointS_1N_l4_ev n _ _ brk ret).trans hr0
      · cases hr
  · intro n p κ r ds hd hr
    have hr0 := hr
    unfold laws_eqPointS_1N_run laws_eqPointS_1N_runG at hr
    split at hr
    · rw [← ds_of hd]
      exact ⟨en_of (laws_eqPointS_1N_en _) ⟨rfl, rfl⟩, (laws_eqPointS_1N_ev n _ κ).trans hr0⟩
    · cases hr

/-! loop.example/g01297/laws.markPointS -/
def laws_markPointS_sh : List SkD := [.msl 33 .pt, .int .i64]
def laws_markPointS_runG {α : Type} (F : Nat → (List (Int × Int)) → Int → (Int → (List (Int × Int)) → Option α) → Option α) (n : Nat) (p : List P1) (κ : Res → Option α) : Option α := match p with
  | [.rows .pt a, .int k_] => F n a k_ (fun v1 v2 => κ ⟨[.int .i64 v1], [.sl 33 .pt v2]⟩)
  | _ => none
def laws_markPointS_run {α : Type} (n : Nat) (p : List P1) (κ : Res → Option α) : Option α := laws_markPointS_runG laws_markPointS n p κ
def laws_markPointS_CG {α : Type}  (n : Nat) : FuncId → List D → (Res → Option α) → Option α := tabC []
def laws_markPointS_C {α : Type} (n : Nat) : FuncId → List D → (Res → Option α) → Option α := laws_markPointS_CG n
def laws_markPointS_M : FuncId → List Nat := tabM []
def laws_markPointS_t2 : Tpl := ⟨[.sl 0, .int .i64, .any, .any, .any, .int .i64, .any, .any, .any, .any, .any, .any, .any, .any, .any, .any, .any, .any, .any, .any, .any, .any, .any, .any, .any, .any], [(0, .rows 1 33 .pt)], []⟩
def laws_markPointS_uG2 {α : Type} (G : Nat → Int → Int → (List (Int × Int)) → (Int → Int → (List (Int × Int)) → Option α) → (Int → (List (Int × Int)) → Option α) → Option α) (n : Nat) (p : List P1) (brk : Nat → List P1 → Option α) (ret : Res → Option α) : Option α := match p with
  | [.int k_1, .int i, .rows .pt a1] => G n k_1 i a1 (fun k_1 i a1 => brk 0 [.int k_1, .int i, .rows .pt a1]) (fun v1 v2 => ret ⟨[.int .i64 v1], [.sl 33 .pt v2]⟩)
  | _ => none
def laws_markPointS_u2 {α : Type} (n : Nat) (p : List P1) (brk : Nat → List P1 → Option α) (ret : Res → Option α) : Option α := laws_markPointS_uG2 laws_markPointS_l2 n p brk ret
def laws_markPointS_lpsG {α : Type} (G2 : Nat → Int → Int → (List (Int × Int)) → (Int → Int → (List (Int × Int)) → Option α) → (Int → (List (Int × Int)) → Option α) → Option α) : List (LoopT α) := [⟨2, laws_markPointS_t2, laws_markPointS_uG2 G2⟩]
def laws_markPointS_lps {α : Type} : List (LoopT α) := laws_markPointS_lpsG laws_markPointS_l2
def laws_markPointS_XG {α : Type}  (G2 : Nat → Int → Int → (List (Int × Int)) → (Int → Int → (List (Int × Int)) → Option α) → (Int → (List (Int × Int)) → Option α) → Option α) (n : Nat) : Ctx α := ⟨laws_markPointS_CG n, laws_markPointS_M, eqs, lpOf (laws_markPointS_lpsG G2) n⟩
def laws_markPointS_X {α : Type} (n : Nat) : Ctx α := laws_markPointS_XG laws_markPointS_l2 n
def laws_markPointS_Lt (np : Nat) (lent : List (Bool × Nat × Blk)) : Prop := np = 2 ∧ ∃ (a : List (Int × Int)), lent = [(true, 0, .rows 1 33 .pt a)]
def laws_markPointS_lb2 {α : Type}  (G2 : Nat → Int → Int → (List (Int × Int)) → (Int → Int → (List (Int × Int)) → Option α) → (Int → (List (Int × Int)) → Option α) → Option α) (k : Nat) (k_1 : Int) (i : Int) (a1 : List (Int × Int)) (b0 : Int → Int → (List (Int × Int)) → Option α) (r0 : Int → (List (Int × Int)) → Option α) : Option α :=
  bif decide (i < (((List.length a1) : Nat) : Int)) then
    bif (decide (0 ≤ i) && decide (i < (((List.length a1) : Nat) : Int))) then
      (a1[i.toNat]?).bind fun e_ =>
      bif (decide (0 ≤ i) && decide (i < (((List.length (List.set a1 i.toNat (k_1, e_.2))) : Nat) : Int))) then
        ((List.set a1 i.toNat (k_1, e_.2))[i.toNat]?).bind fun e_1 =>
        G2 k (w64 ((w64 (k_1 + 1)) + 1)) (w64 (i + 1)) (List.set (List.set a1 i.toNat (k_1, e_.2)) i.toNat (e_1.1, (w64 (k_1 + 1)))) b0 r0
      else
        none
    else
      none
  else
    b0 k_1 i a1
theorem laws_markPointS_l2_gen {α : Type}  (G2 : Nat → Int → Int → (List (Int × Int)) → (Int → Int → (List (Int × Int)) → Option α) → (Int → (List (Int × Int)) → Option α) → Option α) (n : Nat) (a_0 : List (Int × Int)) (k_1 : Int) (i : Int) (a1 : List (Int × Int)) (brk : Nat → List P1 → Option α) (ret : Res → Option α) : ev ((laws_markPointS_XG G2 n).env Try.prog Try.f22 2 [(true, 0, .rows 1 33 .pt a_0)]) (findLoop (loopsIn (Try.f22.body.getD .skip)) 2) ((laws_markPointS_t2.build [.int k_1, .int i, .rows .pt a1]).getD ⟨[], []⟩) (roundK (2 * 64) laws_markPointS_t2 (fun q => laws_markPointS_uG2 G2 n q brk ret) brk ret) = laws_markPointS_lb2 G2 n k_1 i a1 (fun k_1 i a1 => brk 0 [.int k_1, .int i, .rows .pt a1]) (fun v1 v2 => ret ⟨[.int .i64 v1], [.sl 33 .pt v2]⟩) := by kernel_rfl
theorem laws_markPointS_l2_ev {α : Type} (n : Nat) (a_0 : List (Int × Int)) (k_1 : Int) (i : Int) (a1 : List (Int × Int)) (brk : Nat → List P1 → Option α) (ret : Res → Option α) : ev ((laws_markPointS_X n).env Try.prog Try.f22 2 [(true, 0, .rows 1 33 .pt a_0)]) (findLoop (loopsIn (Try.f22.body.getD .skip)) 2) ((laws_markPointS_t2.build [.int k_1, .int i, .rows .pt a1]).getD ⟨[], []⟩) (roundK (2 * 64) laws_markPointS_t2 (fun q => laws_markPointS_u2 n q brk ret) brk ret) = laws_markPointS_u2 (n + 1) [.int k_1, .int i, .rows .pt a1] brk ret := (laws_markPointS_l2_gen laws_markPointS_l2 n a_0 k_1 i a1 brk ret).trans (by kernel_rfl)
def laws_markPointS_body {α : Type}  (G2 : Nat → Int → Int → (List (Int × Int)) → (Int → Int → (List (Int × Int)) → Option α) → (Int → (List (Int × Int)) → Option α) → Option α) (k : Nat) (a : List (Int × Int)) (k_ : Int) (r0 : Int → (List (Int × Int)) → Option α) : Option α :=
  G2 k k_ 0 a
    (fun k_2 i1 a2 =>
      r0 k_2 a2)
    r0
theorem laws_markPointS_gen {α : Type}  (G2 : Nat → Int → Int → (List (Int × Int)) → (Int → Int → (List (Int × Int)) → Option α) → (Int → (List (Int × Int)) → Option α) → Option α) (n : Nat) (a : List (Int × Int)) (k_ : Int) (κ : Res → Option α) : evFn Try.prog (laws_markPointS_XG G2 n) Try.f22 (((buildDs laws_markPointS_sh [.rows .pt a, .int k_]).map Prod.fst).getD []) κ = laws_markPointS_body G2 n a k_ (fun v1 v2 => κ ⟨[.int .i64 v1], [.sl 33 .pt v2]⟩) := by kernel_rfl
theorem laws_markPointS_ev {α : Type} (n : Nat) (a : List (Int × Int)) (k_ : Int) (κ : Res → Option α) : evFn Try.prog (laws_markPointS_X n) Try.f22 (((buildDs laws_markPointS_sh [.rows .pt a, .int k_]).map Prod.fst).getD []) κ = laws_markPointS_run n [.rows .pt a, .int k_] κ := (laws_markPointS_gen laws_markPointS_l2 n a k_ κ).trans (by kernel_rfl)
theorem laws_markPointS_en (a : List (Int × Int)) (k_ : Int) : (entry 0 (((buildDs laws_markPointS_sh [.rows .pt a, .int k_]).map Prod.fst).getD [])).map (fun x => (x.1.length, x.2.lent)) = some (2, [(true, 0, .rows 1 33 .pt a)]) := by kernel_rfl
theorem laws_markPointS_good {α : Type} : ∀ n, GoodFn (α := α) Try.prog 22 (byShape laws_markPointS_sh (laws_markPointS_run n)) := by
  refine fn_good' Try.func22 (c := (Try.f22.body.getD .skip)) (by kernel_rfl) (by kernel_rfl) (by kernel_rfl) laws_markPointS_C laws_markPointS_M eqs laws_markPointS_lps (fun n => tabC_good (fun _ h => absurd h List.not_mem_nil)) eqs_ok laws_markPointS_Lt ?_ ?_ laws_markPointS_sh laws_markPointS_run ?_
  · refine List.forall_mem_cons.2 ⟨?_, (fun _ h => absurd h List.not_mem_nil)⟩
    · intro p brk ret; show laws_markPointS_u2 0 p brk ret = none; unfold laws_markPointS_u2 laws_markPointS_uG2; split <;> rfl
  · refine List.forall_mem_cons.2 ⟨?_, (fun _ h => absurd h List.not_mem_nil)⟩
    · intro np lent hL n p brk ret st r hb hr
      obtain ⟨rfl, a_0, rfl⟩ := hL
      rw [← tpl_of hb]
      change laws_markPointS_u2 (n + 1) p brk ret = some r at hr
      have hr0 := hr
      unfold laws_markPointS_u2 laws_markPointS_uG2 at hr
      split at hr
      · exact (laws_markPointS_l2_ev n _ _ _ _ brk ret).trans hr0
      · cases hr
  · intro n p κ r ds hd hr
    have hr0 := hr
    unfold laws_markPointS_run laws_markPointS_runG at hr
    split at hr
    · rw [← ds_of hd]
      exact ⟨en_of (laws_markPointS_en _ _) ⟨rfl, _, rfl⟩, (laws_markPointS_ev n _ _ κ).trans hr0⟩
    · cases hr

/-! loop.example/g01297/laws.heldPointS -/
def laws_heldPointS_sh : List SkD := [.sl 33 .pt, .int .i64]
def laws_heldPointS_runG {α : Type} (F : Nat → (List (Int × Int)) → Int → (Int → Option α) → Option α) (n : Nat) (p : List P1) (κ : Res → Option α) : Option α := match p with
  | [.rows .pt a, .int k_] => F n a k_ (fun v1 => κ ⟨[.int .i64 v1], []⟩)
  | _ => none
def laws_heldPointS_run {α : Type} (n : Nat) (p : List P1) (κ : Res → Option α) : Option α := laws_heldPointS_runG laws_heldPointS n p κ
def laws_heldPointS_CG {α : Type}  (n : Nat) : FuncId → List D → (Res → Option α) → Option α := tabC []
def laws_heldPointS_C {α : Type} (n : Nat) : FuncId → List D → (Res → Option α) → Option α := laws_heldPointS_CG n
def laws_heldPointS_M : FuncId → List Nat := tabM []
def laws_heldPointS_t2 : Tpl := ⟨[.sl 0, .int .i64, .any, .any, .any, .int .i64, .any, .any, .any, .any, .any, .any, .any, .any, .any, .any, .any, .any, .any, .any, .any, .any, .any, .any, .any, .any, .any, .any], [(0, .rows 0 33 .pt)], []⟩
def laws_heldPointS_uG2 {α : Type} (G : Nat → Int → Int → (List (Int × Int)) → (Int → Int → (List (Int × Int)) → Option α) → (Int → Option α) → Option α) (n : Nat) (p : List P1) (brk : Nat → List P1 → Option α) (ret : Res → Option α) : Option α := match p with
  | [.int k_1, .int i, .rows .pt a1] => G n k_1 i a1 (fun k_1 i a1 => brk 0 [.int k_1, .int i, .rows .pt a1]) (fun v1 => ret ⟨[.int .i64 v1], []⟩)
  | _ => none
def laws_heldPointS_u2 {α : Type} (n : Nat) (p : List P1) (brk : Nat → List P1 → Option α) (ret : Res → Option α) : Option α := laws_heldPointS_uG2 laws_heldPointS_l2 n p brk ret
def laws_heldPointS_lpsG {α : Type} (G2 : Nat → Int → Int → (List (Int × Int)) → (Int → Int → (List (Int × Int)) → Option α) → (Int → Option α) → Option α) : List (LoopT α) := [⟨2, laws_heldPointS_t2, laws_heldPointS_uG2 G2⟩]
def laws_heldPointS_lps {α : Type} : List (LoopT α) := laws_heldPointS_lpsG laws_heldPointS_l2
def laws_heldPointS_XG {α : Type}  (G2 : Nat → Int → Int → (List (Int × Int)) → (Int → Int → (List (Int × Int)) → Option α) → (Int → Option α) → Option α) (n : Nat) : Ctx α := ⟨laws_heldPointS_CG n, laws_heldPointS_M, eqs, lpOf (laws_heldPointS_lpsG G2) n⟩
def laws_heldPointS_X {α : Type} (n : Nat) : Ctx α := laws_heldPointS_XG laws_heldPointS_l2 n
def laws_heldPointS_Lt (np : Nat) (lent : List (Bool × Nat × Blk)) : Prop := np = 2 ∧ lent = []
def laws_heldPointS_lb2 {α : Type}  (G2 : Nat → Int → Int → (List (Int × Int)) → (Int → Int → (List (Int × Int)) → Option α) → (Int → Option α) → Option α) (k : Nat) (k_1 : Int) (i : Int) (a1 : List (Int × Int)) (b0 : Int → Int → (List (Int × Int)) → Option α) (r0 : Int → Option α) : Option α :=
  bif decide (i < (((List.length a1) : Nat) : Int)) then
    bif (decide (0 ≤ i) && decide (i < (((List.length a1) : Nat) : Int))) then
      (a1[i.toNat]?).bind fun e_ =>
      bif (!decide (e_.1 = k_1)) then
        r0 (-1)
      else
      bif (decide (0 ≤ i) && decide (i < (((List.length a1) : Nat) : Int))) then
        (a1[i.toNat]?).bind fun e_1 =>
        bif (!decide (e_1.2 = (w64 (k_1 + 1)))) then
          r0 (-1)
        else
          G2 k (w64 ((w64 (k_1 + 1)) + 1)) (w64 (i + 1)) a1 b0 r0
      else
        none
    else
      none
  else
    b0 k_1 i a1
theorem laws_heldPointS_l2_gen {α : Type}  (G2 : Nat → Int → Int → (List (Int × Int)) → (Int → Int → (List (Int × Int)) → Option α) → (Int → Option α) → Option α) (n : Nat) (k_1 : Int) (i : Int) (a1 : List (Int × Int)) (brk : Nat → List P1 → Option α) (ret : Res → Option α) : ev ((laws_heldPointS_XG G2 n).env Try.prog Try.f23 2 []) (findLoop (loopsIn (Try.f23.body.getD .skip)) 2) ((laws_heldPointS_t2.build [.int k_1, .int i, .rows .pt a1]).getD ⟨[], []⟩) (roundK (2 * 64) laws_heldPointS_t2 (fun q => laws_heldPointS_uG2 G2 n q brk ret) brk ret) = laws_heldPointS_lb2 G2 n k_1 i a1 (fun k_1 i a1 => brk 0 [.int k_1, .int i, .rows .pt a1]) (fun v1 => ret ⟨[.int .i64 v1], []⟩) := by kernel_rfl
theorem laws_heldPointS_l2_ev {α : Type} (n : Nat) (k_1 : Int) (i : Int) (a1 : List (Int × Int)) (brk : Nat → List P1 → Option α) (ret : Res → Option α) : ev ((laws_heldPointS_X n).env Try.prog Try.f23 2 []) (findLoop (loopsIn (Try.f23.body.getD .skip)) 2) ((laws_heldPointS_t2.build [.int k_1, .int i, .rows .pt a1]).getD ⟨[], []⟩) (roundK (2 * 64) laws_heldPointS_t2 (fun q => laws_heldPointS_u2 n q brk ret) brk ret) = laws_heldPointS_u2 (n + 1) [.int k_1, .int i, .rows .pt a1] brk ret := (laws_heldPointS_l2_gen laws_heldPointS_l2 n k_1 i a1 brk ret).trans (by kernel_rfl)
def laws_heldPointS_body {α : Type}  (G2 : Nat → Int → Int → (List (Int × Int)) → (Int → Int → (List (Int × Int)) → Option α) → (Int → Option α) → Option α) (k : Nat) (a : List (Int × Int)) (k_ : Int) (r0 : Int → Option α) : Option α :=
  G2 k k_ 0 a
    (fun k_2 i1 a2 =>
      r0 k_2)
    r0
theorem laws_heldPointS_gen {α : Type}  (G2 : Nat → Int → Int → (List (Int × Int)) → (Int → Int → (List (Int × Int)) → Option α) → (Int → Option α) → Option α) (n : Nat) (a : List (Int × Int)) (k_ : Int) (κ : Res → Option α) : evFn Try.prog (laws_heldPointS_XG G2 n) Try.f23 (((buildDs laws_heldPointS_sh [.rows .pt a, .int k_]).map Prod.fst).getD []) κ = laws_heldPointS_body G2 n a k_ (fun v1 => κ ⟨[.int .i64 v1], []⟩) := by kernel_rfl
theorem laws_heldPointS_ev {α : Type} (n : Nat) (a : List (Int × Int)) (k_ : Int) (κ : Res → Option α) : evFn Try.prog (laws_heldPointS_X n) Try.f23 (((buildDs laws_heldPointS_sh [.rows .pt a, .int k_]).map Prod.fst).getD []) κ = laws_heldPointS_run n [.rows .pt a, .int k_] κ := (laws_heldPointS_gen laws_heldPointS_l2 n a k_ κ).trans (by kernel_rfl)
theorem laws_heldPointS_en (a : List (Int × Int)) (k_ : Int) : (entry 0 (((buildDs laws_heldPointS_sh [.rows .pt a, .int k_]).map Prod.fst).getD [])).map (fun x => (x.1.length, x.2.lent)) = some (2, []) := by kernel_rfl
theorem laws_heldPointS_good {α : Type} : ∀ n, GoodFn (α := α) Try.prog 23 (byShape laws_heldPointS_sh (laws_heldPointS_run n)) := by
  refine fn_good' Try.func23 (c := (Try.f23.body.getD .skip)) (by kernel_rfl) (by kernel_rfl) (by kernel_rfl) laws_heldPointS_C laws_heldPointS_M eqs laws_heldPointS_lps (fun n => tabC_good (fun _ h => absurd h List.not_mem_nil)) eqs_ok laws_heldPointS_Lt ?_ ?_ laws_heldPointS_sh laws_heldPointS_run ?_
  · refine List.forall_mem_cons.2 ⟨?_, (fun _ h => absurd h List.not_mem_nil)⟩
    · intro p brk ret; show laws_heldPointS_u2 0 p brk ret = none; unfold laws_heldPointS_u2 laws_heldPointS_uG2; split <;> rfl
  · refine List.forall_mem_cons.2 ⟨?_, (fun _ h => absurd h List.not_mem_nil)⟩
    · intro np lent hL n p brk ret st r hb hr
      obtain ⟨rfl, rfl⟩ := hL
      rw [← tpl_of hb]
      change laws_heldPointS_u2 (n + 1) p brk ret = some r at hr
      have hr0 := hr
      unfold laws_heldPointS_u2 laws_heldPointS_uG2 at hr
      split at hr
      · exact (laws_heldPointS_l2_ev n _ _ _ brk ret).trans hr0
      · cases hr
  · intro n p κ r ds hd hr
    have hr0 := hr
    unfold laws_heldPointS_run laws_heldPointS_runG at hr
    split at hr
    · rw [← ds_of hd]
      exact ⟨en_of (laws_heldPointS_en _ _) ⟨rfl, rfl⟩, (laws_heldPointS_ev n _ _ κ).trans hr0⟩
    · cases hr

/-! loop.example/g01297/laws.eqPointS -/
def laws_eqPointS_0N_sh : List SkD := [.nilsl, .sl 33 .pt]
def laws_eqPointS_0N_runG {α : Type} (F : Nat → (List (Int × Int)) → (Bool → Option α) → Option α) (n : Nat) (p : List P1) (κ : Res → Option α) : Option α := match p with
  | [.rows .pt b_] => F n b_ (fun v1 => κ ⟨[.bool v1], []⟩)
  | _ => none
def laws_eqPointS_0N_run {α : Type} (n : Nat) (p : List P1) (κ : Res → Option α) : Option α := laws_eqPointS_0N_runG laws_eqPointS_0N n p κ
def laws_eqPointS_0N_CG {α : Type}  (n : Nat) : FuncId → List D → (Res → Option α) → Option α := tabC []
def laws_eqPointS_0N_C {α : Type} (n : Nat) : FuncId → List D → (Res → Option α) → Option α := laws_eqPointS_0N_CG n
def laws_eqPointS_0N_M : FuncId → List Nat := tabM []
def laws_eqPointS_0N_lpsG {α : Type}  : List (LoopT α) := []
def laws_eqPointS_0N_lps {α : Type} : List (LoopT α) := laws_eqPointS_0N_lpsG
def laws_eqPointS_0N_XG {α : Type}   (n : Nat) : Ctx α := ⟨laws_eqPointS_0N_CG n, laws_eqPointS_0N_M, eqs, lpOf (laws_eqPointS_0N_lpsG) n⟩
def laws_eqPointS_0N_X {α : Type} (n : Nat) : Ctx α := laws_eqPointS_0N_XG n
def laws_eqPointS_0N_Lt (np : Nat) (lent : List (Bool × Nat × Blk)) : Prop := np = 2 ∧ lent = []
def laws_eqPointS_0N_body {α : Type}   (k : Nat) (b_ : List (Int × Int)) (r0 : Bool → Option α) : Option α :=
  bif (!decide (0 = (((List.length b_) : Nat) : Int))) then
    r0 false
  else
    r0 true
theorem laws_eqPointS_0N_gen {α : Type}   (n : Nat) (b_ : List (Int × Int)) (κ : Res → Option α) : evFn Try.prog (laws_eqPointS_0N_XG n) Try.f21 (((buildDs laws_eqPointS_0N_sh [.rows .pt b_]).map Prod.fst).getD []) κ = laws_eqPointS_0N_body n b_ (fun v1 => κ ⟨[.bool v1], []⟩) := by kernel_rfl
theorem laws_eqPointS_0N_ev {α : Type} (n : Nat) (b_ : List (Int × Int)) (κ : Res → Option α) : evFn Try.prog (laws_eqPointS_0N_X n) Try.f21 (((buildDs laws_eqPointS_0N_sh [.rows .pt b_]).map Prod.fst).getD []) κ = laws_eqPointS_0N_run n [.rows .pt b_] κ := (laws_eqPointS_0N_gen n b_ κ).trans (by kernel_rfl)
theorem laws_eqPointS_0N_en (b_ : List (Int × Int)) : (entry 0 (((buildDs laws_eqPointS_0N_sh [.rows .pt b_]).map Prod.fst).getD [])).map (fun x => (x.1.length, x.2.lent)) = some (2, []) := by kernel_rfl
theorem laws_eqPointS_0N_good {α : Type} : ∀ n, GoodFn (α := α) Try.prog 21 (byShape laws_eqPointS_0N_sh (laws_eqPointS_0N_run n)) := by
  refine fn_good' Try.func21 (c := (Try.f21.body.getD .skip)) (by kernel_rfl) (by kernel_rfl) (by kernel_rfl) laws_eqPointS_0N_C laws_eqPointS_0N_M eqs laws_eqPointS_0N_lps (fun n => tabC_good (fun _ h => absurd h List.not_mem_nil)) eqs_ok laws_eqPointS_0N_Lt ?_ ?_ laws_eqPointS_0N_sh laws_eqPointS_0N_run ?_
  · exact (fun _ h => absurd h List.not_mem_nil)
  · exact (fun _ h => absurd h List.not_mem_nil)
  · intro n p κ r ds hd hr
    have hr0 := hr
    unfold laws_eqPointS_0N_run laws_eqPointS_0N_runG at hr
    split at hr
    · rw [← ds_of hd]
      exact ⟨en_of (laws_eqPointS_0N_en _) ⟨rfl, rfl⟩, (laws_eqPointS_0N_ev n _ κ).trans hr0⟩
    · cases hr

/-! loop.example/g01297/laws.eqPoint -/
def laws_eqPoint_sh : List SkD := [.agg [.int .i64, .int .i64], .agg [.int .i64, .int .i64]]
def laws_eqPoint_runG {α : Type} (F : Nat → Int → Int → Int → Int → (Bool → Option α) → Option α) (n : Nat) (p : List P1) (κ : Res → Option α) : Option α := match p with
  | [.int a, .int a1, .int b_, .int b_1] => F n a a1 b_ b_1 (fun v1 => κ ⟨[.bool v1], []⟩)
  | _ => none
def laws_eqPoint_run {α : Type} (n : Nat) (p : List P1) (κ : Res → Option α) : Option α := laws_eqPoint_runG laws_eqPoint n p κ
def laws_eqPoint_CG {α : Type}  (n : Nat) : FuncId → List D → (Res → Option α) → Option α := tabC []
def laws_eqPoint_C {α : Type} (n : Nat) : FuncId → List D → (Res → Option α) → Option α := laws_eqPoint_CG n
def laws_eqPoint_M : FuncId → List Nat := tabM []
def laws_eqPoint_lpsG {α : Type}  : List (LoopT α) := []
def laws_eqPoint_lps {α : Type} : List (LoopT α) := laws_eqPoint_lpsG
def laws_eqPoint_XG {α : Type}   (n : Nat) : Ctx α := ⟨laws_eqPoint_CG n, laws_eqPoint_M, eqs, lpOf (laws_eqPoint_lpsG) n⟩
def laws_eqPoint_X {α : Type} (n : Nat) : Ctx α := laws_eqPoint_XG n
def laws_eqPoint_Lt (np : Nat) (lent : List (Bool × Nat × Blk)) : Prop := np = 2 ∧ lent = []
def laws_eqPoint_body {α : Type}   (k : Nat) (a : Int) (a1 : Int) (b_ : Int) (b_1 : Int) (r0 : Bool → Option α) : Option α :=
  bif (!decide (a = b_)) then
    r0 false
  else
  bif (!decide (a1 = b_1)) then
    r0 false
  else
    r0 true
theorem laws_eqPoint_gen {α : Type}   (n : Nat) (a : Int) (a1 : Int) (b_ : Int) (b_1 : Int) (κ : Res → Option α) : evFn Try.prog (laws_eqPoint_XG n) Try.f67 (((buildDs laws_eqPoint_sh [.int a, .int a1, .int b_, .int b_1]).map Prod.fst).getD []) κ = laws_eqPoint_body n a a1 b_ b_1 (fun v1 => κ ⟨[.bool v1], []⟩) := by kernel_rfl
theorem laws_eqPoint_ev {α : Type} (n : Nat) (a : Int) (a1 : Int) (b_ : Int) (b_1 : Int) (κ : Res → Option α) : evFn Try.prog (laws_eqPoint_X n) Try.f67 (((buildDs laws_eqPoint_sh [.int a, .int a1, .int b_, .int b_1]).map Prod.fst).getD []) κ = laws_eqPoint_run n [.int a, .int a1, .int b_, .int b_1] κ := (laws_eqPoint_gen n a a1 b_ b_1 κ).trans (by kernel_rfl)
theorem laws_eqPoint_en (a : Int) (a1 : Int) (b_ : Int) (b_1 : Int) : (entry 0 (((buildDs laws_eqPoint_sh [.int a, .int a1, .int b_, .int b_1]).map Prod.fst).getD [])).map (fun x => (x.1.length, x.2.lent)) = some (2, []) := by kernel_rfl
theorem laws_eqPoint_good {α : Type} : ∀ n, GoodFn (α := α) Try.prog 67 (byShape laws_eqPoint_sh (laws_eqPoint_run n)) := by
  refine fn_good' Try.func67 (c := (Try.f67.body.getD .skip)) (by kernel_rfl) (by kernel_rfl) (by kernel_rfl) laws_eqPoint_C laws_eqPoint_M eqs laws_eqPoint_lps (fun n => tabC_good (fun _ h => absurd h List.not_mem_nil)) eqs_ok laws_eqPoint_Lt ?_ ?_ laws_eqPoint_sh laws_eqPoint_run ?_
  · exact (fun _ h => absurd h List.not_mem_nil)
  · exact (fun _ h => absurd h List.not_mem_nil)
  · intro n p κ r ds hd hr
    have hr0 := hr
    unfold laws_eqPoint_run laws_eqPoint_runG at hr
    split at hr
    · rw [← ds_of hd]
      exact ⟨en_of (laws_eqPoint_en _ _ _ _) ⟨rfl, rfl⟩, (laws_eqPoint_ev n _ _ _ _ κ).trans hr0⟩
    · cases hr

/-! loop.example/g01297/laws.eqPointS -/
def laws_eqPointS_sh : List SkD := [.sl 33 .pt, .sl 33 .pt]
def laws_eqPointS_runG {α : Type} (F : Nat → (List (Int × Int)) → (List (Int × Int)) → (Bool → Option α) → Option α) (n : Nat) (p : List P1) (κ : Res → Option α) : Option α := match p with
  | [.rows .pt a, .rows .pt b_] => F n a b_ (fun v1 => κ ⟨[.bool v1], []⟩)
  | _ => none
def laws_eqPointS_run {α : Type} (n : Nat) (p : List P1) (κ : Res → Option α) : Option α := laws_eqPointS_runG laws_eqPointS n p κ
def laws_eqPointS_CG {α : Type} (F0 : Nat → Int → Int → Int → Int → (Bool → Option α) → Option α) (n : Nat) : FuncId → List D → (Res → Option α) → Option α := tabC [(67, (byShape laws_eqPoint_sh (laws_eqPoint_runG F0 n)))]
def laws_eqPointS_C {α : Type} (n : Nat) : FuncId → List D → (Res → Option α) → Option α := laws_eqPointS_CG laws_eqPoint n
def laws_eqPointS_M : FuncId → List Nat := tabM []
def laws_eqPointS_t4 : Tpl := ⟨[.sl 0, .sl 64, .any, .any, .any, .int .i64, .any, .any, .any, .any, .any, .any, .any, .any, .any, .any, .any, .any, .any, .any, .any, .any, .any, .any, .any, .any, .any], [(0, .rows 0 33 .pt), (64, .rows 0 33 .pt)], []⟩
def laws_eqPointS_uG4 {α : Type} (G : Nat → Int → (List (Int × Int)) → (List (Int × Int)) → (Int → (List (Int × Int)) → (List (Int × Int)) → Option α) → (Bool → Option α) → Option α) (n : Nat) (p : List P1) (brk : Nat → List P1 → Option α) (ret : Res → Option α) : Option α := match p with
  | [.int i, .rows .pt a1, .rows .pt b_1] => G n i a1 b_1 (fun i a1 b_1 => brk 0 [.int i, .rows .pt a1, .rows .pt b_1]) (fun v1 => ret ⟨[.bool v1], []⟩)
  | _ => none
def laws_eqPointS_u4 {α : Type} (n : Nat) (p : List P1) (brk : Nat → List P1 → Option α) (ret : Res → Option α) : Option α := laws_eqPointS_uG4 laws_eqPointS_l4 n p brk ret
def laws_eqPointS_lpsG {α : Type} (G4 : Nat → Int → (List (Int × Int)) → (List (Int × Int)) → (Int → (List (Int × Int)) → (List (Int × Int)) → Option α) → (Bool → Option α) → Option α) : List (LoopT α) := [⟨4, laws_eqPointS_t4, laws_eqPointS_uG4 G4⟩]
def laws_eqPointS_lps {α : Type} : List (LoopT α) := laws_eqPointS_lpsG laws_eqPointS_l4
def laws_eqPointS_XG {α : Type} (F0 : Nat → Int → Int → Int → Int → (Bool → Option α) → Option α) (G4 : Nat → Int → (List (Int × Int)) → (List (Int × Int)) → (Int → (List (Int × Int)) → (List (Int × Int)) → Option α) → (Bool → Option α) → Option α) (n : Nat) : Ctx α := ⟨laws_eqPointS_CG F0 n, laws_eqPointS_M, eqs, lpOf (laws_eqPointS_lpsG G4) n⟩
def laws_eqPointS_X {α : Type} (n : Nat) : Ctx α := laws_eqPointS_XG laws_eqPoint laws_eqPointS_l4 n
def laws_eqPointS_Lt (np : Nat) (lent : List (Bool × Nat × Blk)) : Prop := np = 2 ∧ lent = []
def laws_eqPointS_lb4 {α : Type} (F0 : Nat → Int → Int → Int → Int → (Bool → Option α) → Option α) (G4 : Nat → Int → (List (Int × Int)) → (List (Int × Int)) → (Int → (List (Int × Int)) → (List (Int × Int)) → Option α) → (Bool → Option α) → Option α) (k : Nat) (i : Int) (a1 : List (Int × Int)) (b_1 : List (Int × Int)) (b0 : Int → (List (Int × Int)) → (List (Int × Int)) → Option α) (r0 : Bool → Option α) : Option α :=
  bif decide (i < (((List.length a1) : Nat) : Int)) then
    bif (decide (0 ≤ i) && decide (i < (((List.length a1) : Nat) : Int))) then
      (a1[i.toNat]?).bind fun e_ =>
      bif (decide (0 ≤ i) && decide (i < (((List.length b_1) : Nat) : Int))) then
        (b_1[i.toNat]?).bind fun e_1 =>
        F0 k e_.1 e_.2 e_1.1 e_1.2 fun v =>
        bif (!v) then
          r0 false
        else
          G4 k (w64 (i + 1)) a1 b_1 b0 r0
      else
        none
    else
      none
  else
    b0 i a1 b_1
theorem laws_eqPointS_l4_gen {α : Type} (F0 : Nat → Int → Int → Int → Int → (Bool → Option α) → Option α) (G4 : Nat → Int → (List (Int × Int)) → (List (Int × Int)) → (Int → (List (Int × Int)) → (List (Int × Int)) → Option α) → (Bool → Option α) → Option α) (n : Nat) (i : Int) (a1 : List (Int × Int)) (b_1 : List (Int × Int)) (brk : Nat → List P1 → Option α) (ret : Res → Option α) : ev ((laws_eqPointS_XG F0 G4 n).env Try.prog Try.f21 2 []) (findLoop (loopsIn (Try.f21.body.getD .skip)) 4) ((laws_eqPointS_t4.build [.int i, .rows .pt a1, .rows .pt b_1]).getD ⟨[], []⟩) (roundK (2 * 64) laws_eqPointS_t4 (fun q => laws_eqPointS_uG4 G4 n q brk ret) brk ret) = laws_eqPointS_lb4 F0 G4 n i a1 b_1 (fun i a1 b_1 => brk 0 [.int i, .rows .pt a1, .rows .pt b_1]) (fun v1 => ret ⟨[.bool v1], []⟩) := by kernel_rfl
theorem laws_eqPointS_l4_ev {α : Type} (n : Nat) (i : Int) (a1 : List (Int × Int)) (b_1 : List (Int × Int)) (brk : Nat → List P1 → Option α) (ret : Res → Option α) : ev ((laws_eqPointS_X n).env Try.prog Try.f21 2 []) (findLoop (loopsIn (Try.f21.body.getD .skip)) 4) ((laws_eqPointS_t4.build [.int i, .rows .pt a1, .rows .pt b_1]).getD ⟨[], []⟩) (roundK (2 * 64) laws_eqPointS_t4 (fun q => laws_eqPointS_u4 n q brk ret) brk ret) = laws_eqPointS_u4 (n + 1) [.int i, .rows .pt a1, .rows .pt b_1] brk ret := (laws_eqPointS_l4_gen laws_eqPoint laws_eqPointS_l4 n i a1 b_1 brk ret).trans (by kernel_rfl)
def laws_eqPointS_body {α : Type} (F0 : Nat → Int → Int → Int → Int → (Bool → Option α) → Option α) (G4 : Nat → Int → (List (Int × Int)) → (List (Int × Int)) → (Int → (List (Int × Int)) → (List (Int × Int)) → Option α) → (Bool → Option α) → Option α) (k : Nat) (a : List (Int × Int)) (b_ : List (Int × Int)) (r0 : Bool → Option α) : Option α :=
  bif (!decide ((((List.length a) : Nat) : Int) = (((List.length b_) : Nat) : Int))) then
    r0 false
  else
    G4 k 0 a b_
      (fun i1 a2 b_2 =>
        r0 true)
      r0
theorem laws_eqPointS_gen {α : Type} (F0 : Nat → Int → Int → Int → Int → (Bool → Option α) → Option α) (G4 : Nat → Int → (List (Int × Int)) → (List (Int × Int)) → (Int → (List (Int × Int)) → (List (Int × Int)) → Option α) → (Bool → Option α) → Option α) (n : Nat) (a : List (Int × Int)) (b_ : List (Int × Int)) (κ : Res → Option α) : evFn Try.prog (laws_eqPointS_XG F0 G4 n) Try.f21 (((buildDs laws_eqPointS_sh [.rows .pt a, .rows .pt b_]).map Prod.fst).getD []) κ = laws_eqPointS_body F0 G4 n a b_ (fun v1 => κ ⟨[.bool v1], []⟩) := by kernel_rfl
theorem laws_eqPointS_ev {α : Type} (n : Nat) (a : List (Int × Int)) (b_ : List (Int × Int)) (κ : Res → Option α) : evFn Try.prog (laws_eqPointS_X n) Try.f21 (((buildDs laws_eqPointS_sh [.rows .pt a, .rows .pt b_]).map Prod.fst).getD []) κ = laws_eqPointS_run n [.rows .pt a, .rows .pt b_] κ := (laws_eqPointS_gen laws_eqPoint laws_eqPointS_l4 n a b_ κ).trans (by kernel_rfl)
theorem laws_eqPointS_en (a : List (Int × Int)) (b_ : List (Int × Int)) : (entry 0 (((buildDs laws_eqPointS_sh [.rows .pt a, .rows .pt b_]).map Prod.fst).getD [])).map (fun x => (x.1.length, x.2.lent)) = some (2, []) := by kernel_rfl
theorem laws_eqPointS_good {α : Type} : ∀ n, GoodFn (α := α) Try.prog 21 (byShape laws_eqPointS_sh (laws_eqPointS_run n)) := by
  refine fn_good' Try.func21 (c := (Try.f21.body.getD .skip)) (by kernel_rfl) (by kernel_rfl) (by kernel_rfl) laws_eqPointS_C laws_eqPointS_M eqs laws_eqPointS_lps (fun n => tabC_good (List.forall_mem_cons.2 ⟨(laws_eqPoint_good n), (fun _ h => absurd h List.not_mem_nil)⟩)) eqs_ok laws_eqPointS_Lt ?_ ?_ laws_eqPointS_sh laws_eqPointS_run ?_
  · refine List.forall_mem_cons.2 ⟨?_, (fun _ h => absurd h List.not_mem_nil)⟩
    · intro p brk ret; show laws_eqPointS_u4 0 p brk ret = none; unfold laws_eqPointS_u4 laws_eqPointS_uG4; split <;> rfl
  · refine List.forall_mem_cons.2 ⟨?_, (fun _ h => absurd h List.not_mem_nil)⟩
    · intro np lent hL n p brk ret st r hb hr
      obtain ⟨rfl, rfl⟩ := hL
      rw [← tpl_of hb]
      change laws_eqPointS_u4 (n + 1) p brk ret = some r at hr
      have hr0 := hr
      unfold laws_eqPointS_u4 laws_eqPointS_uG4 at hr
      split at hr
      · exact (laws_eqPointS_l4_ev n _ _ _ brk ret).trans hr0
      · cases hr
  · intro n p κ r ds hd hr
    have hr0 := hr
    unfold laws_eqPointS_run laws_eqPointS_runG at hr
    split at hr
    · rw [← ds_of hd]
      exact ⟨en_of (laws_eqPointS_en _ _) ⟨rfl, rfl⟩, (laws_eqPointS_ev n _ _ κ).trans hr0⟩
    · cases hr

end Go.Proofs.Ytnfpidnnmgedfaa
