/- The program's functions hold to their readings without memory: printed by a program of ours. -/
import Derived.Test.YthgajnmmeibpiaaSe1XOrderPolygon
namespace Go.Proofs.Ythgajnmmeibpiaa
open Go Go.Ev Go.Sh Go.Proofs

/-! loop.example/g01297/impl.IsPolygon -/
def impl_IsPolygon_sh : List SkD := [.sl 34 .pt]
def impl_IsPolygon_runG {α : Type} (F : T10 α) (n : Nat) (p : List P1) (κ : Res → Option α) : Option α := match p with
  | [.rows .pt list] => F n list (fun v1 => κ ⟨[.bool v1], []⟩)
  | _ => none
def impl_IsPolygon_run {α : Type} (n : Nat) (p : List P1) (κ : Res → Option α) : Option α := impl_IsPolygon_runG impl_IsPolygon n p κ
def impl_IsPolygon_CG {α : Type} (F0 : T3 α) (F1 : T10 α) (F2 : T10 α) (n : Nat) : FuncId → List D → (Res → Option α) → Option α := tabC [(19, (byShape impl_in_sh (impl_in_runG F0 n))), (20, (byShape slices_ContainsFunc_impl_Point_impl_Point_1F_impl_IsPolygon_1_sh (slices_ContainsFunc_impl_Point_impl_Point_1F_impl_IsPolygon_1_runG F1 n))), (23, (byShape impl_polygon_convex_sh (impl_polygon_convex_runG F2 n)))]
def impl_IsPolygon_C {α : Type} (n : Nat) : FuncId → List D → (Res → Option α) → Option α := impl_IsPolygon_CG impl_in slices_ContainsFunc_impl_Point_impl_Point_1F_impl_IsPolygon_1 impl_polygon_convex n
def impl_IsPolygon_M : FuncId → List Nat := tabM []
def impl_IsPolygon_lpsG {α : Type}  : List (LoopT α) := []
def impl_IsPolygon_lps {α : Type} : List (LoopT α) := impl_IsPolygon_lpsG
def impl_IsPolygon_jt : Nat → Option Tpl := jtOf []
def impl_IsPolygon_XG {α : Type} (F0 : T3 α) (F1 : T10 α) (F2 : T10 α)  (n : Nat) : Ctx α := ⟨impl_IsPolygon_CG F0 F1 F2 n, impl_IsPolygon_M, eqs, lpOf (impl_IsPolygon_lpsG) n, impl_IsPolygon_jt⟩
def impl_IsPolygon_X {α : Type} (n : Nat) : Ctx α := impl_IsPolygon_XG impl_in slices_ContainsFunc_impl_Point_impl_Point_1F_impl_IsPolygon_1 impl_polygon_convex n
def impl_IsPolygon_Lt (np : Nat) (lent : List (Bool × Nat × Blk)) : Prop := np = 1 ∧ lent = []
def impl_IsPolygon_body {α : Type} (F0 : T3 α) (F1 : T10 α) (F2 : T10 α)  (k : Nat) (list : List (Int × Int)) (r0 : Bool → Option α) : Option α :=
  F0 k (((List.length list) : Nat) : Int) 3 12 fun v =>
  bif (!v) then
    r0 false
  else
    F1 k list fun v1 =>
    bif v1 then
      r0 false
    else
      F2 k list fun v2 =>
      r0 v2
theorem impl_IsPolygon_gen {α : Type} (F0 : T3 α) (F1 : T10 α) (F2 : T10 α)  (n : Nat) (list : List (Int × Int)) (κ : Res → Option α) : evFn Try.prog (impl_IsPolygon_XG F0 F1 F2 n) Try.f14 (((buildDs impl_IsPolygon_sh [.rows .pt list]).map Prod.fst).getD []) κ = impl_IsPolygon_body F0 F1 F2 n list (fun v1 => κ ⟨[.bool v1], []⟩) := by kernel_rfl
theorem impl_IsPolygon_eq {α : Type} (n : Nat) (list : List (Int × Int)) (r0 : Bool → Option α) : impl_IsPolygon_body (α := α) impl_in slices_ContainsFunc_impl_Point_impl_Point_1F_impl_IsPolygon_1 impl_polygon_convex n list r0 = impl_IsPolygon (α := α) n list r0 := (impl_IsPolygon_body.eq_1 impl_in slices_ContainsFunc_impl_Point_impl_Point_1F_impl_IsPolygon_1 impl_polygon_convex n list r0).trans (impl_IsPolygon.eq_1 n list r0).symm
theorem impl_IsPolygon_rn {α : Type} (F : T10 α) (n : Nat) (list : List (Int × Int)) (κ : Res → Option α) : impl_IsPolygon_runG F n [.rows .pt list] κ = F n list (fun v1 => κ ⟨[.bool v1], []⟩) := rfl
theorem impl_IsPolygon_ev {α : Type} (n : Nat) (list : List (Int × Int)) (κ : Res → Option α) : evFn Try.prog (impl_IsPolygon_X n) Try.f14 (((buildDs impl_IsPolygon_sh [.rows .pt list]).map Prod.fst).getD []) κ = impl_IsPolygon_run n [.rows .pt list] κ := (impl_IsPolygon_gen impl_in slices_ContainsFunc_impl_Point_impl_Point_1F_impl_IsPolygon_1 impl_polygon_convex n list κ).trans ((impl_IsPolygon_eq n list (fun v1 => κ ⟨[.bool v1], []⟩)).trans ((impl_IsPolygon_run.eq_1 n [.rows .pt list] κ).trans (impl_IsPolygon_rn impl_IsPolygon n list κ)).symm)
theorem impl_IsPolygon_en (list : List (Int × Int)) : (entry 0 (((buildDs impl_IsPolygon_sh [.rows .pt list]).map Prod.fst).getD [])).map (fun x => (x.1.length, x.2.lent)) = some (1, []) := by kernel_rfl
theorem impl_IsPolygon_good {α : Type} : ∀ n, GoodFn (α := α) Try.prog 14 (byShape impl_IsPolygon_sh (impl_IsPolygon_run n)) := by
  refine fn_good' Try.func14 (c := (Try.f14.body.getD .skip)) (by kernel_rfl) (by kernel_rfl) (by kernel_rfl) impl_IsPolygon_C impl_IsPolygon_M eqs impl_IsPolygon_lps impl_IsPolygon_jt (fun n => tabC_good (List.forall_mem_cons.2 ⟨(impl_in_good n), (List.forall_mem_cons.2 ⟨(slices_ContainsFunc_impl_Point_impl_Point_1F_impl_IsPolygon_1_good n), (List.forall_mem_cons.2 ⟨(impl_polygon_convex_good n), (fun _ h => absurd h List.not_mem_nil)⟩)⟩)⟩)) eqs_ok impl_IsPolygon_Lt ?_ ?_ impl_IsPolygon_sh impl_IsPolygon_run ?_
  · exact (fun _ h => absurd h List.not_mem_nil)
  · exact (fun _ h => absurd h List.not_mem_nil)
  · intro n p κ r ds hd hr
    have hr0 := hr
    unfold impl_IsPolygon_run impl_IsPolygon_runG at hr
    split at hr
    · rw [← ds_of hd]
      exact ⟨en_of (impl_IsPolygon_en _) ⟨rfl, rfl⟩, (impl_IsPolygon_ev n _ κ).trans hr0⟩
    · cases hr

/-! cmp.isNaN[int64] -/
def cmp_isNaN_int64_sh : List SkD := [.int .i64]
def cmp_isNaN_int64_runG {α : Type} (F : T4 α) (n : Nat) (p : List P1) (κ : Res → Option α) : Option α := match p with
  | [.int x] => F n x (fun v1 => κ ⟨[.bool v1], []⟩)
  | _ => none
def cmp_isNaN_int64_run {α : Type} (n : Nat) (p : List P1) (κ : Res → Option α) : Option α := cmp_isNaN_int64_runG cmp_isNaN_int64 n p κ
def cmp_isNaN_int64_CG {α : Type}  (n : Nat) : FuncId → List D → (Res → Option α) → Option α := tabC []
def cmp_isNaN_int64_C {α : Type} (n : Nat) : FuncId → List D → (Res → Option α) → Option α := cmp_isNaN_int64_CG n
def cmp_isNaN_int64_M : FuncId → List Nat := tabM []
def cmp_isNaN_int64_lpsG {α : Type}  : List (LoopT α) := []
def cmp_isNaN_int64_lps {α : Type} : List (LoopT α) := cmp_isNaN_int64_lpsG
def cmp_isNaN_int64_jt : Nat → Option Tpl := jtOf []
def cmp_isNaN_int64_XG {α : Type}   (n : Nat) : Ctx α := ⟨cmp_isNaN_int64_CG n, cmp_isNaN_int64_M, eqs, lpOf (cmp_isNaN_int64_lpsG) n, cmp_isNaN_int64_jt⟩
def cmp_isNaN_int64_X {α : Type} (n : Nat) : Ctx α := cmp_isNaN_int64_XG n
def cmp_isNaN_int64_Lt (np : Nat) (lent : List (Bool × Nat × Blk)) : Prop := np = 1 ∧ lent = []
def cmp_isNaN_int64_body {α : Type}   (k : Nat) (x : Int) (r0 : Bool → Option α) : Option α :=
  r0 (!decide (x = x))
theorem cmp_isNaN_int64_gen {α : Type}   (n : Nat) (x : Int) (κ : Res → Option α) : evFn Try.prog (cmp_isNaN_int64_XG n) Try.f43 (((buildDs cmp_isNaN_int64_sh [.int x]).map Prod.fst).getD []) κ = cmp_isNaN_int64_body n x (fun v1 => κ ⟨[.bool v1], []⟩) := by kernel_rfl
theorem cmp_isNaN_int64_eq {α : Type} (n : Nat) (x : Int) (r0 : Bool → Option α) : cmp_isNaN_int64_body (α := α) n x r0 = cmp_isNaN_int64 (α := α) n x r0 := (cmp_isNaN_int64_body.eq_1 n x r0).trans (cmp_isNaN_int64.eq_1 n x r0).symm
theorem cmp_isNaN_int64_rn {α : Type} (F : T4 α) (n : Nat) (x : Int) (κ : Res → Option α) : cmp_isNaN_int64_runG F n [.int x] κ = F n x (fun v1 => κ ⟨[.bool v1], []⟩) := rfl
theorem cmp_isNaN_int64_ev {α : Type} (n : Nat) (x : Int) (κ : Res → Option α) : evFn Try.prog (cmp_isNaN_int64_X n) Try.f43 (((buildDs cmp_isNaN_int64_sh [.int x]).map Prod.fst).getD []) κ = cmp_isNaN_int64_run n [.int x] κ := (cmp_isNaN_int64_gen n x κ).trans ((cmp_isNaN_int64_eq n x (fun v1 => κ ⟨[.bool v1], []⟩)).trans ((cmp_isNaN_int64_run.eq_1 n [.int x] κ).trans (cmp_isNaN_int64_rn cmp_isNaN_int64 n x κ)).symm)
theorem cmp_isNaN_int64_en (x : Int) : (entry 0 (((buildDs cmp_isNaN_int64_sh [.int x]).map Prod.fst).getD [])).map (fun x => (x.1.length, x.2.lent)) = some (1, []) := by kernel_rfl
theorem cmp_isNaN_int64_good {α : Type} : ∀ n, GoodFn (α := α) Try.prog 43 (byShape cmp_isNaN_int64_sh (cmp_isNaN_int64_run n)) := by
  refine fn_good' Try.func43 (c := (Try.f43.body.getD .skip)) (by kernel_rfl) (by kernel_rfl) (by kernel_rfl) cmp_isNaN_int64_C cmp_isNaN_int64_M eqs cmp_isNaN_int64_lps cmp_isNaN_int64_jt (fun n => tabC_good (fun _ h => absurd h List.not_mem_nil)) eqs_ok cmp_isNaN_int64_Lt ?_ ?_ cmp_isNaN_int64_sh cmp_isNaN_int64_run ?_
  · exact (fun _ h => absurd h List.not_mem_nil)
  · exact (fun _ h => absurd h List.not_mem_nil)
  · intro n p κ r ds hd hr
    have hr0 := hr
    unfold cmp_isNaN_int64_run cmp_isNaN_int64_runG at hr
    split at hr
    · rw [← ds_of hd]
      exact ⟨en_of (cmp_isNaN_int64_en _) ⟨rfl, rfl⟩, (cmp_isNaN_int64_ev n _ κ).trans hr0⟩
    · cases hr

/-! cmp.Compare[int64] -/
def cmp_Compare_int64_sh : List SkD := [.int .i64, .int .i64]
def cmp_Compare_int64_runG {α : Type} (F : T9 α) (n : Nat) (p : List P1) (κ : Res → Option α) : Option α := match p with
  | [.int x, .int y] => F n x y (fun v1 => κ ⟨[.int .i64 v1], []⟩)
  | _ => none
def cmp_Compare_int64_run {α : Type} (n : Nat) (p : List P1) (κ : Res → Option α) : Option α := cmp_Compare_int64_runG cmp_Compare_int64 n p κ
def cmp_Compare_int64_CG {α : Type} (F0 : T4 α) (n : Nat) : FuncId → List D → (Res → Option α) → Option α := tabC [(43, (byShape cmp_isNaN_int64_sh (cmp_isNaN_int64_runG F0 n)))]
def cmp_Compare_int64_C {α : Type} (n : Nat) : FuncId → List D → (Res → Option α) → Option α := cmp_Compare_int64_CG cmp_isNaN_int64 n
def cmp_Compare_int64_M : FuncId → List Nat := tabM []
def cmp_Compare_int64_lpsG {α : Type}  : List (LoopT α) := []
def cmp_Compare_int64_lps {α : Type} : List (LoopT α) := cmp_Compare_int64_lpsG
def cmp_Compare_int64_jt : Nat → Option Tpl := jtOf []
def cmp_Compare_int64_XG {α : Type} (F0 : T4 α)  (n : Nat) : Ctx α := ⟨cmp_Compare_int64_CG F0 n, cmp_Compare_int64_M, eqs, lpOf (cmp_Compare_int64_lpsG) n, cmp_Compare_int64_jt⟩
def cmp_Compare_int64_X {α : Type} (n : Nat) : Ctx α := cmp_Compare_int64_XG cmp_isNaN_int64 n
def cmp_Compare_int64_Lt (np : Nat) (lent : List (Bool × Nat × Blk)) : Prop := np = 2 ∧ lent = []
def cmp_Compare_int64_body {α : Type} (F0 : T4 α)  (k : Nat) (x : Int) (y : Int) (r0 : Int → Option α) : Option α :=
  F0 k x fun v =>
  F0 k y fun v1 =>
  bif v then
    bif v1 then
      r0 0
    else
      r0 (-1)
  else
  bif v1 then
    r0 1
  else
  bif decide (x < y) then
    r0 (-1)
  else
  bif decide (y < x) then
    r0 1
  else
    r0 0
theorem cmp_Compare_int64_gen {α : Type} (F0 : T4 α)  (n : Nat) (x : Int) (y : Int) (κ : Res → Option α) : evFn Try.prog (cmp_Compare_int64_XG F0 n) Try.f37 (((buildDs cmp_Compare_int64_sh [.int x, .int y]).map Prod.fst).getD []) κ = cmp_Compare_int64_body F0 n x y (fun v1 => κ ⟨[.int .i64 v1], []⟩) := by kernel_rfl
theorem cmp_Compare_int64_eq {α : Type} (n : Nat) (x : Int) (y : Int) (r0 : Int → Option α) : cmp_Compare_int64_body (α := α) cmp_isNaN_int64 n x y r0 = cmp_Compare_int64 (α := α) n x y r0 := (cmp_Compare_int64_body.eq_1 cmp_isNaN_int64 n x y r0).trans (cmp_Compare_int64.eq_1 n x y r0).symm
theorem cmp_Compare_int64_rn {α : Type} (F : T9 α) (n : Nat) (x : Int) (y : Int) (κ : Res → Option α) : cmp_Compare_int64_runG F n [.int x, .int y] κ = F n x y (fun v1 => κ ⟨[.int .i64 v1], []⟩) := rfl
theorem cmp_Compare_int64_ev {α : Type} (n : Nat) (x : Int) (y : Int) (κ : Res → Option α) : evFn Try.prog (cmp_Compare_int64_X n) Try.f37 (((buildDs cmp_Compare_int64_sh [.int x, .int y]).map Prod.fst).getD []) κ = cmp_Compare_int64_run n [.int x, .int y] κ := (cmp_Compare_int64_gen cmp_isNaN_int64 n x y κ).trans ((cmp_Compare_int64_eq n x y (fun v1 => κ ⟨[.int .i64 v1], []⟩)).trans ((cmp_Compare_int64_run.eq_1 n [.int x, .int y] κ).trans (cmp_Compare_int64_rn cmp_Compare_int64 n x y κ)).symm)
theorem cmp_Compare_int64_en (x : Int) (y : Int) : (entry 0 (((buildDs cmp_Compare_int64_sh [.int x, .int y]).map Prod.fst).getD [])).map (fun x => (x.1.length, x.2.lent)) = some (2, []) := by kernel_rfl
theorem cmp_Compare_int64_good {α : Type} : ∀ n, GoodFn (α := α) Try.prog 37 (byShape cmp_Compare_int64_sh (cmp_Compare_int64_run n)) := by
  refine fn_good' Try.func37 (c := (Try.f37.body.getD .skip)) (by kernel_rfl) (by kernel_rfl) (by kernel_rfl) cmp_Compare_int64_C cmp_Compare_int64_M eqs cmp_Compare_int64_lps cmp_Compare_int64_jt (fun n => tabC_good (List.forall_mem_cons.2 ⟨(cmp_isNaN_int64_good n), (fun _ h => absurd h List.not_mem_nil)⟩)) eqs_ok cmp_Compare_int64_Lt ?_ ?_ cmp_Compare_int64_sh cmp_Compare_int64_run ?_
  · exact (fun _ h => absurd h List.not_mem_nil)
  · exact (fun _ h => absurd h List.not_mem_nil)
  · intro n p κ r ds hd hr
    have hr0 := hr
    unfold cmp_Compare_int64_run cmp_Compare_int64_runG at hr
    split at hr
    · rw [← ds_of hd]
      exact ⟨en_of (cmp_Compare_int64_en _ _) ⟨rfl, rfl⟩, (cmp_Compare_int64_ev n _ _ κ).trans hr0⟩
    · cases hr

/-! cmp.Or[int] -/
def cmp_Or_int_sh : List SkD := [.sl 3 (.int .i64)]
def cmp_Or_int_runG {α : Type} (F : T16 α) (n : Nat) (p : List P1) (κ : Res → Option α) : Option α := match p with
  | [.rows (.int .i64) vals] => F n vals (fun v1 => κ ⟨[.int .i64 v1], []⟩)
  | _ => none
def cmp_Or_int_run {α : Type} (n : Nat) (p : List P1) (κ : Res → Option α) : Option α := cmp_Or_int_runG cmp_Or_int n p κ
def cmp_Or_int_CG {α : Type}  (n : Nat) : FuncId → List D → (Res → Option α) → Option α := tabC []
def cmp_Or_int_C {α : Type} (n : Nat) : FuncId → List D → (Res → Option α) → Option α := cmp_Or_int_CG n
def cmp_Or_int_M : FuncId → List Nat := tabM []
def cmp_Or_int_t3 : Tpl := ⟨[.any, .any, .any, .int .i64, .any, .any, .sl 0, .int .i64, .int .i64, .any, .any, .any, .any, .any, .any, .any, .any, .any], [(0, .rows 0 3 (.int .i64))], []⟩
def cmp_Or_int_uG3 {α : Type} (G : Nat → Int → Int → Int → List Int → (Int → Int → Int → List Int → Option α) → (Int → Option α) → Option α) (n : Nat) (p : List P1) (brk : Nat → List P1 → Option α) (ret : Res → Option α) : Option α := match p with
  | [.int zero, .int x, .int x1, .rows (.int .i64) x2] => G n zero x x1 x2 (fun zero x x1 x2 => brk 0 [.int zero, .int x, .int x1, .rows (.int .i64) x2]) (fun v1 => ret ⟨[.int .i64 v1], []⟩)
  | _ => none
def cmp_Or_int_u3 {α : Type} (n : Nat) (p : List P1) (brk : Nat → List P1 → Option α) (ret : Res → Option α) : Option α := cmp_Or_int_uG3 cmp_Or_int_l3 n p brk ret
def cmp_Or_int_lpsG {α : Type} (G3 : Nat → Int → Int → Int → List Int → (Int → Int → Int → List Int → Option α) → (Int → Option α) → Option α) : List (LoopT α) := [⟨3, cmp_Or_int_t3, cmp_Or_int_uG3 G3⟩]
def cmp_Or_int_lps {α : Type} : List (LoopT α) := cmp_Or_int_lpsG cmp_Or_int_l3
def cmp_Or_int_jt : Nat → Option Tpl := jtOf []
def cmp_Or_int_XG {α : Type}  (G3 : Nat → Int → Int → Int → List Int → (Int → Int → Int → List Int → Option α) → (Int → Option α) → Option α) (n : Nat) : Ctx α := ⟨cmp_Or_int_CG n, cmp_Or_int_M, eqs, lpOf (cmp_Or_int_lpsG G3) n, cmp_Or_int_jt⟩
def cmp_Or_int_X {α : Type} (n : Nat) : Ctx α := cmp_Or_int_XG cmp_Or_int_l3 n
def cmp_Or_int_Lt (np : Nat) (lent : List (Bool × Nat × Blk)) : Prop := np = 1 ∧ lent = []
def cmp_Or_int_lb3 {α : Type}  (G3 : Nat → Int → Int → Int → List Int → (Int → Int → Int → List Int → Option α) → (Int → Option α) → Option α) (k : Nat) (zero : Int) (x : Int) (x1 : Int) (x2 : List Int) (b0 : Int → Int → Int → List Int → Option α) (r0 : Int → Option α) : Option α :=
  bif decide (x1 < x) then
    bif (decide (0 ≤ x1) && decide (x1 < (((List.length x2) : Nat) : Int))) then
      (x2[x1.toNat]?).bind fun e_ =>
      bif (!decide (e_ = zero)) then
        r0 e_
      else
        G3 k zero x (w64 (x1 + 1)) x2 b0 r0
    else
      none
  else
    b0 zero x x1 x2
theorem cmp_Or_int_l3_gen {α : Type}  (G3 : Nat → Int → Int → Int → List Int → (Int → Int → Int → List Int → Option α) → (Int → Option α) → Option α) (n : Nat) (zero : Int) (x : Int) (x1 : Int) (x2 : List Int) (brk : Nat → List P1 → Option α) (ret : Res → Option α) : ev ((cmp_Or_int_XG G3 n).env Try.prog Try.f36 1 []) (findLoop (loopsIn (Try.f36.body.getD .skip)) 3) ((cmp_Or_int_t3.build [.int zero, .int x, .int x1, .rows (.int .i64) x2]).getD ⟨[], []⟩) (roundK (1 * 64) cmp_Or_int_t3 (fun q => cmp_Or_int_uG3 G3 n q brk ret) brk ret) = cmp_Or_int_lb3 G3 n zero x x1 x2 (fun zero x x1 x2 => brk 0 [.int zero, .int x, .int x1, .rows (.int .i64) x2]) (fun v1 => ret ⟨[.int .i64 v1], []⟩) := by kernel_rfl
theorem cmp_Or_int_l3_eq {α : Type} (k : Nat) (zero : Int) (x : Int) (x1 : Int) (x2 : List Int) (b0 : Int → Int → Int → List Int → Option α) (r0 : Int → Option α) : cmp_Or_int_lb3 cmp_Or_int_l3 k zero x x1 x2 b0 r0 = cmp_Or_int_l3 (k + 1) zero x x1 x2 b0 r0 := (cmp_Or_int_lb3.eq_1 cmp_Or_int_l3 k zero x x1 x2 b0 r0).trans (show cmp_Or_int_l3 (k + 1) zero x x1 x2 b0 r0 = _ from cmp_Or_int_l3.eq_2 _ _ _ _ _ _ _ ).symm
theorem cmp_Or_int_l3_rn {α : Type} (G : Nat → Int → Int → Int → List Int → (Int → Int → Int → List Int → Option α) → (Int → Option α) → Option α) (n : Nat) (zero : Int) (x : Int) (x1 : Int) (x2 : List Int) (brk : Nat → List P1 → Option α) (ret : Res → Option α) : cmp_Or_int_uG3 G n [.int zero, .int x, .int x1, .rows (.int .i64) x2] brk ret = G n zero x x1 x2 (fun zero x x1 x2 => brk 0 [.int zero, .int x, .int x1, .rows (.int .i64) x2]) (fun v1 => ret ⟨[.int .i64 v1], []⟩) := rfl
theorem cmp_Or_int_l3_ev {α : Type} (n : Nat) (zero : Int) (x : Int) (x1 : Int) (x2 : List Int) (brk : Nat → List P1 → Option α) (ret : Res → Option α) : ev ((cmp_Or_int_X n).env Try.prog Try.f36 1 []) (findLoop (loopsIn (Try.f36.body.getD .skip)) 3) ((cmp_Or_int_t3.build [.int zero, .int x, .int x1, .rows (.int .i64) x2]).getD ⟨[], []⟩) (roundK (1 * 64) cmp_Or_int_t3 (fun q => cmp_Or_int_u3 n q brk ret) brk ret) = cmp_Or_int_u3 (n + 1) [.int zero, .int x, .int x1, .rows (.int .i64) x2] brk ret := (cmp_Or_int_l3_gen cmp_Or_int_l3 n zero x x1 x2 brk ret).trans ((cmp_Or_int_l3_eq n zero x x1 x2 (fun zero x x1 x2 => brk 0 [.int zero, .int x, .int x1, .rows (.int .i64) x2]) (fun v1 => ret ⟨[.int .i64 v1], []⟩)).trans ((cmp_Or_int_u3.eq_1 (n + 1) [.int zero, .int x, .int x1, .rows (.int .i64) x2] brk ret).trans (cmp_Or_int_l3_rn cmp_Or_int_l3 (n + 1) zero x x1 x2 brk ret)).symm)
def cmp_Or_int_body {α : Type}  (G3 : Nat → Int → Int → Int → List Int → (Int → Int → Int → List Int → Option α) → (Int → Option α) → Option α) (k : Nat) (vals : List Int) (r0 : Int → Option α) : Option α :=
  G3 k 0 (((List.length vals) : Nat) : Int) 0 vals
    (fun zero1 _ _ _ =>
      r0 zero1)
    r0
theorem cmp_Or_int_gen {α : Type}  (G3 : Nat → Int → Int → Int → List Int → (Int → Int → Int → List Int → Option α) → (Int → Option α) → Option α) (n : Nat) (vals : List Int) (κ : Res → Option α) : evFn Try.prog (cmp_Or_int_XG G3 n) Try.f36 (((buildDs cmp_Or_int_sh [.rows (.int .i64) vals]).map Prod.fst).getD []) κ = cmp_Or_int_body G3 n vals (fun v1 => κ ⟨[.int .i64 v1], []⟩) := by kernel_rfl
theorem cmp_Or_int_eq {α : Type} (n : Nat) (vals : List Int) (r0 : Int → Option α) : cmp_Or_int_body (α := α) cmp_Or_int_l3 n vals r0 = cmp_Or_int (α := α) n vals r0 := (cmp_Or_int_body.eq_1 cmp_Or_int_l3 n vals r0).trans (cmp_Or_int.eq_1 n vals r0).symm
theorem cmp_Or_int_rn {α : Type} (F : T16 α) (n : Nat) (vals : List Int) (κ : Res → Option α) : cmp_Or_int_runG F n [.rows (.int .i64) vals] κ = F n vals (fun v1 => κ ⟨[.int .i64 v1], []⟩) := rfl
theorem cmp_Or_int_ev {α : Type} (n : Nat) (vals : List Int) (κ : Res → Option α) : evFn Try.prog (cmp_Or_int_X n) Try.f36 (((buildDs cmp_Or_int_sh [.rows (.int .i64) vals]).map Prod.fst).getD []) κ = cmp_Or_int_run n [.rows (.int .i64) vals] κ := (cmp_Or_int_gen cmp_Or_int_l3 n vals κ).trans ((cmp_Or_int_eq n vals (fun v1 => κ ⟨[.int .i64 v1], []⟩)).trans ((cmp_Or_int_run.eq_1 n [.rows (.int .i64) vals] κ).trans (cmp_Or_int_rn cmp_Or_int n vals κ)).symm)
theorem cmp_Or_int_en (vals : List Int) : (entry 0 (((buildDs cmp_Or_int_sh [.rows (.int .i64) vals]).map Prod.fst).getD [])).map (fun x => (x.1.length, x.2.lent)) = some (1, []) := by kernel_rfl
theorem cmp_Or_int_good {α : Type} : ∀ n, GoodFn (α := α) Try.prog 36 (byShape cmp_Or_int_sh (cmp_Or_int_run n)) := by
  refine fn_good' Try.func36 (c := (Try.f36.body.getD .skip)) (by kernel_rfl) (by kernel_rfl) (by kernel_rfl) cmp_Or_int_C cmp_Or_int_M eqs cmp_Or_int_lps cmp_Or_int_jt (fun n => tabC_good (fun _ h => absurd h List.not_mem_nil)) eqs_ok cmp_Or_int_Lt ?_ ?_ cmp_Or_int_sh cmp_Or_int_run ?_
  · refine List.forall_mem_cons.2 ⟨?_, (fun _ h => absurd h List.not_mem_nil)⟩
    · intro p brk ret; show cmp_Or_int_u3 0 p brk ret = none; unfold cmp_Or_int_u3 cmp_Or_int_uG3; split <;> rfl
  · refine List.forall_mem_cons.2 ⟨?_, (fun _ h => absurd h List.not_mem_nil)⟩
    · intro np lent hL n p brk ret st r hb hr
      obtain ⟨rfl, rfl⟩ := hL
      rw [← tpl_of hb]
      change cmp_Or_int_u3 (n + 1) p brk ret = some r at hr
      have hr0 := hr
      unfold cmp_Or_int_u3 cmp_Or_int_uG3 at hr
      split at hr
      · exact (cmp_Or_int_l3_ev n _ _ _ _ brk ret).trans hr0
      · cases hr
  · intro n p κ r ds hd hr
    have hr0 := hr
    unfold cmp_Or_int_run cmp_Or_int_runG at hr
    split at hr
    · rw [← ds_of hd]
      exact ⟨en_of (cmp_Or_int_en _) ⟨rfl, rfl⟩, (cmp_Or_int_ev n _ κ).trans hr0⟩
    · cases hr

/-! loop.example/g01297/impl.pointOrder -/
def impl_pointOrder_sh : List SkD := [.agg [.int .i64, .int .i64], .agg [.int .i64, .int .i64]]
def impl_pointOrder_runG {α : Type} (F : T7 α) (n : Nat) (p : List P1) (κ : Res → Option α) : Option α := match p with
  | [.int a, .int a1, .int b_, .int b_1] => F n a a1 b_ b_1 (fun v1 => κ ⟨[.int .i64 v1], []⟩)
  | _ => none
def impl_pointOrder_run {α : Type} (n : Nat) (p : List P1) (κ : Res → Option α) : Option α := impl_pointOrder_runG impl_pointOrder n p κ
def impl_pointOrder_CG {α : Type} (F0 : T9 α) (F1 : T16 α) (n : Nat) : FuncId → List D → (Res → Option α) → Option α := tabC [(37, (byShape cmp_Compare_int64_sh (cmp_Compare_int64_runG F0 n))), (36, (byShape cmp_Or_int_sh (cmp_Or_int_runG F1 n)))]
def impl_pointOrder_C {α : Type} (n : Nat) : FuncId → List D → (Res → Option α) → Option α := impl_pointOrder_CG cmp_Compare_int64 cmp_Or_int n
def impl_pointOrder_M : FuncId → List Nat := tabM []
def impl_pointOrder_lpsG {α : Type}  : List (LoopT α) := []
def impl_pointOrder_lps {α : Type} : List (LoopT α) := impl_pointOrder_lpsG
def impl_pointOrder_jt : Nat → Option Tpl := jtOf []
def impl_pointOrder_XG {α : Type} (F0 : T9 α) (F1 : T16 α)  (n : Nat) : Ctx α := ⟨impl_pointOrder_CG F0 F1 n, impl_pointOrder_M, eqs, lpOf (impl_pointOrder_lpsG) n, impl_pointOrder_jt⟩
def impl_pointOrder_X {α : Type} (n : Nat) : Ctx α := impl_pointOrder_XG cmp_Compare_int64 cmp_Or_int n
def impl_pointOrder_Lt (np : Nat) (lent : List (Bool × Nat × Blk)) : Prop := np = 2 ∧ lent = []
def impl_pointOrder_body {α : Type} (F0 : T9 α) (F1 : T16 α)  (k : Nat) (a : Int) (a1 : Int) (b_ : Int) (b_1 : Int) (r0 : Int → Option α) : Option α :=
  F0 k a b_ fun v =>
  F0 k a1 b_1 fun v1 =>
  F1 k [v, v1] fun v2 =>
  r0 v2
theorem impl_pointOrder_gen {α : Type} (F0 : T9 α) (F1 : T16 α)  (n : Nat) (a : Int) (a1 : Int) (b_ : Int) (b_1 : Int) (κ : Res → Option α) : evFn Try.prog (impl_pointOrder_XG F0 F1 n) Try.f26 (((buildDs impl_pointOrder_sh [.int a, .int a1, .int b_, .int b_1]).map Prod.fst).getD []) κ = impl_pointOrder_body F0 F1 n a a1 b_ b_1 (fun v1 => κ ⟨[.int .i64 v1], []⟩) := by kernel_rfl
theorem impl_pointOrder_eq {α : Type} (n : Nat) (a : Int) (a1 : Int) (b_ : Int) (b_1 : Int) (r0 : Int → Option α) : impl_pointOrder_body (α := α) cmp_Compare_int64 cmp_Or_int n a a1 b_ b_1 r0 = impl_pointOrder (α := α) n a a1 b_ b_1 r0 := (impl_pointOrder_body.eq_1 cmp_Compare_int64 cmp_Or_int n a a1 b_ b_1 r0).trans (impl_pointOrder.eq_1 n a a1 b_ b_1 r0).symm
theorem impl_pointOrder_rn {α : Type} (F : T7 α) (n : Nat) (a : Int) (a1 : Int) (b_ : Int) (b_1 : Int) (κ : Res → Option α) : impl_pointOrder_runG F n [.int a, .int a1, .int b_, .int b_1] κ = F n a a1 b_ b_1 (fun v1 => κ ⟨[.int .i64 v1], []⟩) := rfl
theorem impl_pointOrder_ev {α : Type} (n : Nat) (a : Int) (a1 : Int) (b_ : Int) (b_1 : Int) (κ : Res → Option α) : evFn Try.prog (impl_pointOrder_X n) Try.f26 (((buildDs impl_pointOrder_sh [.int a, .int a1, .int b_, .int b_1]).map Prod.fst).getD []) κ = impl_pointOrder_run n [.int a, .int a1, .int b_, .int b_1] κ := (impl_pointOrder_gen cmp_Compare_int64 cmp_Or_int n a a1 b_ b_1 κ).trans ((impl_pointOrder_eq n a a1 b_ b_1 (fun v1 => κ ⟨[.int .i64 v1], []⟩)).trans ((impl_pointOrder_run.eq_1 n [.int a, .int a1, .int b_, .int b_1] κ).trans (impl_pointOrder_rn impl_pointOrder n a a1 b_ b_1 κ)).symm)
theorem impl_pointOrder_en (a : Int) (a1 : Int) (b_ : Int) (b_1 : Int) : (entry 0 (((buildDs impl_pointOrder_sh [.int a, .int a1, .int b_, .int b_1]).map Prod.fst).getD [])).map (fun x => (x.1.length, x.2.lent)) = some (2, []) := by kernel_rfl
theorem impl_pointOrder_good {α : Type} : ∀ n, GoodFn (α := α) Try.prog 26 (byShape impl_pointOrder_sh (impl_pointOrder_run n)) := by
  refine fn_good' Try.func26 (c := (Try.f26.body.getD .skip)) (by kernel_rfl) (by kernel_rfl) (by kernel_rfl) impl_pointOrder_C impl_pointOrder_M eqs impl_pointOrder_lps impl_pointOrder_jt (fun n => tabC_good (List.forall_mem_cons.2 ⟨(cmp_Compare_int64_good n), (List.forall_mem_cons.2 ⟨(cmp_Or_int_good n), (fun _ h => absurd h List.not_mem_nil)⟩)⟩)) eqs_ok impl_pointOrder_Lt ?_ ?_ impl_pointOrder_sh impl_pointOrder_run ?_
  · exact (fun _ h => absurd h List.not_mem_nil)
  · exact (fun _ h => absurd h List.not_mem_nil)
  · intro n p κ r ds hd hr
    have hr0 := hr
    unfold impl_pointOrder_run impl_pointOrder_runG at hr
    split at hr
    · rw [← ds_of hd]
      exact ⟨en_of (impl_pointOrder_en _ _ _ _) ⟨rfl, rfl⟩, (impl_pointOrder_ev n _ _ _ _ κ).trans hr0⟩
    · cases hr

/-! slices.MinFunc[loop.example/g01297/impl.polygon,loop.example/g01297/impl.Point] -/
def slices_MinFunc_impl_polygon_impl_Point_1F_impl_pointOrder_sh : List SkD := [.sl 34 .pt, .fn 26 []]
def slices_MinFunc_impl_polygon_impl_Point_1F_impl_pointOrder_runG {α : Type} (F : T17 α) (n : Nat) (p : List P1) (κ : Res → Option α) : Option α := match p with
  | [.rows .pt x] => F n x (fun v1 v2 => κ ⟨[.agg [.int .i64 v1, .int .i64 v2]], []⟩)
  | _ => none
def slices_MinFunc_impl_polygon_impl_Point_1F_impl_pointOrder_run {α : Type} (n : Nat) (p : List P1) (κ : Res → Option α) : Option α := slices_MinFunc_impl_polygon_impl_Point_1F_impl_pointOrder_runG slices_MinFunc_impl_polygon_impl_Point_1F_impl_pointOrder n p κ
def slices_MinFunc_impl_polygon_impl_Point_1F_impl_pointOrder_CG {α : Type} (F0 : T7 α) (n : Nat) : FuncId → List D → (Res → Option α) → Option α := tabC [(26, (byShape impl_pointOrder_sh (impl_pointOrder_runG F0 n)))]
def slices_MinFunc_impl_polygon_impl_Point_1F_impl_pointOrder_C {α : Type} (n : Nat) : FuncId → List D → (Res → Option α) → Option α := slices_MinFunc_impl_polygon_impl_Point_1F_impl_pointOrder_CG impl_pointOrder n
def slices_MinFunc_impl_polygon_impl_Point_1F_impl_pointOrder_M : FuncId → List Nat := tabM []
def slices_MinFunc_impl_polygon_impl_Point_1F_impl_pointOrder_t5 : Tpl := ⟨[.sl 0, .fn 26 [], .any, .any, .ptr 256 0 0, .ptr 320 0 0, .int .i64, .any, .any, .any, .any, .any, .any, .any, .any, .any, .any, .any, .any, .any, .any, .any, .any, .any, .any, .any, .any, .any, .any, .any, .any, .any, .any], [(0, .rows 0 34 .pt), (256, .ints 2 34 .i64 2), (320, .ints 2 34 .i64 2)], []⟩
def slices_MinFunc_impl_polygon_impl_Point_1F_impl_pointOrder_uG5 {α : Type} (G : Nat → Int → (List (Int × Int)) → Int → Int → Int → Int → (Int → (List (Int × Int)) → Int → Int → Int → Int → Option α) → (Int → Int → Option α) → Option α) (n : Nat) (p : List P1) (brk : Nat → List P1 → Option α) (ret : Res → Option α) : Option α := match p with
  | [.int i, .rows .pt x1, .int x2, .int x3, .int m, .int m1] => G n i x1 x2 x3 m m1 (fun i x1 x2 x3 m m1 => brk 0 [.int i, .rows .pt x1, .int x2, .int x3, .int m, .int m1]) (fun v1 v2 => ret ⟨[.agg [.int .i64 v1, .int .i64 v2]], []⟩)
  | _ => none
def slices_MinFunc_impl_polygon_impl_Point_1F_impl_pointOrder_u5 {α : Type} (n : Nat) (p : List P1) (brk : Nat → List P1 → Option α) (ret : Res → Option α) : Option α := slices_MinFunc_impl_polygon_impl_Point_1F_impl_pointOrder_uG5 slices_MinFunc_impl_polygon_impl_Point_1F_impl_pointOrder_l5 n p brk ret
def slices_MinFunc_impl_polygon_impl_Point_1F_impl_pointOrder_lpsG {α : Type} (G5 : Nat → Int → (List (Int × Int)) → Int → Int → Int → Int → (Int → (List (Int × Int)) → Int → Int → Int → Int → Option α) → (Int → Int → Option α) → Option α) : List (LoopT α) := [⟨5, slices_MinFunc_impl_polygon_impl_Point_1F_impl_pointOrder_t5, slices_MinFunc_impl_polygon_impl_Point_1F_impl_pointOrder_uG5 G5⟩]
def slices_MinFunc_impl_polygon_impl_Point_1F_impl_pointOrder_lps {α : Type} : List (LoopT α) := slices_MinFunc_impl_polygon_impl_Point_1F_impl_pointOrder_lpsG slices_MinFunc_impl_polygon_impl_Point_1F_impl_pointOrder_l5
def slices_MinFunc_impl_polygon_impl_Point_1F_impl_pointOrder_jt : Nat → Option Tpl := jtOf []
def slices_MinFunc_impl_polygon_impl_Point_1F_impl_pointOrder_XG {α : Type} (F0 : T7 α) (G5 : Nat → Int → (List (Int × Int)) → Int → Int → Int → Int → (Int → (List (Int × Int)) → Int → Int → Int → Int → Option α) → (Int → Int → Option α) → Option α) (n : Nat) : Ctx α := ⟨slices_MinFunc_impl_polygon_impl_Point_1F_impl_pointOrder_CG F0 n, slices_MinFunc_impl_polygon_impl_Point_1F_impl_pointOrder_M, eqs, lpOf (slices_MinFunc_impl_polygon_impl_Point_1F_impl_pointOrder_lpsG G5) n, slices_MinFunc_impl_polygon_impl_Point_1F_impl_pointOrder_jt⟩
def slices_MinFunc_impl_polygon_impl_Point_1F_impl_pointOrder_X {α : Type} (n : Nat) : Ctx α := slices_MinFunc_impl_polygon_impl_Point_1F_impl_pointOrder_XG impl_pointOrder slices_MinFunc_impl_polygon_impl_Point_1F_impl_pointOrder_l5 n
def slices_MinFunc_impl_polygon_impl_Point_1F_impl_pointOrder_Lt (np : Nat) (lent : List (Bool × Nat × Blk)) : Prop := np = 2 ∧ lent = []
def slices_MinFunc_impl_polygon_impl_Point_1F_impl_pointOrder_lb5 {α : Type} (F0 : T7 α) (G5 : Nat → Int → (List (Int × Int)) → Int → Int → Int → Int → (Int → (List (Int × Int)) → Int → Int → Int → Int → Option α) → (Int → Int → Option α) → Option α) (k : Nat) (i : Int) (x1 : List (Int × Int)) (x2 : Int) (x3 : Int) (m : Int) (m1 : Int) (b0 : Int → (List (Int × Int)) → Int → Int → Int → Int → Option α) (r0 : Int → Int → Option α) : Option α :=
  bif decide (i < (((List.length x1) : Nat) : Int)) then
    bif (decide (0 ≤ i) && decide (i < (((List.length x1) : Nat) : Int))) then
      (x1[i.toNat]?).bind fun e_1 =>
      F0 k e_1.1 e_1.2 m m1 fun v =>
      bif decide (v < 0) then
        bif (decide (0 ≤ i) && decide (i < (((List.length x1) : Nat) : Int))) then
          (x1[i.toNat]?).bind fun e_2 =>
          G5 k (w64 (i + 1)) x1 x2 x3 e_2.1 e_2.2 b0 r0
        else
          none
      else
        G5 k (w64 (i + 1)) x1 x2 x3 m m1 b0 r0
    else
      none
  else
    b0 i x1 x2 x3 m m1
theorem slices_MinFunc_impl_polygon_impl_Point_1F_impl_pointOrder_l5_gen {α : Type} (F0 : T7 α) (G5 : Nat → Int → (List (Int × Int)) → Int → Int → Int → Int → (Int → (List (Int × Int)) → Int → Int → Int → Int → Option α) → (Int → Int → Option α) → Option α) (n : Nat) (i : Int) (x1 : List (Int × Int)) (x2 : Int) (x3 : Int) (m : Int) (m1 : Int) (brk : Nat → List P1 → Option α) (ret : Res → Option α) : ev ((slices_MinFunc_impl_polygon_impl_Point_1F_impl_pointOrder_XG F0 G5 n).env Try.prog Try.f25 2 []) (findLoop (loopsIn (Try.f25.body.getD .skip)) 5) ((slices_MinFunc_impl_polygon_impl_Point_1F_impl_pointOrder_t5.build [.int i, .rows .pt x1, .int x2, .int x3, .int m, .int m1]).getD ⟨[], []⟩) (roundK (2 * 64) slices_MinFunc_impl_polygon_impl_Point_1F_impl_pointOrder_t5 (fun q => slices_MinFunc_impl_polygon_impl_Point_1F_impl_pointOrder_uG5 G5 n q brk ret) brk ret) = slices_MinFunc_impl_polygon_impl_Point_1F_impl_pointOrder_lb5 F0 G5 n i x1 x2 x3 m m1 (fun i x1 x2 x3 m m1 => brk 0 [.int i, .rows .pt x1, .int x2, .int x3, .int m, .int m1]) (fun v1 v2 => ret ⟨[.agg [.int .i64 v1, .int .i64 v2]], []⟩) := by kernel_rfl
theorem slices_MinFunc_impl_polygon_impl_Point_1F_impl_pointOrder_l5_eq {α : Type} (k : Nat) (i : Int) (x1 : List (Int × Int)) (x2 : Int) (x3 : Int) (m : Int) (m1 : Int) (b0 : Int → (List (Int × Int)) → Int → Int → Int → Int → Option α) (r0 : Int → Int → Option α) : slices_MinFunc_impl_polygon_impl_Point_1F_impl_pointOrder_lb5 impl_pointOrder slices_MinFunc_impl_polygon_impl_Point_1F_impl_pointOrder_l5 k i x1 x2 x3 m m1 b0 r0 = slices_MinFunc_impl_polygon_impl_Point_1F_impl_pointOrder_l5 (k + 1) i x1 x2 x3 m m1 b0 r0 := (slices_MinFunc_impl_polygon_impl_Point_1F_impl_pointOrder_lb5.eq_1 impl_pointOrder slices_MinFunc_impl_polygon_impl_Point_1F_impl_pointOrder_l5 k i x1 x2 x3 m m1 b0 r0).trans (show slices_MinFunc_impl_polygon_impl_Point_1F_impl_pointOrder_l5 (k + 1) i x1 x2 x3 m m1 b0 r0 = _ from slices_MinFunc_impl_polygon_impl_Point_1F_impl_pointOrder_l5.eq_2 _ _ _ _ _ _ _ _ _ ).symm
theorem slices_MinFunc_impl_polygon_impl_Point_1F_impl_pointOrder_l5_rn {α : Type} (G : Nat → Int → (List (Int × Int)) → Int → Int → Int → Int → (Int → (List (Int × Int)) → Int → Int → Int → Int → Option α) → (Int → Int → Option α) → Option α) (n : Nat) (i : Int) (x1 : List (Int × Int)) (x2 : Int) (x3 : Int) (m : Int) (m1 : Int) (brk : Nat → List P1 → Option α) (ret : Res → Option α) : slices_MinFunc_impl_polygon_impl_Point_1F_impl_pointOrder_uG5 G n [.int i, .rows .pt x1, .int x2, .int x3, .int m, .int m1] brk ret = G n i x1 x2 x3 m m1 (fun i x1 x2 x3 m m1 => brk 0 [.int i, .rows .pt x1, .int x2, .int x3, .int m, .int m1]) (fun v1 v2 => ret ⟨[.agg [.int .i64 v1, .int .i64 v2]], []⟩) := rfl
theorem slices_MinFunc_impl_polygon_impl_Point_1F_impl_pointOrder_l5_ev {α : Type} (n : Nat) (i : Int) (x1 : List (Int × Int)) (x2 : Int) (x3 : Int) (m : Int) (m1 : Int) (brk : Nat → List P1 → Option α) (ret : Res → Option α) : ev ((slices_MinFunc_impl_polygon_impl_Point_1F_impl_pointOrder_X n).env Try.prog Try.f25 2 []) (findLoop (loopsIn (Try.f25.body.getD .skip)) 5) ((slices_MinFunc_impl_polygon_impl_Point_1F_impl_pointOrder_t5.build [.int i, .rows .pt x1, .int x2, .int x3, .int m, .int m1]).getD ⟨[], []⟩) (roundK (2 * 64) slices_MinFunc_impl_polygon_impl_Point_1F_impl_pointOrder_t5 (fun q => slices_MinFunc_impl_polygon_impl_Point_1F_impl_pointOrder_u5 n q brk ret) brk ret) = slices_MinFunc_impl_polygon_impl_Point_1F_impl_pointOrder_u5 (n + 1) [.int i, .rows .pt x1, .int x2, .int x3, .int m, .int m1] brk ret := (slices_MinFunc_impl_polygon_impl_Point_1F_impl_pointOrder_l5_gen impl_pointOrder slices_MinFunc_impl_polygon_impl_Point_1F_impl_pointOrder_l5 n i x1 x2 x3 m m1 brk ret).trans ((slices_MinFunc_impl_polygon_impl_Point_1F_impl_pointOrder_l5_eq n i x1 x2 x3 m m1 (fun i x1 x2 x3 m m1 => brk 0 [.int i, .rows .pt x1, .int x2, .int x3, .int m, .int m1]) (fun v1 v2 => ret ⟨[.agg [.int .i64 v1, .int .i64 v2]], []⟩)).trans ((slices_MinFunc_impl_polygon_impl_Point_1F_impl_pointOrder_u5.eq_1 (n + 1) [.int i, .rows .pt x1, .int x2, .int x3, .int m, .int m1] brk ret).trans (slices_MinFunc_impl_polygon_impl_Point_1F_impl_pointOrder_l5_rn slices_MinFunc_impl_polygon_impl_Point_1F_impl_pointOrder_l5 (n + 1) i x1 x2 x3 m m1 brk ret)).symm)
def slices_MinFunc_impl_polygon_impl_Point_1F_impl_pointOrder_body {α : Type} (F0 : T7 α) (G5 : Nat → Int → (List (Int × Int)) → Int → Int → Int → Int → (Int → (List (Int × Int)) → Int → Int → Int → Int → Option α) → (Int → Int → Option α) → Option α) (k : Nat) (x : List (Int × Int)) (r0 : Int → Int → Option α) : Option α :=
  bif decide ((((List.length x) : Nat) : Int) < 1) then
    none
  else
  bif (true && decide (0 < (((List.length x) : Nat) : Int))) then
    (x[0]?).bind fun e_ =>
    G5 k 1 x 0 0 e_.1 e_.2
      (fun _ _ _ _ m2 m3 =>
        r0 m2 m3)
      r0
  else
    none
theorem slices_MinFunc_impl_polygon_impl_Point_1F_impl_pointOrder_gen {α : Type} (F0 : T7 α) (G5 : Nat → Int → (List (Int × Int)) → Int → Int → Int → Int → (Int → (List (Int × Int)) → Int → Int → Int → Int → Option α) → (Int → Int → Option α) → Option α) (n : Nat) (x : List (Int × Int)) (κ : Res → Option α) : evFn Try.prog (slices_MinFunc_impl_polygon_impl_Point_1F_impl_pointOrder_XG F0 G5 n) Try.f25 (((buildDs slices_MinFunc_impl_polygon_impl_Point_1F_impl_pointOrder_sh [.rows .pt x]).map Prod.fst).getD []) κ = slices_MinFunc_impl_polygon_impl_Point_1F_impl_pointOrder_body F0 G5 n x (fun v1 v2 => κ ⟨[.agg [.int .i64 v1, .int .i64 v2]], []⟩) := by kernel_rfl
theorem slices_MinFunc_impl_polygon_impl_Point_1F_impl_pointOrder_eq {α : Type} (n : Nat) (x : List (Int × Int)) (r0 : Int → Int → Option α) : slices_MinFunc_impl_polygon_impl_Point_1F_impl_pointOrder_body (α := α) impl_pointOrder slices_MinFunc_impl_polygon_impl_Point_1F_impl_pointOrder_l5 n x r0 = slices_MinFunc_impl_polygon_impl_Point_1F_impl_pointOrder (α := α) n x r0 := (slices_MinFunc_impl_polygon_impl_Point_1F_impl_pointOrder_body.eq_1 impl_pointOrder slices_MinFunc_impl_polygon_impl_Point_1F_impl_pointOrder_l5 n x r0).trans (slices_MinFunc_impl_polygon_impl_Point_1F_impl_pointOrder.eq_1 n x r0).symm
theorem slices_MinFunc_impl_polygon_impl_Point_1F_impl_pointOrder_rn {α : Type} (F : T17 α) (n : Nat) (x : List (Int × Int)) (κ : Res → Option α) : slices_MinFunc_impl_polygon_impl_Point_1F_impl_pointOrder_runG F n [.rows .pt x] κ = F n x (fun v1 v2 => κ ⟨[.agg [.int .i64 v1, .int .i64 v2]], []⟩) := rfl
theorem slices_MinFunc_impl_polygon_impl_Point_1F_impl_pointOrder_ev {α : Type} (n : Nat) (x : List (Int × Int)) (κ : Res → Option α) : evFn Try.prog (slices_MinFunc_impl_polygon_impl_Point_1F_impl_pointOrder_X n) Try.f25 (((buildDs slices_MinFunc_impl_polygon_impl_Point_1F_impl_pointOrder_sh [.rows .pt x]).map Prod.fst).getD []) κ = slices_MinFunc_impl_polygon_impl_Point_1F_impl_pointOrder_run n [.rows .pt x] κ := (slices_MinFunc_impl_polygon_impl_Point_1F_impl_pointOrder_gen impl_pointOrder slices_MinFunc_impl_polygon_impl_Point_1F_impl_pointOrder_l5 n x κ).trans ((slices_MinFunc_impl_polygon_impl_Point_1F_impl_pointOrder_eq n x (fun v1 v2 => κ ⟨[.agg [.int .i64 v1, .int .i64 v2]], []⟩)).trans ((slices_MinFunc_impl_polygon_impl_Point_1F_impl_pointOrder_run.eq_1 n [.rows .pt x] κ).trans (slices_MinFunc_impl_polygon_impl_Point_1F_impl_pointOrder_rn slices_MinFunc_impl_polygon_impl_Point_1F_impl_pointOrder n x κ)).symm)
theorem slices_MinFunc_impl_polygon_impl_Point_1F_impl_pointOrder_en (x : List (Int × Int)) : (entry 0 (((buildDs slices_MinFunc_impl_polygon_impl_Point_1F_impl_pointOrder_sh [.rows .pt x]).map Prod.fst).getD [])).map (fun x => (x.1.length, x.2.lent)) = some (2, []) := by kernel_rfl
theorem slices_MinFunc_impl_polygon_impl_Point_1F_impl_pointOrder_good {α : Type} : ∀ n, GoodFn (α := α) Try.prog 25 (byShape slices_MinFunc_impl_polygon_impl_Point_1F_impl_pointOrder_sh (slices_MinFunc_impl_polygon_impl_Point_1F_impl_pointOrder_run n)) := by
  refine fn_good' Try.func25 (c := (Try.f25.body.getD .skip)) (by kernel_rfl) (by kernel_rfl) (by kernel_rfl) slices_MinFunc_impl_polygon_impl_Point_1F_impl_pointOrder_C slices_MinFunc_impl_polygon_impl_Point_1F_impl_pointOrder_M eqs slices_MinFunc_impl_polygon_impl_Point_1F_impl_pointOrder_lps slices_MinFunc_impl_polygon_impl_Point_1F_impl_pointOrder_jt (fun n => tabC_good (List.forall_mem_cons.2 ⟨(impl_pointOrder_good n), (fun _ h => absurd h List.not_mem_nil)⟩)) eqs_ok slices_MinFunc_impl_polygon_impl_Point_1F_impl_pointOrder_Lt ?_ ?_ slices_MinFunc_impl_polygon_impl_Point_1F_impl_pointOrder_sh slices_MinFunc_impl_polygon_impl_Point_1F_impl_pointOrder_run ?_
  · refine List.forall_mem_cons.2 ⟨?_, (fun _ h => absurd h List.not_mem_nil)⟩
    · intro p brk ret; show slices_MinFunc_impl_polygon_impl_Point_1F_impl_pointOrder_u5 0 p brk ret = none; unfold slices_MinFunc_impl_polygon_impl_Point_1F_impl_pointOrder_u5 slices_MinFunc_impl_polygon_impl_Point_1F_impl_pointOrder_uG5; split <;> rfl
  · refine List.forall_mem_cons.2 ⟨?_, (fun _ h => absurd h List.not_mem_nil)⟩
    · intro np lent hL n p brk ret st r hb hr
      obtain ⟨rfl, rfl⟩ := hL
      rw [← tpl_of hb]
      change slices_MinFunc_impl_polygon_impl_Point_1F_impl_pointOrder_u5 (n + 1) p brk ret = some r at hr
      have hr0 := hr
      unfold slices_MinFunc_impl_polygon_impl_Point_1F_impl_pointOrder_u5 slices_MinFunc_impl_polygon_impl_Point_1F_impl_pointOrder_uG5 at hr
      split at hr
      · exact (slices_MinFunc_impl_polygon_impl_Point_1F_impl_pointOrder_l5_ev n _ _ _ _ _ _ brk ret).trans hr0
      · cases hr
  · intro n p κ r ds hd hr
    have hr0 := hr
    unfold slices_MinFunc_impl_polygon_impl_Point_1F_impl_pointOrder_run slices_MinFunc_impl_polygon_impl_Point_1F_impl_pointOrder_runG at hr
    split at hr
    · rw [← ds_of hd]
      exact ⟨en_of (slices_MinFunc_impl_polygon_impl_Point_1F_impl_pointOrder_en _) ⟨rfl, rfl⟩, (slices_MinFunc_impl_polygon_impl_Point_1F_impl_pointOrder_ev n _ κ).trans hr0⟩
    · cases hr

/-! slices.Index[loop.example/g01297/impl.polygon,loop.example/g01297/impl.Point] -/
def slices_Index_impl_polygon_impl_Point_sh : List SkD := [.sl 34 .pt, .agg [.int .i64, .int .i64]]
def slices_Index_impl_polygon_impl_Point_runG {α : Type} (F : T18 α) (n : Nat) (p : List P1) (κ : Res → Option α) : Option α := match p with
  | [.rows .pt s, .int v, .int v1] => F n s v v1 (fun v1 => κ ⟨[.int .i64 v1], []⟩)
  | _ => none
def slices_Index_impl_polygon_impl_Point_run {α : Type} (n : Nat) (p : List P1) (κ : Res → Option α) : Option α := slices_Index_impl_polygon_impl_Point_runG slices_Index_impl_polygon_impl_Point n p κ
def slices_Index_impl_polygon_impl_Point_CG {α : Type}  (n : Nat) : FuncId → List D → (Res → Option α) → Option α := tabC []
def slices_Index_impl_polygon_impl_Point_C {α : Type} (n : Nat) : FuncId → List D → (Res → Option α) → Option α := slices_Index_impl_polygon_impl_Point_CG n
def slices_Index_impl_polygon_impl_Point_M : FuncId → List Nat := tabM []
def slices_Index_impl_polygon_impl_Point_t2 : Tpl := ⟨[.sl 0, .any, .any, .ptr 192 0 0, .any, .any, .any, .int .i64, .int .i64, .any, .any, .any, .any, .any, .any, .any, .any, .any, .any], [(0, .rows 0 34 .pt), (192, .ints 2 34 .i64 2)], []⟩
def slices_Index_impl_polygon_impl_Point_uG2 {α : Type} (G : Nat → Int → Int → (List (Int × Int)) → Int → Int → (Int → Int → (List (Int × Int)) → Int → Int → Option α) → (Int → Option α) → Option α) (n : Nat) (p : List P1) (brk : Nat → List P1 → Option α) (ret : Res → Option α) : Option α := match p with
  | [.int x, .int x1, .rows .pt s1, .int v2, .int v3] => G n x x1 s1 v2 v3 (fun x x1 s1 v2 v3 => brk 0 [.int x, .int x1, .rows .pt s1, .int v2, .int v3]) (fun v1 => ret ⟨[.int .i64 v1], []⟩)
  | _ => none
def slices_Index_impl_polygon_impl_Point_u2 {α : Type} (n : Nat) (p : List P1) (brk : Nat → List P1 → Option α) (ret : Res → Option α) : Option α := slices_Index_impl_polygon_impl_Point_uG2 slices_Index_impl_polygon_impl_Point_l2 n p brk ret
def slices_Index_impl_polygon_impl_Point_lpsG {α : Type} (G2 : Nat → Int → Int → (List (Int × Int)) → Int → Int → (Int → Int → (List (Int × Int)) → Int → Int → Option α) → (Int → Option α) → Option α) : List (LoopT α) := [⟨2, slices_Index_impl_polygon_impl_Point_t2, slices_Index_impl_polygon_impl_Point_uG2 G2⟩]
def slices_Index_impl_polygon_impl_Point_lps {α : Type} : List (LoopT α) := slices_Index_impl_polygon_impl_Point_lpsG slices_Index_impl_polygon_impl_Point_l2
def slices_Index_impl_polygon_impl_Point_jt : Nat → Option Tpl := jtOf []
def slices_Index_impl_polygon_impl_Point_XG {α : Type}  (G2 : Nat → Int → Int → (List (Int × Int)) → Int → Int → (Int → Int → (List (Int × Int)) → Int → Int → Option α) → (Int → Option α) → Option α) (n : Nat) : Ctx α := ⟨slices_Index_impl_polygon_impl_Point_CG n, slices_Index_impl_polygon_impl_Point_M, eqs, lpOf (slices_Index_impl_polygon_impl_Point_lpsG G2) n, slices_Index_impl_polygon_impl_Point_jt⟩
def slices_Index_impl_polygon_impl_Point_X {α : Type} (n : Nat) : Ctx α := slices_Index_impl_polygon_impl_Point_XG slices_Index_impl_polygon_impl_Point_l2 n
def slices_Index_impl_polygon_impl_Point_Lt (np : Nat) (lent : List (Bool × Nat × Blk)) : Prop := np = 2 ∧ lent = []
def slices_Index_impl_polygon_impl_Point_lb2 {α : Type}  (G2 : Nat → Int → Int → (List (Int × Int)) → Int → Int → (Int → Int → (List (Int × Int)) → Int → Int → Option α) → (Int → Option α) → Option α) (k : Nat) (x : Int) (x1 : Int) (s1 : List (Int × Int)) (v2 : Int) (v3 : Int) (b0 : Int → Int → (List (Int × Int)) → Int → Int → Option α) (r0 : Int → Option α) : Option α :=
  bif decide (x1 < x) then
    bif (decide (0 ≤ x1) && decide (x1 < (((List.length s1) : Nat) : Int))) then
      (s1[x1.toNat]?).bind fun e_ =>
      bif (decide (v2 = e_.1) && decide (v3 = e_.2)) then
        r0 x1
      else
        G2 k x (w64 (x1 + 1)) s1 v2 v3 b0 r0
    else
      none
  else
    b0 x x1 s1 v2 v3
theorem slices_Index_impl_polygon_impl_Point_l2_gen {α : Type}  (G2 : Nat → Int → Int → (List (Int × Int)) → Int → Int → (Int → Int → (List (Int × Int)) → Int → Int → Option α) → (Int → Option α) → Option α) (n : Nat) (x : Int) (x1 : Int) (s1 : List (Int × Int)) (v2 : Int) (v3 : Int) (brk : Nat → List P1 → Option α) (ret : Res → Option α) : ev ((slices_Index_impl_polygon_impl_Point_XG G2 n).env Try.prog Try.f24 2 []) (findLoop (loopsIn (Try.f24.body.getD .skip)) 2) ((slices_Index_impl_polygon_impl_Point_t2.build [.int x, .int x1, .rows .pt s1, .int v2, .int v3]).getD ⟨[], []⟩) (roundK (2 * 64) slices_Index_impl_polygon_impl_Point_t2 (fun q => slices_Index_impl_polygon_impl_Point_uG2 G2 n q brk ret) brk ret) = slices_Index_impl_polygon_impl_Point_lb2 G2 n x x1 s1 v2 v3 (fun x x1 s1 v2 v3 => brk 0 [.int x, .int x1, .rows .pt s1, .int v2, .int v3]) (fun v1 => ret ⟨[.int .i64 v1], []⟩) := by kernel_rfl
theorem slices_Index_impl_polygon_impl_Point_l2_eq {α : Type} (k : Nat) (x : Int) (x1 : Int) (s1 : List (Int × Int)) (v2 : Int) (v3 : Int) (b0 : Int → Int → (List (Int × Int)) → Int → Int → Option α) (r0 : Int → Option α) : slices_Index_impl_polygon_impl_Point_lb2 slices_Index_impl_polygon_impl_Point_l2 k x x1 s1 v2 v3 b0 r0 = slices_Index_impl_polygon_impl_Point_l2 (k + 1) x x1 s1 v2 v3 b0 r0 := (slices_Index_impl_polygon_impl_Point_lb2.eq_1 slices_Index_impl_polygon_impl_Point_l2 k x x1 s1 v2 v3 b0 r0).trans (show slices_Index_impl_polygon_impl_Point_l2 (k + 1) x x1 s1 v2 v3 b0 r0 = _ from slices_Index_impl_polygon_impl_Point_l2.eq_2 _ _ _ _ _ _ _ _ ).symm
theorem slices_Index_impl_polygon_impl_Point_l2_rn {α : Type} (G : Nat → Int → Int → (List (Int × Int)) → Int → Int → (Int → Int → (List (Int × Int)) → Int → Int → Option α) → (Int → Option α) → Option α) (n : Nat) (x : Int) (x1 : Int) (s1 : List (Int × Int)) (v2 : Int) (v3 : Int) (brk : Nat → List P1 → Option α) (ret : Res → Option α) : slices_Index_impl_polygon_impl_Point_uG2 G n [.int x, .int x1, .rows .pt s1, .int v2, .int v3] brk ret = G n x x1 s1 v2 v3 (fun x x1 s1 v2 v3 => brk 0 [.int x, .int x1, .rows .pt s1, .int v2, .int v3]) (fun v1 => ret ⟨[.int .i64 v1], []⟩) := rfl
theorem slices_Index_impl_polygon_impl_Point_l2_ev {α : Type} (n : Nat) (x : Int) (x1 : Int) (s1 : List (Int × Int)) (v2 : Int) (v3 : Int) (brk : Nat → List P1 → Option α) (ret : Res → Option α) : ev ((slices_Index_impl_polygon_impl_Point_X n).env Try.prog Try.f24 2 []) (findLoop (loopsIn (Try.f24.body.getD .skip)) 2) ((slices_Index_impl_polygon_impl_Point_t2.build [.int x, .int x1, .rows .pt s1, .int v2, .int v3]).getD ⟨[], []⟩) (roundK (2 * 64) slices_Index_impl_polygon_impl_Point_t2 (fun q => slices_Index_impl_polygon_impl_Point_u2 n q brk ret) brk ret) = slices_Index_impl_polygon_impl_Point_u2 (n + 1) [.int x, .int x1, .rows .pt s1, .int v2, .int v3] brk ret := (slices_Index_impl_polygon_impl_Point_l2_gen slices_Index_impl_polygon_impl_Point_l2 n x x1 s1 v2 v3 brk ret).trans ((slices_Index_impl_polygon_impl_Point_l2_eq n x x1 s1 v2 v3 (fun x x1 s1 v2 v3 => brk 0 [.int x, .int x1, .rows .pt s1, .int v2, .int v3]) (fun v1 => ret ⟨[.int .i64 v1], []⟩)).trans ((slices_Index_impl_polygon_impl_Point_u2.eq_1 (n + 1) [.int x, .int x1, .rows .pt s1, .int v2, .int v3] brk ret).trans (slices_Index_impl_polygon_impl_Point_l2_rn slices_Index_impl_polygon_impl_Point_l2 (n + 1) x x1 s1 v2 v3 brk ret)).symm)
def slices_Index_impl_polygon_impl_Point_body {α : Type}  (G2 : Nat → Int → Int → (List (Int × Int)) → Int → Int → (Int → Int → (List (Int × Int)) → Int → Int → Option α) → (Int → Option α) → Option α) (k : Nat) (s : List (Int × Int)) (v : Int) (v1 : Int) (r0 : Int → Option α) : Option α :=
  G2 k (((List.length s) : Nat) : Int) 0 s v v1
    (fun _ _ _ _ _ =>
      r0 (-1))
    r0
theorem slices_Index_impl_polygon_impl_Point_gen {α : Type}  (G2 : Nat → Int → Int → (List (Int × Int)) → Int → Int → (Int → Int → (List (Int × Int)) → Int → Int → Option α) → (Int → Option α) → Option α) (n : Nat) (s : List (Int × Int)) (v : Int) (v1 : Int) (κ : Res → Option α) : evFn Try.prog (slices_Index_impl_polygon_impl_Point_XG G2 n) Try.f24 (((buildDs slices_Index_impl_polygon_impl_Point_sh [.rows .pt s, .int v, .int v1]).map Prod.fst).getD []) κ = slices_Index_impl_polygon_impl_Point_body G2 n s v v1 (fun v1 => κ ⟨[.int .i64 v1], []⟩) := by kernel_rfl
theorem slices_Index_impl_polygon_impl_Point_eq {α : Type} (n : Nat) (s : List (Int × Int)) (v : Int) (v1 : Int) (r0 : Int → Option α) : slices_Index_impl_polygon_impl_Point_body (α := α) slices_Index_impl_polygon_impl_Point_l2 n s v v1 r0 = slices_Index_impl_polygon_impl_Point (α := α) n s v v1 r0 := (slices_Index_impl_polygon_impl_Point_body.eq_1 slices_Index_impl_polygon_impl_Point_l2 n s v v1 r0).trans (slices_Index_impl_polygon_impl_Point.eq_1 n s v v1 r0).symm
theorem slices_Index_impl_polygon_impl_Point_rn {α : Type} (F : T18 α) (n : Nat) (s : List (Int × Int)) (v : Int) (v1 : Int) (κ : Res → Option α) : slices_Index_impl_polygon_impl_Point_runG F n [.rows .pt s, .int v, .int v1] κ = F n s v v1 (fun v1 => κ ⟨[.int .i64 v1], []⟩) := rfl
theorem slices_Index_impl_polygon_impl_Point_ev {α : Type} (n : Nat) (s : List (Int × Int)) (v : Int) (v1 : Int) (κ : Res → Option α) : evFn Try.prog (slices_Index_impl_polygon_impl_Point_X n) Try.f24 (((buildDs slices_Index_impl_polygon_impl_Point_sh [.rows .pt s, .int v, .int v1]).map Prod.fst).getD []) κ = slices_Index_impl_polygon_impl_Point_run n [.rows .pt s, .int v, .int v1] κ := (slices_Index_impl_polygon_impl_Point_gen slices_Index_impl_polygon_impl_Point_l2 n s v v1 κ).trans ((slices_Index_impl_polygon_impl_Point_eq n s v v1 (fun v1 => κ ⟨[.int .i64 v1], []⟩)).trans ((slices_Index_impl_polygon_impl_Point_run.eq_1 n [.rows .pt s, .int v, .int v1] κ).trans (slices_Index_impl_polygon_impl_Point_rn slices_Index_impl_polygon_impl_Point n s v v1 κ)).symm)
theorem slices_Index_impl_polygon_impl_Point_en (s : List (Int × Int)) (v : Int) (v1 : Int) : (entry 0 (((buildDs slices_Index_impl_polygon_impl_Point_sh [.rows .pt s, .int v, .int v1]).map Prod.fst).getD [])).map (fun x => (x.1.length, x.2.lent)) = some (2, []) := by kernel_rfl
theorem slices_Index_impl_polygon_impl_Point_good {α : Type} : ∀ n, GoodFn (α := α) Try.prog 24 (byShape slices_Index_impl_polygon_impl_Point_sh (slices_Index_impl_polygon_impl_Point_run n)) := by
  refine fn_good' Try.func24 (c := (Try.f24.body.getD .skip)) (by kernel_rfl) (by kernel_rfl) (by kernel_rfl) slices_Index_impl_polygon_impl_Point_C slices_Index_impl_polygon_impl_Point_M eqs slices_Index_impl_polygon_impl_Point_lps slices_Index_impl_polygon_impl_Point_jt (fun n => tabC_good (fun _ h => absurd h List.not_mem_nil)) eqs_ok slices_Index_impl_polygon_impl_Point_Lt ?_ ?_ slices_Index_impl_polygon_impl_Point_sh slices_Index_impl_polygon_impl_Point_run ?_
  · refine List.forall_mem_cons.2 ⟨?_, (fun _ h => absurd h List.not_mem_nil)⟩
    · intro p brk ret; show slices_Index_impl_polygon_impl_Point_u2 0 p brk ret = none; unfold slices_Index_impl_polygon_impl_Point_u2 slices_Index_impl_polygon_impl_Point_uG2; split <;> rfl
  · refine List.forall_mem_cons.2 ⟨?_, (fun _ h => absurd h List.not_mem_nil)⟩
    · intro np lent hL n p brk ret st r hb hr
      obtain ⟨rfl, rfl⟩ := hL
      rw [← tpl_of hb]
      change slices_Index_impl_polygon_impl_Point_u2 (n + 1) p brk ret = some r at hr
      have hr0 := hr
      unfold slices_Index_impl_polygon_impl_Point_u2 slices_Index_impl_polygon_impl_Point_uG2 at hr
      split at hr
      · exact (slices_Index_impl_polygon_impl_Point_l2_ev n _ _ _ _ _ brk ret).trans hr0
      · cases hr
  · intro n p κ r ds hd hr
    have hr0 := hr
    unfold slices_Index_impl_polygon_impl_Point_run slices_Index_impl_polygon_impl_Point_runG at hr
    split at hr
    · rw [← ds_of hd]
      exact ⟨en_of (slices_Index_impl_polygon_impl_Point_en _ _ _) ⟨rfl, rfl⟩, (slices_Index_impl_polygon_impl_Point_ev n _ _ _ κ).trans hr0⟩
    · cases hr

/-! slices.Grow[loop.example/g01297/impl.polygon,loop.example/g01297/impl.Point] -/
def slices_Grow_impl_polygon_impl_Point_0N_sh : List SkD := [.nilsl, .int .i64]
def slices_Grow_impl_polygon_impl_Point_0N_runG {α : Type} (F : T19 α) (n : Nat) (p : List P1) (κ : Res → Option α) : Option α := match p with
  | [.int n_] => F n n_ (fun v1 => κ ⟨[.sl 34 .pt v1], []⟩) (κ ⟨[.nilsl], []⟩)
  | _ => none
def slices_Grow_impl_polygon_impl_Point_0N_run {α : Type} (n : Nat) (p : List P1) (κ : Res → Option α) : Option α := slices_Grow_impl_polygon_impl_Point_0N_runG slices_Grow_impl_polygon_impl_Point_0N n p κ
def slices_Grow_impl_polygon_impl_Point_0N_CG {α : Type}  (n : Nat) : FuncId → List D → (Res → Option α) → Option α := tabC []
def slices_Grow_impl_polygon_impl_Point_0N_C {α : Type} (n : Nat) : FuncId → List D → (Res → Option α) → Option α := slices_Grow_impl_polygon_impl_Point_0N_CG n
def slices_Grow_impl_polygon_impl_Point_0N_M : FuncId → List Nat := tabM []
def slices_Grow_impl_polygon_impl_Point_0N_lpsG {α : Type}  : List (LoopT α) := []
def slices_Grow_impl_polygon_impl_Point_0N_lps {α : Type} : List (LoopT α) := slices_Grow_impl_polygon_impl_Point_0N_lpsG
def slices_Grow_impl_polygon_impl_Point_0N_jt : Nat → Option Tpl := jtOf []
def slices_Grow_impl_polygon_impl_Point_0N_XG {α : Type}   (n : Nat) : Ctx α := ⟨slices_Grow_impl_polygon_impl_Point_0N_CG n, slices_Grow_impl_polygon_impl_Point_0N_M, eqs, lpOf (slices_Grow_impl_polygon_impl_Point_0N_lpsG) n, slices_Grow_impl_polygon_impl_Point_0N_jt⟩
def slices_Grow_impl_polygon_impl_Point_0N_X {α : Type} (n : Nat) : Ctx α := slices_Grow_impl_polygon_impl_Point_0N_XG n
def slices_Grow_impl_polygon_impl_Point_0N_Lt (np : Nat) (lent : List (Bool × Nat × Blk)) : Prop := np = 2 ∧ lent = []
def slices_Grow_impl_polygon_impl_Point_0N_body {α : Type}   (k : Nat) (n_ : Int) (r0 : (List (Int × Int)) → Option α) (r1 : Option α) : Option α :=
  bif decide (n_ < 0) then
    none
  else
  bif decide (0 < (w64 (n_ - 0))) then
    bif (decide (1 ≤ (w64 (n_ - 0))) && decide ((w64 (n_ - 0)) ≤ (big : Int))) then
      bif (true && decide (0 ≤ (((List.length (List.replicate ((w64 (n_ - 0)).toNat) (0, 0))) : Nat) : Int))) then
        r0 (List.take 0 (List.replicate ((w64 (n_ - 0)).toNat) (0, 0)))
      else
        none
    else
      none
  else
    r1
theorem slices_Grow_impl_polygon_impl_Point_0N_gen {α : Type}   (n : Nat) (n_ : Int) (κ : Res → Option α) : evFn Try.prog (slices_Grow_impl_polygon_impl_Point_0N_XG n) Try.f38 (((buildDs slices_Grow_impl_polygon_impl_Point_0N_sh [.int n_]).map Prod.fst).getD []) κ = slices_Grow_impl_polygon_impl_Point_0N_body n n_ (fun v1 => κ ⟨[.sl 34 .pt v1], []⟩) (κ ⟨[.nilsl], []⟩) := by kernel_rfl
theorem slices_Grow_impl_polygon_impl_Point_0N_eq {α : Type} (n : Nat) (n_ : Int) (r0 : (List (Int × Int)) → Option α) (r1 : Option α) : slices_Grow_impl_polygon_impl_Point_0N_body (α := α) n n_ r0 r1 = slices_Grow_impl_polygon_impl_Point_0N (α := α) n n_ r0 r1 := (slices_Grow_impl_polygon_impl_Point_0N_body.eq_1 n n_ r0 r1).trans (slices_Grow_impl_polygon_impl_Point_0N.eq_1 n n_ r0 r1).symm
theorem slices_Grow_impl_polygon_impl_Point_0N_rn {α : Type} (F : T19 α) (n : Nat) (n_ : Int) (κ : Res → Option α) : slices_Grow_impl_polygon_impl_Point_0N_runG F n [.int n_] κ = F n n_ (fun v1 => κ ⟨[.sl 34 .pt v1], []⟩) (κ ⟨[.nilsl], []⟩) := rfl
theorem slices_Grow_impl_polygon_impl_Point_0N_ev {α : Type} (n : Nat) (n_ : Int) (κ : Res → Option α) : evFn Try.prog (slices_Grow_impl_polygon_impl_Point_0N_X n) Try.f38 (((buildDs slices_Grow_impl_polygon_impl_Point_0N_sh [.int n_]).map Prod.fst).getD []) κ = slices_Grow_impl_polygon_impl_Point_0N_run n [.int n_] κ := (slices_Grow_impl_polygon_impl_Point_0N_gen n n_ κ).trans ((slices_Grow_impl_polygon_impl_Point_0N_eq n n_ (fun v1 => κ ⟨[.sl 34 .pt v1], []⟩) (κ ⟨[.nilsl], []⟩)).trans ((slices_Grow_impl_polygon_impl_Point_0N_run.eq_1 n [.int n_] κ).trans (slices_Grow_impl_polygon_impl_Point_0N_rn slices_Grow_impl_polygon_impl_Point_0N n n_ κ)).symm)
theorem slices_Grow_impl_polygon_impl_Point_0N_en (n_ : Int) : (entry 0 (((buildDs slices_Grow_impl_polygon_impl_Point_0N_sh [.int n_]).map Prod.fst).getD [])).map (fun x => (x.1.length, x.2.lent)) = some (2, []) := by kernel_rfl
theorem slices_Grow_impl_polygon_impl_Point_0N_good {α : Type} : ∀ n, GoodFn (α := α) Try.prog 38 (byShape slices_Grow_impl_polygon_impl_Point_0N_sh (slices_Grow_impl_polygon_impl_Point_0N_run n)) := by
  refine fn_good' Try.func38 (c := (Try.f38.body.getD .skip)) (by kernel_rfl) (by kernel_rfl) (by kernel_rfl) slices_Grow_impl_polygon_impl_Point_0N_C slices_Grow_impl_polygon_impl_Point_0N_M eqs slices_Grow_impl_polygon_impl_Point_0N_lps slices_Grow_impl_polygon_impl_Point_0N_jt (fun n => tabC_good (fun _ h => absurd h List.not_mem_nil)) eqs_ok slices_Grow_impl_polygon_impl_Point_0N_Lt ?_ ?_ slices_Grow_impl_polygon_impl_Point_0N_sh slices_Grow_impl_polygon_impl_Point_0N_run ?_
  · exact (fun _ h => absurd h List.not_mem_nil)
  · exact (fun _ h => absurd h List.not_mem_nil)
  · intro n p κ r ds hd hr
    have hr0 := hr
    unfold slices_Grow_impl_polygon_impl_Point_0N_run slices_Grow_impl_polygon_impl_Point_0N_runG at hr
    split at hr
    · rw [← ds_of hd]
      exact ⟨en_of (slices_Grow_impl_polygon_impl_Point_0N_en _) ⟨rfl, rfl⟩, (slices_Grow_impl_polygon_impl_Point_0N_ev n _ κ).trans hr0⟩
    · cases hr

/-! slices.Concat[loop.example/g01297/impl.polygon,loop.example/g01297/impl.Point] -/
def slices_Concat_impl_polygon_impl_Point_0M2_sh : List SkD := [.slm 37 [.sl 34 .pt, .sl 34 .pt]]
def slices_Concat_impl_polygon_impl_Point_0M2_runG {α : Type} (F : T20 α) (n : Nat) (p : List P1) (κ : Res → Option α) : Option α := match p with
  | [.rows .pt slices, .rows .pt slices1] => F n slices slices1 (fun v1 => κ ⟨[.sl 34 .pt v1], []⟩)
  | _ => none
def slices_Concat_impl_polygon_impl_Point_0M2_run {α : Type} (n : Nat) (p : List P1) (κ : Res → Option α) : Option α := slices_Concat_impl_polygon_impl_Point_0M2_runG slices_Concat_impl_polygon_impl_Point_0M2 n p κ
def slices_Concat_impl_polygon_impl_Point_0M2_CG {α : Type} (F0 : T19 α) (n : Nat) : FuncId → List D → (Res → Option α) → Option α := tabC [(38, (byShape slices_Grow_impl_polygon_impl_Point_0N_sh (slices_Grow_impl_polygon_impl_Point_0N_runG F0 n)))]
def slices_Concat_impl_polygon_impl_Point_0M2_C {α : Type} (n : Nat) : FuncId → List D → (Res → Option α) → Option α := slices_Concat_impl_polygon_impl_Point_0M2_CG slices_Grow_impl_polygon_impl_Point_0N n
def slices_Concat_impl_polygon_impl_Point_0M2_M : FuncId → List Nat := tabM []
def slices_Concat_impl_polygon_impl_Point_0M2_lpsG {α : Type}  : List (LoopT α) := []
def slices_Concat_impl_polygon_impl_Point_0M2_lps {α : Type} : List (LoopT α) := slices_Concat_impl_polygon_impl_Point_0M2_lpsG
def slices_Concat_impl_polygon_impl_Point_0M2_jt : Nat → Option Tpl := jtOf []
def slices_Concat_impl_polygon_impl_Point_0M2_XG {α : Type} (F0 : T19 α)  (n : Nat) : Ctx α := ⟨slices_Concat_impl_polygon_impl_Point_0M2_CG F0 n, slices_Concat_impl_polygon_impl_Point_0M2_M, eqs, lpOf (slices_Concat_impl_polygon_impl_Point_0M2_lpsG) n, slices_Concat_impl_polygon_impl_Point_0M2_jt⟩
def slices_Concat_impl_polygon_impl_Point_0M2_X {α : Type} (n : Nat) : Ctx α := slices_Concat_impl_polygon_impl_Point_0M2_XG slices_Grow_impl_polygon_impl_Point_0N n
def slices_Concat_impl_polygon_impl_Point_0M2_Lt (np : Nat) (lent : List (Bool × Nat × Blk)) : Prop := np = 1 ∧ lent = []
def slices_Concat_impl_polygon_impl_Point_0M2_body {α : Type} (F0 : T19 α)  (k : Nat) (slices : List (Int × Int)) (slices1 : List (Int × Int)) (r0 : (List (Int × Int)) → Option α) : Option α :=
  bif decide ((w64 (0 + (((List.length slices) : Nat) : Int))) < 0) then
    none
  else
  bif decide ((w64 ((w64 (0 + (((List.length slices) : Nat) : Int))) + (((List.length slices1) : Nat) : Int))) < 0) then
    none
  else
    F0 k (w64 ((w64 (0 + (((List.length slices) : Nat) : Int))) + (((List.length slices1) : Nat) : Int)))
      (fun v =>
        bif decide (((List.length v) + (List.length slices)) ≤ big) then
          bif decide (((List.length (v ++ slices)) + (List.length slices1)) ≤ big) then
            r0 ((v ++ slices) ++ slices1)
          else
            none
        else
          none)
      (
        bif decide ((List.length slices) ≤ big) then
          bif decide (((List.length slices) + (List.length slices1)) ≤ big) then
            r0 (slices ++ slices1)
          else
            none
        else
          none)
theorem slices_Concat_impl_polygon_impl_Point_0M2_gen {α : Type} (F0 : T19 α)  (n : Nat) (slices : List (Int × Int)) (slices1 : List (Int × Int)) (κ : Res → Option α) : evFn Try.prog (slices_Concat_impl_polygon_impl_Point_0M2_XG F0 n) Try.f27 (((buildDs slices_Concat_impl_polygon_impl_Point_0M2_sh [.rows .pt slices, .rows .pt slices1]).map Prod.fst).getD []) κ = slices_Concat_impl_polygon_impl_Point_0M2_body F0 n slices slices1 (fun v1 => κ ⟨[.sl 34 .pt v1], []⟩) := by kernel_rfl
theorem slices_Concat_impl_polygon_impl_Point_0M2_eq {α : Type} (n : Nat) (slices : List (Int × Int)) (slices1 : List (Int × Int)) (r0 : (List (Int × Int)) → Option α) : slices_Concat_impl_polygon_impl_Point_0M2_body (α := α) slices_Grow_impl_polygon_impl_Point_0N n slices slices1 r0 = slices_Concat_impl_polygon_impl_Point_0M2 (α := α) n slices slices1 r0 := (slices_Concat_impl_polygon_impl_Point_0M2_body.eq_1 slices_Grow_impl_polygon_impl_Point_0N n slices slices1 r0).trans (slices_Concat_impl_polygon_impl_Point_0M2.eq_1 n slices slices1 r0).symm
theorem slices_Concat_impl_polygon_impl_Point_0M2_rn {α : Type} (F : T20 α) (n : Nat) (slices : List (Int × Int)) (slices1 : List (Int × Int)) (κ : Res → Option α) : slices_Concat_impl_polygon_impl_Point_0M2_runG F n [.rows .pt slices, .rows .pt slices1] κ = F n slices slices1 (fun v1 => κ ⟨[.sl 34 .pt v1], []⟩) := rfl
theorem slices_Concat_impl_polygon_impl_Point_0M2_ev {α : Type} (n : Nat) (slices : List (Int × Int)) (slices1 : List (Int × Int)) (κ : Res → Option α) : evFn Try.prog (slices_Concat_impl_polygon_impl_Point_0M2_X n) Try.f27 (((buildDs slices_Concat_impl_polygon_impl_Point_0M2_sh [.rows .pt slices, .rows .pt slices1]).map Prod.fst).getD []) κ = slices_Concat_impl_polygon_impl_Point_0M2_run n [.rows .pt slices, .rows .pt slices1] κ := (slices_Concat_impl_polygon_impl_Point_0M2_gen slices_Grow_impl_polygon_impl_Point_0N n slices slices1 κ).trans ((slices_Concat_impl_polygon_impl_Point_0M2_eq n slices slices1 (fun v1 => κ ⟨[.sl 34 .pt v1], []⟩)).trans ((slices_Concat_impl_polygon_impl_Point_0M2_run.eq_1 n [.rows .pt slices, .rows .pt slices1] κ).trans (slices_Concat_impl_polygon_impl_Point_0M2_rn slices_Concat_impl_polygon_impl_Point_0M2 n slices slices1 κ)).symm)
theorem slices_Concat_impl_polygon_impl_Point_0M2_en (slices : List (Int × Int)) (slices1 : List (Int × Int)) : (entry 0 (((buildDs slices_Concat_impl_polygon_impl_Point_0M2_sh [.rows .pt slices, .rows .pt slices1]).map Prod.fst).getD [])).map (fun x => (x.1.length, x.2.lent)) = some (1, []) := by kernel_rfl
theorem slices_Concat_impl_polygon_impl_Point_0M2_good {α : Type} : ∀ n, GoodFn (α := α) Try.prog 27 (byShape slices_Concat_impl_polygon_impl_Point_0M2_sh (slices_Concat_impl_polygon_impl_Point_0M2_run n)) := by
  refine fn_good' Try.func27 (c := (Try.f27.body.getD .skip)) (by kernel_rfl) (by kernel_rfl) (by kernel_rfl) slices_Concat_impl_polygon_impl_Point_0M2_C slices_Concat_impl_polygon_impl_Point_0M2_M eqs slices_Concat_impl_polygon_impl_Point_0M2_lps slices_Concat_impl_polygon_impl_Point_0M2_jt (fun n => tabC_good (List.forall_mem_cons.2 ⟨(slices_Grow_impl_polygon_impl_Point_0N_good n), (fun _ h => absurd h List.not_mem_nil)⟩)) eqs_ok slices_Concat_impl_polygon_impl_Point_0M2_Lt ?_ ?_ slices_Concat_impl_polygon_impl_Point_0M2_sh slices_Concat_impl_polygon_impl_Point_0M2_run ?_
  · exact (fun _ h => absurd h List.not_mem_nil)
  · exact (fun _ h => absurd h List.not_mem_nil)
  · intro n p κ r ds hd hr
    have hr0 := hr
    unfold slices_Concat_impl_polygon_impl_Point_0M2_run slices_Concat_impl_polygon_impl_Point_0M2_runG at hr
    split at hr
    · rw [← ds_of hd]
      exact ⟨en_of (slices_Concat_impl_polygon_impl_Point_0M2_en _ _) ⟨rfl, rfl⟩, (slices_Concat_impl_polygon_impl_Point_0M2_ev n _ _ κ).trans hr0⟩
    · cases hr

/-! (loop.example/g01297/impl.polygon).ordered -/
def impl_polygon_ordered_sh : List SkD := [.sl 34 .pt]
def impl_polygon_ordered_runG {α : Type} (F : T2 α) (n : Nat) (p : List P1) (κ : Res → Option α) : Option α := match p with
  | [.rows .pt p_] => F n p_ (fun v1 => κ ⟨[.sl 34 .pt v1], []⟩)
  | _ => none
def impl_polygon_ordered_run {α : Type} (n : Nat) (p : List P1) (κ : Res → Option α) : Option α := impl_polygon_ordered_runG impl_polygon_ordered n p κ
def impl_polygon_ordered_CG {α : Type} (F0 : T17 α) (F1 : T18 α) (F2 : T20 α) (n : Nat) : FuncId → List D → (Res → Option α) → Option α := tabC [(25, (byShape slices_MinFunc_impl_polygon_impl_Point_1F_impl_pointOrder_sh (slices_MinFunc_impl_polygon_impl_Point_1F_impl_pointOrder_runG F0 n))), (24, (byShape slices_Index_impl_polygon_impl_Point_sh (slices_Index_impl_polygon_impl_Point_runG F1 n))), (27, (byShape slices_Concat_impl_polygon_impl_Point_0M2_sh (slices_Concat_impl_polygon_impl_Point_0M2_runG F2 n)))]
def impl_polygon_ordered_C {α : Type} (n : Nat) : FuncId → List D → (Res → Option α) → Option α := impl_polygon_ordered_CG slices_MinFunc_impl_polygon_impl_Point_1F_impl_pointOrder slices_Index_impl_polygon_impl_Point slices_Concat_impl_polygon_impl_Point_0M2 n
def impl_polygon_ordered_M : FuncId → List Nat := tabM []
def impl_polygon_ordered_lpsG {α : Type}  : List (LoopT α) := []
def impl_polygon_ordered_lps {α : Type} : List (LoopT α) := impl_polygon_ordered_lpsG
def impl_polygon_ordered_jt : Nat → Option Tpl := jtOf []
def impl_polygon_ordered_XG {α : Type} (F0 : T17 α) (F1 : T18 α) (F2 : T20 α)  (n : Nat) : Ctx α := ⟨impl_polygon_ordered_CG F0 F1 F2 n, impl_polygon_ordered_M, eqs, lpOf (impl_polygon_ordered_lpsG) n, impl_polygon_ordered_jt⟩
def impl_polygon_ordered_X {α : Type} (n : Nat) : Ctx α := impl_polygon_ordered_XG slices_MinFunc_impl_polygon_impl_Point_1F_impl_pointOrder slices_Index_impl_polygon_impl_Point slices_Concat_impl_polygon_impl_Point_0M2 n
def impl_polygon_ordered_Lt (np : Nat) (lent : List (Bool × Nat × Blk)) : Prop := np = 1 ∧ lent = []
def impl_polygon_ordered_body {α : Type} (F0 : T17 α) (F1 : T18 α) (F2 : T20 α)  (k : Nat) (p_ : List (Int × Int)) (r0 : (List (Int × Int)) → Option α) : Option α :=
  F0 k p_ fun v v1 =>
  F1 k p_ v v1 fun v2 =>
  bif (decide (0 ≤ v2) && decide (v2 ≤ (((List.length p_) : Nat) : Int))) then
    bif (decide (0 ≤ v2) && decide (v2 ≤ (((List.length p_) : Nat) : Int))) then
      F2 k (List.take ((List.length p_) - v2.toNat) (List.drop v2.toNat p_)) (List.take (v2.toNat - 0) (List.drop 0 p_)) fun v3 =>
      r0 v3
    else
      none
  else
    none
theorem impl_polygon_ordered_gen {α : Type} (F0 : T17 α) (F1 : T18 α) (F2 : T20 α)  (n : Nat) (p_ : List (Int × Int)) (κ : Res → Option α) : evFn Try.prog (impl_polygon_ordered_XG F0 F1 F2 n) Try.f15 (((buildDs impl_polygon_ordered_sh [.rows .pt p_]).map Prod.fst).getD []) κ = impl_polygon_ordered_body F0 F1 F2 n p_ (fun v1 => κ ⟨[.sl 34 .pt v1], []⟩) := by kernel_rfl
theorem impl_polygon_ordered_eq {α : Type} (n : Nat) (p_ : List (Int × Int)) (r0 : (List (Int × Int)) → Option α) : impl_polygon_ordered_body (α := α) slices_MinFunc_impl_polygon_impl_Point_1F_impl_pointOrder slices_Index_impl_polygon_impl_Point slices_Concat_impl_polygon_impl_Point_0M2 n p_ r0 = impl_polygon_ordered (α := α) n p_ r0 := (impl_polygon_ordered_body.eq_1 slices_MinFunc_impl_polygon_impl_Point_1F_impl_pointOrder slices_Index_impl_polygon_impl_Point slices_Concat_impl_polygon_impl_Point_0M2 n p_ r0).trans (impl_polygon_ordered.eq_1 n p_ r0).symm
theorem impl_polygon_ordered_rn {α : Type} (F : T2 α) (n : Nat) (p_ : List (Int × Int)) (κ : Res → Option α) : impl_polygon_ordered_runG F n [.rows .pt p_] κ = F n p_ (fun v1 => κ ⟨[.sl 34 .pt v1], []⟩) := rfl
theorem impl_polygon_ordered_ev {α : Type} (n : Nat) (p_ : List (Int × Int)) (κ : Res → Option α) : evFn Try.prog (impl_polygon_ordered_X n) Try.f15 (((buildDs impl_polygon_ordered_sh [.rows .pt p_]).map Prod.fst).getD []) κ = impl_polygon_ordered_run n [.rows .pt p_] κ := (impl_polygon_ordered_gen slices_MinFunc_impl_polygon_impl_Point_1F_impl_pointOrder slices_Index_impl_polygon_impl_Point slices_Concat_impl_polygon_impl_Point_0M2 n p_ κ).trans ((impl_polygon_ordered_eq n p_ (fun v1 => κ ⟨[.sl 34 .pt v1], []⟩)).trans ((impl_polygon_ordered_run.eq_1 n [.rows .pt p_] κ).trans (impl_polygon_ordered_rn impl_polygon_ordered n p_ κ)).symm)
theorem impl_polygon_ordered_en (p_ : List (Int × Int)) : (entry 0 (((buildDs impl_polygon_ordered_sh [.rows .pt p_]).map Prod.fst).getD [])).map (fun x => (x.1.length, x.2.lent)) = some (1, []) := by kernel_rfl
theorem impl_polygon_ordered_good {α : Type} : ∀ n, GoodFn (α := α) Try.prog 15 (byShape impl_polygon_ordered_sh (impl_polygon_ordered_run n)) := by
  refine fn_good' Try.func15 (c := (Try.f15.body.getD .skip)) (by kernel_rfl) (by kernel_rfl) (by kernel_rfl) impl_polygon_ordered_C impl_polygon_ordered_M eqs impl_polygon_ordered_lps impl_polygon_ordered_jt (fun n => tabC_good (List.forall_mem_cons.2 ⟨(slices_MinFunc_impl_polygon_impl_Point_1F_impl_pointOrder_good n), (List.forall_mem_cons.2 ⟨(slices_Index_impl_polygon_impl_Point_good n), (List.forall_mem_cons.2 ⟨(slices_Concat_impl_polygon_impl_Point_0M2_good n), (fun _ h => absurd h List.not_mem_nil)⟩)⟩)⟩)) eqs_ok impl_polygon_ordered_Lt ?_ ?_ impl_polygon_ordered_sh impl_polygon_ordered_run ?_
  · exact (fun _ h => absurd h List.not_mem_nil)
  · exact (fun _ h => absurd h List.not_mem_nil)
  · intro n p κ r ds hd hr
    have hr0 := hr
    unfold impl_polygon_ordered_run impl_polygon_ordered_runG at hr
    split at hr
    · rw [← ds_of hd]
      exact ⟨en_of (impl_polygon_ordered_en _) ⟨rfl, rfl⟩, (impl_polygon_ordered_ev n _ κ).trans hr0⟩
    · cases hr

/-! loop.example/g01297/impl.OrderPolygon -/
def impl_OrderPolygon_sh : List SkD := [.sl 34 .pt]
def impl_OrderPolygon_runG {α : Type} (F : T13 α) (n : Nat) (p : List P1) (κ : Res → Option α) : Option α := match p with
  | [.rows .pt list] => F n list (fun v1 => κ ⟨[.nilsl, .int .i64 v1], []⟩) (fun v1 v2 => κ ⟨[.sl 34 .pt v1, .int .i64 v2], []⟩)
  | _ => none
def impl_OrderPolygon_run {α : Type} (n : Nat) (p : List P1) (κ : Res → Option α) : Option α := impl_OrderPolygon_runG impl_OrderPolygon n p κ
def impl_OrderPolygon_CG {α : Type} (F0 : T10 α) (F1 : T2 α) (n : Nat) : FuncId → List D → (Res → Option α) → Option α := tabC [(14, (byShape impl_IsPolygon_sh (impl_IsPolygon_runG F0 n))), (15, (byShape impl_polygon_ordered_sh (impl_polygon_ordered_runG F1 n)))]
def impl_OrderPolygon_C {α : Type} (n : Nat) : FuncId → List D → (Res → Option α) → Option α := impl_OrderPolygon_CG impl_IsPolygon impl_polygon_ordered n
def impl_OrderPolygon_M : FuncId → List Nat := tabM []
def impl_OrderPolygon_lpsG {α : Type}  : List (LoopT α) := []
def impl_OrderPolygon_lps {α : Type} : List (LoopT α) := impl_OrderPolygon_lpsG
def impl_OrderPolygon_jt : Nat → Option Tpl := jtOf []
def impl_OrderPolygon_XG {α : Type} (F0 : T10 α) (F1 : T2 α)  (n : Nat) : Ctx α := ⟨impl_OrderPolygon_CG F0 F1 n, impl_OrderPolygon_M, eqs, lpOf (impl_OrderPolygon_lpsG) n, impl_OrderPolygon_jt⟩
def impl_OrderPolygon_X {α : Type} (n : Nat) : Ctx α := impl_OrderPolygon_XG impl_IsPolygon impl_polygon_ordered n
def impl_OrderPolygon_Lt (np : Nat) (lent : List (Bool × Nat × Blk)) : Prop := np = 1 ∧ lent = []
def impl_OrderPolygon_body {α : Type} (F0 : T10 α) (F1 : T2 α)  (k : Nat) (list : List (Int × Int)) (r0 : Int → Option α) (r1 : (List (Int × Int)) → Int → Option α) : Option α :=
  F0 k list fun v =>
  bif (!v) then
    r0 1
  else
    F1 k list fun v1 =>
    r1 v1 0
theorem impl_OrderPolygon_gen {α : Type} (F0 : T10 α) (F1 : T2 α)  (n : Nat) (list : List (Int × Int)) (κ : Res → Option α) : evFn Try.prog (impl_OrderPolygon_XG F0 F1 n) Try.f7 (((buildDs impl_OrderPolygon_sh [.rows .pt list]).map Prod.fst).getD []) κ = impl_OrderPolygon_body F0 F1 n list (fun v1 => κ ⟨[.nilsl, .int .i64 v1], []⟩) (fun v1 v2 => κ ⟨[.sl 34 .pt v1, .int .i64 v2], []⟩) := by kernel_rfl
theorem impl_OrderPolygon_eq {α : Type} (n : Nat) (list : List (Int × Int)) (r0 : Int → Option α) (r1 : (List (Int × Int)) → Int → Option α) : impl_OrderPolygon_body (α := α) impl_IsPolygon impl_polygon_ordered n list r0 r1 = impl_OrderPolygon (α := α) n list r0 r1 := (impl_OrderPolygon_body.eq_1 impl_IsPolygon impl_polygon_ordered n list r0 r1).trans (impl_OrderPolygon.eq_1 n list r0 r1).symm
theorem impl_OrderPolygon_rn {α : Type} (F : T13 α) (n : Nat) (list : List (Int × Int)) (κ : Res → Option α) : impl_OrderPolygon_runG F n [.rows .pt list] κ = F n list (fun v1 => κ ⟨[.nilsl, .int .i64 v1], []⟩) (fun v1 v2 => κ ⟨[.sl 34 .pt v1, .int .i64 v2], []⟩) := rfl
theorem impl_OrderPolygon_ev {α : Type} (n : Nat) (list : List (Int × Int)) (κ : Res → Option α) : evFn Try.prog (impl_OrderPolygon_X n) Try.f7 (((buildDs impl_OrderPolygon_sh [.rows .pt list]).map Prod.fst).getD []) κ = impl_OrderPolygon_run n [.rows .pt list] κ := (impl_OrderPolygon_gen impl_IsPolygon impl_polygon_ordered n list κ).trans ((impl_OrderPolygon_eq n list (fun v1 => κ ⟨[.nilsl, .int .i64 v1], []⟩) (fun v1 v2 => κ ⟨[.sl 34 .pt v1, .int .i64 v2], []⟩)).trans ((impl_OrderPolygon_run.eq_1 n [.rows .pt list] κ).trans (impl_OrderPolygon_rn impl_OrderPolygon n list κ)).symm)
theorem impl_OrderPolygon_en (list : List (Int × Int)) : (entry 0 (((buildDs impl_OrderPolygon_sh [.rows .pt list]).map Prod.fst).getD [])).map (fun x => (x.1.length, x.2.lent)) = some (1, []) := by kernel_rfl
theorem impl_OrderPolygon_good {α : Type} : ∀ n, GoodFn (α := α) Try.prog 7 (byShape impl_OrderPolygon_sh (impl_OrderPolygon_run n)) := by
  refine fn_good' Try.func7 (c := (Try.f7.body.getD .skip)) (by kernel_rfl) (by kernel_rfl) (by kernel_rfl) impl_OrderPolygon_C impl_OrderPolygon_M eqs impl_OrderPolygon_lps impl_OrderPolygon_jt (fun n => tabC_good (List.forall_mem_cons.2 ⟨(impl_IsPolygon_good n), (List.forall_mem_cons.2 ⟨(impl_polygon_ordered_good n), (fun _ h => absurd h List.not_mem_nil)⟩)⟩)) eqs_ok impl_OrderPolygon_Lt ?_ ?_ impl_OrderPolygon_sh impl_OrderPolygon_run ?_
  · exact (fun _ h => absurd h List.not_mem_nil)
  · exact (fun _ h => absurd h List.not_mem_nil)
  · intro n p κ r ds hd hr
    have hr0 := hr
    unfold impl_OrderPolygon_run impl_OrderPolygon_runG at hr
    split at hr
    · rw [← ds_of hd]
      exact ⟨en_of (impl_OrderPolygon_en _) ⟨rfl, rfl⟩, (impl_OrderPolygon_ev n _ κ).trans hr0⟩
    · cases hr

/-! loop.example/g01297/laws.eqPointS -/
def laws_eqPointS_0N_1N_sh : List SkD := [.nilsl, .nilsl]
def laws_eqPointS_0N_1N_runG {α : Type} (F : T21 α) (n : Nat) (p : List P1) (κ : Res → Option α) : Option α := match p with
  | [] => F n (fun v1 => κ ⟨[.bool v1], []⟩)
  | _ => none
def laws_eqPointS_0N_1N_run {α : Type} (n : Nat) (p : List P1) (κ : Res → Option α) : Option α := laws_eqPointS_0N_1N_runG laws_eqPointS_0N_1N n p κ
def laws_eqPointS_0N_1N_CG {α : Type}  (n : Nat) : FuncId → List D → (Res → Option α) → Option α := tabC []
def laws_eqPointS_0N_1N_C {α : Type} (n : Nat) : FuncId → List D → (Res → Option α) → Option α := laws_eqPointS_0N_1N_CG n
def laws_eqPointS_0N_1N_M : FuncId → List Nat := tabM []
def laws_eqPointS_0N_1N_lpsG {α : Type}  : List (LoopT α) := []
def laws_eqPointS_0N_1N_lps {α : Type} : List (LoopT α) := laws_eqPointS_0N_1N_lpsG
def laws_eqPointS_0N_1N_jt : Nat → Option Tpl := jtOf []
def laws_eqPointS_0N_1N_XG {α : Type}   (n : Nat) : Ctx α := ⟨laws_eqPointS_0N_1N_CG n, laws_eqPointS_0N_1N_M, eqs, lpOf (laws_eqPointS_0N_1N_lpsG) n, laws_eqPointS_0N_1N_jt⟩
def laws_eqPointS_0N_1N_X {α : Type} (n : Nat) : Ctx α := laws_eqPointS_0N_1N_XG n
def laws_eqPointS_0N_1N_Lt (np : Nat) (lent : List (Bool × Nat × Blk)) : Prop := np = 2 ∧ lent = []
def laws_eqPointS_0N_1N_body {α : Type}   (k : Nat)  (r0 : Bool → Option α) : Option α :=
  r0 true
theorem laws_eqPointS_0N_1N_gen {α : Type}   (n : Nat)  (κ : Res → Option α) : evFn Try.prog (laws_eqPointS_0N_1N_XG n) Try.f8 (((buildDs laws_eqPointS_0N_1N_sh []).map Prod.fst).getD []) κ = laws_eqPointS_0N_1N_body n (fun v1 => κ ⟨[.bool v1], []⟩) := by kernel_rfl
theorem laws_eqPointS_0N_1N_eq {α : Type} (n : Nat)  (r0 : Bool → Option α) : laws_eqPointS_0N_1N_body (α := α) n r0 = laws_eqPointS_0N_1N (α := α) n  r0 := (laws_eqPointS_0N_1N_body.eq_1 n r0).trans (laws_eqPointS_0N_1N.eq_1 n  r0).symm
theorem laws_eqPointS_0N_1N_rn {α : Type} (F : T21 α) (n : Nat)  (κ : Res → Option α) : laws_eqPointS_0N_1N_runG F n [] κ = F n  (fun v1 => κ ⟨[.bool v1], []⟩) := rfl
theorem laws_eqPointS_0N_1N_ev {α : Type} (n : Nat)  (κ : Res → Option α) : evFn Try.prog (laws_eqPointS_0N_1N_X n) Try.f8 (((buildDs laws_eqPointS_0N_1N_sh []).map Prod.fst).getD []) κ = laws_eqPointS_0N_1N_run n [] κ := (laws_eqPointS_0N_1N_gen n κ).trans ((laws_eqPointS_0N_1N_eq n  (fun v1 => κ ⟨[.bool v1], []⟩)).trans ((laws_eqPointS_0N_1N_run.eq_1 n [] κ).trans (laws_eqPointS_0N_1N_rn laws_eqPointS_0N_1N n  κ)).symm)
theorem laws_eqPointS_0N_1N_en  : (entry 0 (((buildDs laws_eqPointS_0N_1N_sh []).map Prod.fst).getD [])).map (fun x => (x.1.length, x.2.lent)) = some (2, []) := by kernel_rfl
theorem laws_eqPointS_0N_1N_good {α : Type} : ∀ n, GoodFn (α := α) Try.prog 8 (byShape laws_eqPointS_0N_1N_sh (laws_eqPointS_0N_1N_run n)) := by
  refine fn_good' Try.func8 (c := (Try.f8.body.getD .skip)) (by kernel_rfl) (by kernel_rfl) (by kernel_rfl) laws_eqPointS_0N_1N_C laws_eqPointS_0N_1N_M eqs laws_eqPointS_0N_1N_lps laws_eqPointS_0N_1N_jt (fun n => tabC_good (fun _ h => absurd h List.not_mem_nil)) eqs_ok laws_eqPointS_0N_1N_Lt ?_ ?_ laws_eqPointS_0N_1N_sh laws_eqPointS_0N_1N_run ?_
  · exact (fun _ h => absurd h List.not_mem_nil)
  · exact (fun _ h => absurd h List.not_mem_nil)
  · intro n p κ r ds hd hr
    have hr0 := hr
    unfold laws_eqPointS_0N_1N_run laws_eqPointS_0N_1N_runG at hr
    split at hr
    · rw [← ds_of hd]
      exact ⟨en_of (laws_eqPointS_0N_1N_en) ⟨rfl, rfl⟩, (laws_eqPointS_0N_1N_ev n κ).trans hr0⟩
    · cases hr

/-! loop.example/g01297/laws.eqPoint -/
def laws_eqPoint_sh : List SkD := [.agg [.int .i64, .int .i64], .agg [.int .i64, .int .i64]]
def laws_eqPoint_runG {α : Type} (F : T12 α) (n : Nat) (p : List P1) (κ : Res → Option α) : Option α := match p with
  | [.int a, .int a1, .int b_, .int b_1] => F n a a1 b_ b_1 (fun v1 => κ ⟨[.bool v1], []⟩)
  | _ => none
def laws_eqPoint_run {α : Type} (n : Nat) (p : List P1) (κ : Res → Option α) : Option α := laws_eqPoint_runG laws_eqPoint n p κ
def laws_eqPoint_CG {α : Type}  (n : Nat) : FuncId → List D → (Res → Option α) → Option α := tabC []
def laws_eqPoint_C {α : Type} (n : Nat) : FuncId → List D → (Res → Option α) → Option α := laws_eqPoint_CG n
def laws_eqPoint_M : FuncId → List Nat := tabM []
def laws_eqPoint_lpsG {α : Type}  : List (LoopT α) := []
def laws_eqPoint_lps {α : Type} : List (LoopT α) := laws_eqPoint_lpsG
def laws_eqPoint_jt : Nat → Option Tpl := jtOf []
def laws_eqPoint_XG {α : Type}   (n : Nat) : Ctx α := ⟨laws_eqPoint_CG n, laws_eqPoint_M, eqs, lpOf (laws_eqPoint_lpsG) n, laws_eqPoint_jt⟩
def laws_eqPoint_X {α : Type} (n : Nat) : Ctx α := laws_eqPoint_XG n
def laws_eqPoint_Lt (np : Nat) (lent : List (Bool × Nat × Blk)) : Prop := np = 2 ∧ lent = []
def laws_eqPoint_body {α : Type}   (k : Nat) (a : Int) (a1 : Int) (b_ : Int) (b_1 : Int) (r0 : Bool → Option α) : Option α :=
  bif (!decide (a = b_)) then
    r0 false
  else
  bif (!decide (a1 = b_1)) then
    r0 false
  else
    r0 true
theorem laws_eqPoint_gen {α : Type}   (n : Nat) (a : Int) (a1 : Int) (b_ : Int) (b_1 : Int) (κ : Res → Option α) : evFn Try.prog (laws_eqPoint_XG n) Try.f16 (((buildDs laws_eqPoint_sh [.int a, .int a1, .int b_, .int b_1]).map Prod.fst).getD []) κ = laws_eqPoint_body n a a1 b_ b_1 (fun v1 => κ ⟨[.bool v1], []⟩) := by kernel_rfl
theorem laws_eqPoint_eq {α : Type} (n : Nat) (a : Int) (a1 : Int) (b_ : Int) (b_1 : Int) (r0 : Bool → Option α) : laws_eqPoint_body (α := α) n a a1 b_ b_1 r0 = laws_eqPoint (α := α) n a a1 b_ b_1 r0 := (laws_eqPoint_body.eq_1 n a a1 b_ b_1 r0).trans (laws_eqPoint.eq_1 n a a1 b_ b_1 r0).symm
theorem laws_eqPoint_rn {α : Type} (F : T12 α) (n : Nat) (a : Int) (a1 : Int) (b_ : Int) (b_1 : Int) (κ : Res → Option α) : laws_eqPoint_runG F n [.int a, .int a1, .int b_, .int b_1] κ = F n a a1 b_ b_1 (fun v1 => κ ⟨[.bool v1], []⟩) := rfl
theorem laws_eqPoint_ev {α : Type} (n : Nat) (a : Int) (a1 : Int) (b_ : Int) (b_1 : Int) (κ : Res → Option α) : evFn Try.prog (laws_eqPoint_X n) Try.f16 (((buildDs laws_eqPoint_sh [.int a, .int a1, .int b_, .int b_1]).map Prod.fst).getD []) κ = laws_eqPoint_run n [.int a, .int a1, .int b_, .int b_1] κ := (laws_eqPoint_gen n a a1 b_ b_1 κ).trans ((laws_eqPoint_eq n a a1 b_ b_1 (fun v1 => κ ⟨[.bool v1], []⟩)).trans ((laws_eqPoint_run.eq_1 n [.int a, .int a1, .int b_, .int b_1] κ).trans (laws_eqPoint_rn laws_eqPoint n a a1 b_ b_1 κ)).symm)
theorem laws_eqPoint_en (a : Int) (a1 : Int) (b_ : Int) (b_1 : Int) : (entry 0 (((buildDs laws_eqPoint_sh [.int a, .int a1, .int b_, .int b_1]).map Prod.fst).getD [])).map (fun x => (x.1.length, x.2.lent)) = some (2, []) := by kernel_rfl
theorem laws_eqPoint_good {α : Type} : ∀ n, GoodFn (α := α) Try.prog 16 (byShape laws_eqPoint_sh (laws_eqPoint_run n)) := by
  refine fn_good' Try.func16 (c := (Try.f16.body.getD .skip)) (by kernel_rfl) (by kernel_rfl) (by kernel_rfl) laws_eqPoint_C laws_eqPoint_M eqs laws_eqPoint_lps laws_eqPoint_jt (fun n => tabC_good (fun _ h => absurd h List.not_mem_nil)) eqs_ok laws_eqPoint_Lt ?_ ?_ laws_eqPoint_sh laws_eqPoint_run ?_
  · exact (fun _ h => absurd h List.not_mem_nil)
  · exact (fun _ h => absurd h List.not_mem_nil)
  · intro n p κ r ds hd hr
    have hr0 := hr
    unfold laws_eqPoint_run laws_eqPoint_runG at hr
    split at hr
    · rw [← ds_of hd]
      exact ⟨en_of (laws_eqPoint_en _ _ _ _) ⟨rfl, rfl⟩, (laws_eqPoint_ev n _ _ _ _ κ).trans hr0⟩
    · cases hr

/-! loop.example/g01297/laws.eqPointS -/
def laws_eqPointS_sh : List SkD := [.sl 34 .pt, .sl 34 .pt]
def laws_eqPointS_runG {α : Type} (F : T22 α) (n : Nat) (p : List P1) (κ : Res → Option α) : Option α := match p with
  | [.rows .pt a, .rows .pt b_] => F n a b_ (fun v1 => κ ⟨[.bool v1], []⟩)
  | _ => none
def laws_eqPointS_run {α : Type} (n : Nat) (p : List P1) (κ : Res → Option α) : Option α := laws_eqPointS_runG laws_eqPointS n p κ
def laws_eqPointS_CG {α : Type} (F0 : T12 α) (n : Nat) : FuncId → List D → (Res → Option α) → Option α := tabC [(16, (byShape laws_eqPoint_sh (laws_eqPoint_runG F0 n)))]
def laws_eqPointS_C {α : Type} (n : Nat) : FuncId → List D → (Res → Option α) → Option α := laws_eqPointS_CG laws_eqPoint n
def laws_eqPointS_M : FuncId → List Nat := tabM []
def laws_eqPointS_t4 : Tpl := ⟨[.sl 0, .sl 64, .any, .any, .any, .int .i64, .any, .any, .any, .any, .any, .any, .any, .any, .any, .any, .any, .any, .any, .any, .any, .any, .any, .any, .any, .any, .any], [(0, .rows 0 34 .pt), (64, .rows 0 34 .pt)], []⟩
def laws_eqPointS_uG4 {α : Type} (G : Nat → Int → (List (Int × Int)) → (List (Int × Int)) → (Int → (List (Int × Int)) → (List (Int × Int)) → Option α) → (Bool → Option α) → Option α) (n : Nat) (p : List P1) (brk : Nat → List P1 → Option α) (ret : Res → Option α) : Option α := match p with
  | [.int i, .rows .pt a1, .rows .pt b_1] => G n i a1 b_1 (fun i a1 b_1 => brk 0 [.int i, .rows .pt a1, .rows .pt b_1]) (fun v1 => ret ⟨[.bool v1], []⟩)
  | _ => none
def laws_eqPointS_u4 {α : Type} (n : Nat) (p : List P1) (brk : Nat → List P1 → Option α) (ret : Res → Option α) : Option α := laws_eqPointS_uG4 laws_eqPointS_l4 n p brk ret
def laws_eqPointS_lpsG {α : Type} (G4 : Nat → Int → (List (Int × Int)) → (List (Int × Int)) → (Int → (List (Int × Int)) → (List (Int × Int)) → Option α) → (Bool → Option α) → Option α) : List (LoopT α) := [⟨4, laws_eqPointS_t4, laws_eqPointS_uG4 G4⟩]
def laws_eqPointS_lps {α : Type} : List (LoopT α) := laws_eqPointS_lpsG laws_eqPointS_l4
def laws_eqPointS_jt : Nat → Option Tpl := jtOf []
def laws_eqPointS_XG {α : Type} (F0 : T12 α) (G4 : Nat → Int → (List (Int × Int)) → (List (Int × Int)) → (Int → (List (Int × Int)) → (List (Int × Int)) → Option α) → (Bool → Option α) → Option α) (n : Nat) : Ctx α := ⟨laws_eqPointS_CG F0 n, laws_eqPointS_M, eqs, lpOf (laws_eqPointS_lpsG G4) n, laws_eqPointS_jt⟩
def laws_eqPointS_X {α : Type} (n : Nat) : Ctx α := laws_eqPointS_XG laws_eqPoint laws_eqPointS_l4 n
def laws_eqPointS_Lt (np : Nat) (lent : List (Bool × Nat × Blk)) : Prop := np = 2 ∧ lent = []
def laws_eqPointS_lb4 {α : Type} (F0 : T12 α) (G4 : Nat → Int → (List (Int × Int)) → (List (Int × Int)) → (Int → (List (Int × Int)) → (List (Int × Int)) → Option α) → (Bool → Option α) → Option α) (k : Nat) (i : Int) (a1 : List (Int × Int)) (b_1 : List (Int × Int)) (b0 : Int → (List (Int × Int)) → (List (Int × Int)) → Option α) (r0 : Bool → Option α) : Option α :=
  bif decide (i < (((List.length a1) : Nat) : Int)) then
    bif (decide (0 ≤ i) && decide (i < (((List.length a1) : Nat) : Int))) then
      (a1[i.toNat]?).bind fun e_ =>
      bif (decide (0 ≤ i) && decide (i < (((List.length b_1) : Nat) : Int))) then
        (b_1[i.toNat]?).bind fun e_1 =>
        F0 k e_.1 e_.2 e_1.1 e_1.2 fun v =>
        bif (!v) then
          r0 false
        else
          G4 k (w64 (i + 1)) a1 b_1 b0 r0
      else
        none
    else
      none
  else
    b0 i a1 b_1
theorem laws_eqPointS_l4_gen {α : Type} (F0 : T12 α) (G4 : Nat → Int → (List (Int × Int)) → (List (Int × Int)) → (Int → (List (Int × Int)) → (List (Int × Int)) → Option α) → (Bool → Option α) → Option α) (n : Nat) (i : Int) (a1 : List (Int × Int)) (b_1 : List (Int × Int)) (brk : Nat → List P1 → Option α) (ret : Res → Option α) : ev ((laws_eqPointS_XG F0 G4 n).env Try.prog Try.f8 2 []) (findLoop (loopsIn (Try.f8.body.getD .skip)) 4) ((laws_eqPointS_t4.build [.int i, .rows .pt a1, .rows .pt b_1]).getD ⟨[], []⟩) (roundK (2 * 64) laws_eqPointS_t4 (fun q => laws_eqPointS_uG4 G4 n q brk ret) brk ret) = laws_eqPointS_lb4 F0 G4 n i a1 b_1 (fun i a1 b_1 => brk 0 [.int i, .rows .pt a1, .rows .pt b_1]) (fun v1 => ret ⟨[.bool v1], []⟩) := by kernel_rfl
theorem laws_eqPointS_l4_eq {α : Type} (k : Nat) (i : Int) (a1 : List (Int × Int)) (b_1 : List (Int × Int)) (b0 : Int → (List (Int × Int)) → (List (Int × Int)) → Option α) (r0 : Bool → Option α) : laws_eqPointS_lb4 laws_eqPoint laws_eqPointS_l4 k i a1 b_1 b0 r0 = laws_eqPointS_l4 (k + 1) i a1 b_1 b0 r0 := (laws_eqPointS_lb4.eq_1 laws_eqPoint laws_eqPointS_l4 k i a1 b_1 b0 r0).trans (show laws_eqPointS_l4 (k + 1) i a1 b_1 b0 r0 = _ from laws_eqPointS_l4.eq_2 _ _ _ _ _ _ ).symm
theorem laws_eqPointS_l4_rn {α : Type} (G : Nat → Int → (List (Int × Int)) → (List (Int × Int)) → (Int → (List (Int × Int)) → (List (Int × Int)) → Option α) → (Bool → Option α) → Option α) (n : Nat) (i : Int) (a1 : List (Int × Int)) (b_1 : List (Int × Int)) (brk : Nat → List P1 → Option α) (ret : Res → Option α) : laws_eqPointS_uG4 G n [.int i, .rows .pt a1, .rows .pt b_1] brk ret = G n i a1 b_1 (fun i a1 b_1 => brk 0 [.int i, .rows .pt a1, .rows .pt b_1]) (fun v1 => ret ⟨[.bool v1], []⟩) := rfl
theorem laws_eqPointS_l4_ev {α : Type} (n : Nat) (i : Int) (a1 : List (Int × Int)) (b_1 : List (Int × Int)) (brk : Nat → List P1 → Option α) (ret : Res → Option α) : ev ((laws_eqPointS_X n).env Try.prog Try.f8 2 []) (findLoop (loopsIn (Try.f8.body.getD .skip)) 4) ((laws_eqPointS_t4.build [.int i, .rows .pt a1, .rows .pt b_1]).getD ⟨[], []⟩) (roundK (2 * 64) laws_eqPointS_t4 (fun q => laws_eqPointS_u4 n q brk ret) brk ret) = laws_eqPointS_u4 (n + 1) [.int i, .rows .pt a1, .rows .pt b_1] brk ret := (laws_eqPointS_l4_gen laws_eqPoint laws_eqPointS_l4 n i a1 b_1 brk ret).trans ((laws_eqPointS_l4_eq n i a1 b_1 (fun i a1 b_1 => brk 0 [.int i, .rows .pt a1, .rows .pt b_1]) (fun v1 => ret ⟨[.bool v1], []⟩)).trans ((laws_eqPointS_u4.eq_1 (n + 1) [.int i, .rows .pt a1, .rows .pt b_1] brk ret).trans (laws_eqPointS_l4_rn laws_eqPointS_l4 (n + 1) i a1 b_1 brk ret)).symm)
def laws_eqPointS_body {α : Type} (F0 : T12 α) (G4 : Nat → Int → (List (Int × Int)) → (List (Int × Int)) → (Int → (List (Int × Int)) → (List (Int × Int)) → Option α) → (Bool → Option α) → Option α) (k : Nat) (a : List (Int × Int)) (b_ : List (Int × Int)) (r0 : Bool → Option α) : Option α :=
  bif (!decide ((((List.length a) : Nat) : Int) = (((List.length b_) : Nat) : Int))) then
    r0 false
  else
    G4 k 0 a b_
      (fun _ _ _ =>
        r0 true)
      r0
theorem laws_eqPointS_gen {α : Type} (F0 : T12 α) (G4 : Nat → Int → (List (Int × Int)) → (List (Int × Int)) → (Int → (List (Int × Int)) → (List (Int × Int)) → Option α) → (Bool → Option α) → Option α) (n : Nat) (a : List (Int × Int)) (b_ : List (Int × Int)) (κ : Res → Option α) : evFn Try.prog (laws_eqPointS_XG F0 G4 n) Try.f8 (((buildDs laws_eqPointS_sh [.rows .pt a, .rows .pt b_]).map Prod.fst).getD []) κ = laws_eqPointS_body F0 G4 n a b_ (fun v1 => κ ⟨[.bool v1], []⟩) := by kernel_rfl
theorem laws_eqPointS_eq {α : Type} (n : Nat) (a : List (Int × Int)) (b_ : List (Int × Int)) (r0 : Bool → Option α) : laws_eqPointS_body (α := α) laws_eqPoint laws_eqPointS_l4 n a b_ r0 = laws_eqPointS (α := α) n a b_ r0 := (laws_eqPointS_body.eq_1 laws_eqPoint laws_eqPointS_l4 n a b_ r0).trans (laws_eqPointS.eq_1 n a b_ r0).symm
theorem laws_eqPointS_rn {α : Type} (F : T22 α) (n : Nat) (a : List (Int × Int)) (b_ : List (Int × Int)) (κ : Res → Option α) : laws_eqPointS_runG F n [.rows .pt a, .rows .pt b_] κ = F n a b_ (fun v1 => κ ⟨[.bool v1], []⟩) := rfl
theorem laws_eqPointS_ev {α : Type} (n : Nat) (a : List (Int × Int)) (b_ : List (Int × Int)) (κ : Res → Option α) : evFn Try.prog (laws_eqPointS_X n) Try.f8 (((buildDs laws_eqPointS_sh [.rows .pt a, .rows .pt b_]).map Prod.fst).getD []) κ = laws_eqPointS_run n [.rows .pt a, .rows .pt b_] κ := (laws_eqPointS_gen laws_eqPoint laws_eqPointS_l4 n a b_ κ).trans ((laws_eqPointS_eq n a b_ (fun v1 => κ ⟨[.bool v1], []⟩)).trans ((laws_eqPointS_run.eq_1 n [.rows .pt a, .rows .pt b_] κ).trans (laws_eqPointS_rn laws_eqPointS n a b_ κ)).symm)
theorem laws_eqPointS_en (a : List (Int × Int)) (b_ : List (Int × Int)) : (entry 0 (((buildDs laws_eqPointS_sh [.rows .pt a, .rows .pt b_]).map Prod.fst).getD [])).map (fun x => (x.1.length, x.2.lent)) = some (2, []) := by kernel_rfl
theorem laws_eqPointS_good {α : Type} : ∀ n, GoodFn (α := α) Try.prog 8 (byShape laws_eqPointS_sh (laws_eqPointS_run n)) := by
  refine fn_good' Try.func8 (c := (Try.f8.body.getD .skip)) (by kernel_rfl) (by kernel_rfl) (by kernel_rfl) laws_eqPointS_C laws_eqPointS_M eqs laws_eqPointS_lps laws_eqPointS_jt (fun n => tabC_good (List.forall_mem_cons.2 ⟨(laws_eqPoint_good n), (fun _ h => absurd h List.not_mem_nil)⟩)) eqs_ok laws_eqPointS_Lt ?_ ?_ laws_eqPointS_sh laws_eqPointS_run ?_
  · refine List.forall_mem_cons.2 ⟨?_, (fun _ h => absurd h List.not_mem_nil)⟩
    · intro p brk ret; show laws_eqPointS_u4 0 p brk ret = none; unfold laws_eqPointS_u4 laws_eqPointS_uG4; split <;> rfl
  · refine List.forall_mem_cons.2 ⟨?_, (fun _ h => absurd h List.not_mem_nil)⟩
    · intro np lent hL n p brk ret st r hb hr
      obtain ⟨rfl, rfl⟩ := hL
      rw [← tpl_of hb]
      change laws_eqPointS_u4 (n + 1) p brk ret = some r at hr
      have hr0 := hr
      unfold laws_eqPointS_u4 laws_eqPointS_uG4 at hr
      split at hr
      · exact (laws_eqPointS_l4_ev n _ _ _ brk ret).trans hr0
      · cases hr
  · intro n p κ r ds hd hr
    have hr0 := hr
    unfold laws_eqPointS_run laws_eqPointS_runG at hr
    split at hr
    · rw [← ds_of hd]
      exact ⟨en_of (laws_eqPointS_en _ _) ⟨rfl, rfl⟩, (laws_eqPointS_ev n _ _ κ).trans hr0⟩
    · cases hr

/-! loop.example/g01297/laws.markPointS -/
def laws_markPointS_sh : List SkD := [.msl 34 .pt, .int .i64]
def laws_markPointS_runG {α : Type} (F : T23 α) (n : Nat) (p : List P1) (κ : Res → Option α) : Option α := match p with
  | [.rows .pt a, .int k_] => F n a k_ (fun v1 v2 => κ ⟨[.int .i64 v1], [.sl 34 .pt v2]⟩)
  | _ => none
def laws_markPointS_run {α : Type} (n : Nat) (p : List P1) (κ : Res → Option α) : Option α := laws_markPointS_runG laws_markPointS n p κ
def laws_markPointS_CG {α : Type}  (n : Nat) : FuncId → List D → (Res → Option α) → Option α := tabC []
def laws_markPointS_C {α : Type} (n : Nat) : FuncId → List D → (Res → Option α) → Option α := laws_markPointS_CG n
def laws_markPointS_M : FuncId → List Nat := tabM []
def laws_markPointS_t2 : Tpl := ⟨[.sl 0, .int .i64, .any, .any, .any, .int .i64, .any, .any, .any, .any, .any, .any, .any, .any, .any, .any, .any, .any, .any, .any, .any, .any, .any, .any, .any, .any], [(0, .rows 1 34 .pt)], []⟩
def laws_markPointS_uG2 {α : Type} (G : Nat → Int → Int → (List (Int × Int)) → (Int → Int → (List (Int × Int)) → Option α) → (Int → (List (Int × Int)) → Option α) → Option α) (n : Nat) (p : List P1) (brk : Nat → List P1 → Option α) (ret : Res → Option α) : Option α := match p with
  | [.int k_1, .int i, .rows .pt a1] => G n k_1 i a1 (fun k_1 i a1 => brk 0 [.int k_1, .int i, .rows .pt a1]) (fun v1 v2 => ret ⟨[.int .i64 v1], [.sl 34 .pt v2]⟩)
  | _ => none
def laws_markPointS_u2 {α : Type} (n : Nat) (p : List P1) (brk : Nat → List P1 → Option α) (ret : Res → Option α) : Option α := laws_markPointS_uG2 laws_markPointS_l2 n p brk ret
def laws_markPointS_lpsG {α : Type} (G2 : Nat → Int → Int → (List (Int × Int)) → (Int → Int → (List (Int × Int)) → Option α) → (Int → (List (Int × Int)) → Option α) → Option α) : List (LoopT α) := [⟨2, laws_markPointS_t2, laws_markPointS_uG2 G2⟩]
def laws_markPointS_lps {α : Type} : List (LoopT α) := laws_markPointS_lpsG laws_markPointS_l2
def laws_markPointS_jt : Nat → Option Tpl := jtOf []
def laws_markPointS_XG {α : Type}  (G2 : Nat → Int → Int → (List (Int × Int)) → (Int → Int → (List (Int × Int)) → Option α) → (Int → (List (Int × Int)) → Option α) → Option α) (n : Nat) : Ctx α := ⟨laws_markPointS_CG n, laws_markPointS_M, eqs, lpOf (laws_markPointS_lpsG G2) n, laws_markPointS_jt⟩
def laws_markPointS_X {α : Type} (n : Nat) : Ctx α := laws_markPointS_XG laws_markPointS_l2 n
def laws_markPointS_Lt (np : Nat) (lent : List (Bool × Nat × Blk)) : Prop := np = 2 ∧ ∃ (a : List (Int × Int)), lent = [(true, 0, .rows 1 34 .pt a)]
def laws_markPointS_lb2 {α : Type}  (G2 : Nat → Int → Int → (List (Int × Int)) → (Int → Int → (List (Int × Int)) → Option α) → (Int → (List (Int × Int)) → Option α) → Option α) (k : Nat) (k_1 : Int) (i : Int) (a1 : List (Int × Int)) (b0 : Int → Int → (List (Int × Int)) → Option α) (r0 : Int → (List (Int × Int)) → Option α) : Option α :=
  bif decide (i < (((List.length a1) : Nat) : Int)) then
    bif (decide (0 ≤ i) && decide (i < (((List.length a1) : Nat) : Int))) then
      (a1[i.toNat]?).bind fun e_ =>
      bif (decide (0 ≤ i) && decide (i < (((List.length (List.set a1 i.toNat (k_1, e_.2))) : Nat) : Int))) then
        ((List.set a1 i.toNat (k_1, e_.2))[i.toNat]?).bind fun e_1 =>
        G2 k (w64 ((w64 (k_1 + 1)) + 1)) (w64 (i + 1)) (List.set (List.set a1 i.toNat (k_1, e_.2)) i.toNat (e_1.1, (w64 (k_1 + 1)))) b0 r0
      else
        none
    else
      none
  else
    b0 k_1 i a1
theorem laws_markPointS_l2_gen {α : Type}  (G2 : Nat → Int → Int → (List (Int × Int)) → (Int → Int → (List (Int × Int)) → Option α) → (Int → (List (Int × Int)) → Option α) → Option α) (n : Nat) (a_0 : List (Int × Int)) (k_1 : Int) (i : Int) (a1 : List (Int × Int)) (brk : Nat → List P1 → Option α) (ret : Res → Option α) : ev ((laws_markPointS_XG G2 n).env Try.prog Try.f9 2 [(true, 0, .rows 1 34 .pt a_0)]) (findLoop (loopsIn (Try.f9.body.getD .skip)) 2) ((laws_markPointS_t2.build [.int k_1, .int i, .rows .pt a1]).getD ⟨[], []⟩) (roundK (2 * 64) laws_markPointS_t2 (fun q => laws_markPointS_uG2 G2 n q brk ret) brk ret) = laws_markPointS_lb2 G2 n k_1 i a1 (fun k_1 i a1 => brk 0 [.int k_1, .int i, .rows .pt a1]) (fun v1 v2 => ret ⟨[.int .i64 v1], [.sl 34 .pt v2]⟩) := by kernel_rfl
theorem laws_markPointS_l2_eq {α : Type} (k : Nat) (k_1 : Int) (i : Int) (a1 : List (Int × Int)) (b0 : Int → Int → (List (Int × Int)) → Option α) (r0 : Int → (List (Int × Int)) → Option α) : laws_markPointS_lb2 laws_markPointS_l2 k k_1 i a1 b0 r0 = laws_markPointS_l2 (k + 1) k_1 i a1 b0 r0 := (laws_markPointS_lb2.eq_1 laws_markPointS_l2 k k_1 i a1 b0 r0).trans (show laws_markPointS_l2 (k + 1) k_1 i a1 b0 r0 = _ from laws_markPointS_l2.eq_2 _ _ _ _ _ _ ).symm
theorem laws_markPointS_l2_rn {α : Type} (G : Nat → Int → Int → (List (Int × Int)) → (Int → Int → (List (Int × Int)) → Option α) → (Int → (List (Int × Int)) → Option α) → Option α) (n : Nat) (k_1 : Int) (i : Int) (a1 : List (Int × Int)) (brk : Nat → List P1 → Option α) (ret : Res → Option α) : laws_markPointS_uG2 G n [.int k_1, .int i, .rows .pt a1] brk ret = G n k_1 i a1 (fun k_1 i a1 => brk 0 [.int k_1, .int i, .rows .pt a1]) (fun v1 v2 => ret ⟨[.int .i64 v1], [.sl 34 .pt v2]⟩) := rfl
theorem laws_markPointS_l2_ev {α : Type} (n : Nat) (a_0 : List (Int × Int)) (k_1 : Int) (i : Int) (a1 : List (Int × Int)) (brk : Nat → List P1 → Option α) (ret : Res → Option α) : ev ((laws_markPointS_X n).env Try.prog Try.f9 2 [(true, 0, .rows 1 34 .pt a_0)]) (findLoop (loopsIn (Try.f9.body.getD .skip)) 2) ((laws_markPointS_t2.build [.int k_1, .int i, .rows .pt a1]).getD ⟨[], []⟩) (roundK (2 * 64) laws_markPointS_t2 (fun q => laws_markPointS_u2 n q brk ret) brk ret) = laws_markPointS_u2 (n + 1) [.int k_1, .int i, .rows .pt a1] brk ret := (laws_markPointS_l2_gen laws_markPointS_l2 n a_0 k_1 i a1 brk ret).trans ((laws_markPointS_l2_eq n k_1 i a1 (fun k_1 i a1 => brk 0 [.int k_1, .int i, .rows .pt a1]) (fun v1 v2 => ret ⟨[.int .i64 v1], [.sl 34 .pt v2]⟩)).trans ((laws_markPointS_u2.eq_1 (n + 1) [.int k_1, .int i, .rows .pt a1] brk ret).trans (laws_markPointS_l2_rn laws_markPointS_l2 (n + 1) k_1 i a1 brk ret)).symm)
def laws_markPointS_body {α : Type}  (G2 : Nat → Int → Int → (List (Int × Int)) → (Int → Int → (List (Int × Int)) → Option α) → (Int → (List (Int × Int)) → Option α) → Option α) (k : Nat) (a : List (Int × Int)) (k_ : Int) (r0 : Int → (List (Int × Int)) → Option α) : Option α :=
  G2 k k_ 0 a
    (fun k_2 _ a2 =>
      r0 k_2 a2)
    r0
theorem laws_markPointS_gen {α : Type}  (G2 : Nat → Int → Int → (List (Int × Int)) → (Int → Int → (List (Int × Int)) → Option α) → (Int → (List (Int × Int)) → Option α) → Option α) (n : Nat) (a : List (Int × Int)) (k_ : Int) (κ : Res → Option α) : evFn Try.prog (laws_markPointS_XG G2 n) Try.f9 (((buildDs laws_markPointS_sh [.rows .pt a, .int k_]).map Prod.fst).getD []) κ = laws_markPointS_body G2 n a k_ (fun v1 v2 => κ ⟨[.int .i64 v1], [.sl 34 .pt v2]⟩) := by kernel_rfl
theorem laws_markPointS_eq {α : Type} (n : Nat) (a : List (Int × Int)) (k_ : Int) (r0 : Int → (List (Int × Int)) → Option α) : laws_markPointS_body (α := α) laws_markPointS_l2 n a k_ r0 = laws_markPointS (α := α) n a k_ r0 := (laws_markPointS_body.eq_1 laws_markPointS_l2 n a k_ r0).trans (laws_markPointS.eq_1 n a k_ r0).symm
theorem laws_markPointS_rn {α : Type} (F : T23 α) (n : Nat) (a : List (Int × Int)) (k_ : Int) (κ : Res → Option α) : laws_markPointS_runG F n [.rows .pt a, .int k_] κ = F n a k_ (fun v1 v2 => κ ⟨[.int .i64 v1], [.sl 34 .pt v2]⟩) := rfl
theorem laws_markPointS_ev {α : Type} (n : Nat) (a : List (Int × Int)) (k_ : Int) (κ : Res → Option α) : evFn Try.prog (laws_markPointS_X n) Try.f9 (((buildDs laws_markPointS_sh [.rows .pt a, .int k_]).map Prod.fst).getD []) κ = laws_markPointS_run n [.rows .pt a, .int k_] κ := (laws_markPointS_gen laws_markPointS_l2 n a k_ κ).trans ((laws_markPointS_eq n a k_ (fun v1 v2 => κ ⟨[.int .i64 v1], [.sl 34 .pt v2]⟩)).trans ((laws_markPointS_run.eq_1 n [.rows .pt a, .int k_] κ).trans (laws_markPointS_rn laws_markPointS n a k_ κ)).symm)
theorem laws_markPointS_en (a : List (Int × Int)) (k_ : Int) : (entry 0 (((buildDs laws_markPointS_sh [.rows .pt a, .int k_]).map Prod.fst).getD [])).map (fun x => (x.1.length, x.2.lent)) = some (2, [(true, 0, .rows 1 34 .pt a)]) := by kernel_rfl
theorem laws_markPointS_good {α : Type} : ∀ n, GoodFn (α := α) Try.prog 9 (byShape laws_markPointS_sh (laws_markPointS_run n)) := by
  refine fn_good' Try.func9 (c := (Try.f9.body.getD .skip)) (by kernel_rfl) (by kernel_rfl) (by kernel_rfl) laws_markPointS_C laws_markPointS_M eqs laws_markPointS_lps laws_markPointS_jt (fun n => tabC_good (fun _ h => absurd h List.not_mem_nil)) eqs_ok laws_markPointS_Lt ?_ ?_ laws_markPointS_sh laws_markPointS_run ?_
  · refine List.forall_mem_cons.2 ⟨?_, (fun _ h => absurd h List.not_mem_nil)⟩
    · intro p brk ret; show laws_markPointS_u2 0 p brk ret = none; unfold laws_markPointS_u2 laws_markPointS_uG2; split <;> rfl
  · refine List.forall_mem_cons.2 ⟨?_, (fun _ h => absurd h List.not_mem_nil)⟩
    · intro np lent hL n p brk ret st r hb hr
      obtain ⟨rfl, a_0, rfl⟩ := hL
      rw [← tpl_of hb]
      change laws_markPointS_u2 (n + 1) p brk ret = some r at hr
      have hr0 := hr
      unfold laws_markPointS_u2 laws_markPointS_uG2 at hr
      split at hr
      · exact (laws_markPointS_l2_ev n _ _ _ _ brk ret).trans hr0
      · cases hr
  · intro n p κ r ds hd hr
    have hr0 := hr
    unfold laws_markPointS_run laws_markPointS_runG at hr
    split at hr
    · rw [← ds_of hd]
      exact ⟨en_of (laws_markPointS_en _ _) ⟨rfl, _, rfl⟩, (laws_markPointS_ev n _ _ κ).trans hr0⟩
    · cases hr

/-! loop.example/g01297/laws.markPointS -/
def laws_markPointS_0N_sh : List SkD := [.nilsl, .int .i64]
def laws_markPointS_0N_runG {α : Type} (F : T24 α) (n : Nat) (p : List P1) (κ : Res → Option α) : Option α := match p with
  | [.int k_] => F n k_ (fun v1 => κ ⟨[.int .i64 v1], []⟩)
  | _ => none
def laws_markPointS_0N_run {α : Type} (n : Nat) (p : List P1) (κ : Res → Option α) : Option α := laws_markPointS_0N_runG laws_markPointS_0N n p κ
def laws_markPointS_0N_CG {α : Type}  (n : Nat) : FuncId → List D → (Res → Option α) → Option α := tabC []
def laws_markPointS_0N_C {α : Type} (n : Nat) : FuncId → List D → (Res → Option α) → Option α := laws_markPointS_0N_CG n
def laws_markPointS_0N_M : FuncId → List Nat := tabM []
def laws_markPointS_0N_lpsG {α : Type}  : List (LoopT α) := []
def laws_markPointS_0N_lps {α : Type} : List (LoopT α) := laws_markPointS_0N_lpsG
def laws_markPointS_0N_jt : Nat → Option Tpl := jtOf []
def laws_markPointS_0N_XG {α : Type}   (n : Nat) : Ctx α := ⟨laws_markPointS_0N_CG n, laws_markPointS_0N_M, eqs, lpOf (laws_markPointS_0N_lpsG) n, laws_markPointS_0N_jt⟩
def laws_markPointS_0N_X {α : Type} (n : Nat) : Ctx α := laws_markPointS_0N_XG n
def laws_markPointS_0N_Lt (np : Nat) (lent : List (Bool × Nat × Blk)) : Prop := np = 2 ∧ lent = []
def laws_markPointS_0N_body {α : Type}   (k : Nat) (k_ : Int) (r0 : Int → Option α) : Option α :=
  r0 k_
theorem laws_markPointS_0N_gen {α : Type}   (n : Nat) (k_ : Int) (κ : Res → Option α) : evFn Try.prog (laws_markPointS_0N_XG n) Try.f9 (((buildDs laws_markPointS_0N_sh [.int k_]).map Prod.fst).getD []) κ = laws_markPointS_0N_body n k_ (fun v1 => κ ⟨[.int .i64 v1], []⟩) := by kernel_rfl
theorem laws_markPointS_0N_eq {α : Type} (n : Nat) (k_ : Int) (r0 : Int → Option α) : laws_markPointS_0N_body (α := α) n k_ r0 = laws_markPointS_0N (α := α) n k_ r0 := (laws_markPointS_0N_body.eq_1 n k_ r0).trans (laws_markPointS_0N.eq_1 n k_ r0).symm
theorem laws_markPointS_0N_rn {α : Type} (F : T24 α) (n : Nat) (k_ : Int) (κ : Res → Option α) : laws_markPointS_0N_runG F n [.int k_] κ = F n k_ (fun v1 => κ ⟨[.int .i64 v1], []⟩) := rfl
theorem laws_markPointS_0N_ev {α : Type} (n : Nat) (k_ : Int) (κ : Res → Option α) : evFn Try.prog (laws_markPointS_0N_X n) Try.f9 (((buildDs laws_markPointS_0N_sh [.int k_]).map Prod.fst).getD []) κ = laws_markPointS_0N_run n [.int k_] κ := (laws_markPointS_0N_gen n k_ κ).trans ((laws_markPointS_0N_eq n k_ (fun v1 => κ ⟨[.int .i64 v1], []⟩)).trans ((laws_markPointS_0N_run.eq_1 n [.int k_] κ).trans (laws_markPointS_0N_rn laws_markPointS_0N n k_ κ)).symm)
theorem laws_markPointS_0N_en (k_ : Int) : (entry 0 (((buildDs laws_markPointS_0N_sh [.int k_]).map Prod.fst).getD [])).map (fun x => (x.1.length, x.2.lent)) = some (2, []) := by kernel_rfl
theorem laws_markPointS_0N_good {α : Type} : ∀ n, GoodFn (α := α) Try.prog 9 (byShape laws_markPointS_0N_sh (laws_markPointS_0N_run n)) := by
  refine fn_good' Try.func9 (c := (Try.f9.body.getD .skip)) (by kernel_rfl) (by kernel_rfl) (by kernel_rfl) laws_markPointS_0N_C laws_markPointS_0N_M eqs laws_markPointS_0N_lps laws_markPointS_0N_jt (fun n => tabC_good (fun _ h => absurd h List.not_mem_nil)) eqs_ok laws_markPointS_0N_Lt ?_ ?_ laws_markPointS_0N_sh laws_markPointS_0N_run ?_
  · exact (fun _ h => absurd h List.not_mem_nil)
  · exact (fun _ h => absurd h List.not_mem_nil)
  · intro n p κ r ds hd hr
    have hr0 := hr
    unfold laws_markPointS_0N_run laws_markPointS_0N_runG at hr
    split at hr
    · rw [← ds_of hd]
      exact ⟨en_of (laws_markPointS_0N_en _) ⟨rfl, rfl⟩, (laws_markPointS_0N_ev n _ κ).trans hr0⟩
    · cases hr

/-! loop.example/g01297/laws.heldPointS -/
def laws_heldPointS_0N_sh : List SkD := [.nilsl, .int .i64]
def laws_heldPointS_0N_runG {α : Type} (F : T24 α) (n : Nat) (p : List P1) (κ : Res → Option α) : Option α := match p with
  | [.int k_] => F n k_ (fun v1 => κ ⟨[.int .i64 v1], []⟩)
  | _ => none
def laws_heldPointS_0N_run {α : Type} (n : Nat) (p : List P1) (κ : Res → Option α) : Option α := laws_heldPointS_0N_runG laws_heldPointS_0N n p κ
def laws_heldPointS_0N_CG {α : Type}  (n : Nat) : FuncId → List D → (Res → Option α) → Option α := tabC []
def laws_heldPointS_0N_C {α : Type} (n : Nat) : FuncId → List D → (Res → Option α) → Option α := laws_heldPointS_0N_CG n
def laws_heldPointS_0N_M : FuncId → List Nat := tabM []
def laws_heldPointS_0N_lpsG {α : Type}  : List (LoopT α) := []
def laws_heldPointS_0N_lps {α : Type} : List (LoopT α) := laws_heldPointS_0N_lpsG
def laws_heldPointS_0N_jt : Nat → Option Tpl := jtOf []
def laws_heldPointS_0N_XG {α : Type}   (n : Nat) : Ctx α := ⟨laws_heldPointS_0N_CG n, laws_heldPointS_0N_M, eqs, lpOf (laws_heldPointS_0N_lpsG) n, laws_heldPointS_0N_jt⟩
def laws_heldPointS_0N_X {α : Type} (n : Nat) : Ctx α := laws_heldPointS_0N_XG n
def laws_heldPointS_0N_Lt (np : Nat) (lent : List (Bool × Nat × Blk)) : Prop := np = 2 ∧ lent = []
def laws_heldPointS_0N_body {α : Type}   (k : Nat) (k_ : Int) (r0 : Int → Option α) : Option α :=
  r0 k_
theorem laws_heldPointS_0N_gen {α : Type}   (n : Nat) (k_ : Int) (κ : Res → Option α) : evFn Try.prog (laws_heldPointS_0N_XG n) Try.f10 (((buildDs laws_heldPointS_0N_sh [.int k_]).map Prod.fst).getD []) κ = laws_heldPointS_0N_body n k_ (fun v1 => κ ⟨[.int .i64 v1], []⟩) := by kernel_rfl
theorem laws_heldPointS_0N_eq {α : Type} (n : Nat) (k_ : Int) (r0 : Int → Option α) : laws_heldPointS_0N_body (α := α) n k_ r0 = laws_heldPointS_0N (α := α) n k_ r0 := (laws_heldPointS_0N_body.eq_1 n k_ r0).trans (laws_heldPointS_0N.eq_1 n k_ r0).symm
theorem laws_heldPointS_0N_rn {α : Type} (F : T24 α) (n : Nat) (k_ : Int) (κ : Res → Option α) : laws_heldPointS_0N_runG F n [.int k_] κ = F n k_ (fun v1 => κ ⟨[.int .i64 v1], []⟩) := rfl
theorem laws_heldPointS_0N_ev {α : Type} (n : Nat) (k_ : Int) (κ : Res → Option α) : evFn Try.prog (laws_heldPointS_0N_X n) Try.f10 (((buildDs laws_heldPointS_0N_sh [.int k_]).map Prod.fst).getD []) κ = laws_heldPointS_0N_run n [.int k_] κ := (laws_heldPointS_0N_gen n k_ κ).trans ((laws_heldPointS_0N_eq n k_ (fun v1 => κ ⟨[.int .i64 v1], []⟩)).trans ((laws_heldPointS_0N_run.eq_1 n [.int k_] κ).trans (laws_heldPointS_0N_rn laws_heldPointS_0N n k_ κ)).symm)
theorem laws_heldPointS_0N_en (k_ : Int) : (entry 0 (((buildDs laws_heldPointS_0N_sh [.int k_]).map Prod.fst).getD [])).map (fun x => (x.1.length, x.2.lent)) = some (2, []) := by kernel_rfl
theorem laws_heldPointS_0N_good {α : Type} : ∀ n, GoodFn (α := α) Try.prog 10 (byShape laws_heldPointS_0N_sh (laws_heldPointS_0N_run n)) := by
  refine fn_good' Try.func10 (c := (Try.f10.body.getD .skip)) (by kernel_rfl) (by kernel_rfl) (by kernel_rfl) laws_heldPointS_0N_C laws_heldPointS_0N_M eqs laws_heldPointS_0N_lps laws_heldPointS_0N_jt (fun n => tabC_good (fun _ h => absurd h List.not_mem_nil)) eqs_ok laws_heldPointS_0N_Lt ?_ ?_ laws_heldPointS_0N_sh laws_heldPointS_0N_run ?_
  · exact (fun _ h => absurd h List.not_mem_nil)
  · exact (fun _ h => absurd h List.not_mem_nil)
  · intro n p κ r ds hd hr
    have hr0 := hr
    unfold laws_heldPointS_0N_run laws_heldPointS_0N_runG at hr
    split at hr
    · rw [← ds_of hd]
      exact ⟨en_of (laws_heldPointS_0N_en _) ⟨rfl, rfl⟩, (laws_heldPointS_0N_ev n _ κ).trans hr0⟩
    · cases hr

/-! loop.example/g01297/laws.eqPointS -/
def laws_eqPointS_1N_sh : List SkD := [.sl 34 .pt, .nilsl]
def laws_eqPointS_1N_runG {α : Type} (F : T10 α) (n : Nat) (p : List P1) (κ : Res → Option α) : Option α := match p with
  | [.rows .pt a] => F n a (fun v1 => κ ⟨[.bool v1], []⟩)
  | _ => none
def laws_eqPointS_1N_run {α : Type} (n : Nat) (p : List P1) (κ : Res → Option α) : Option α := laws_eqPointS_1N_runG laws_eqPointS_1N n p κ
def laws_eqPointS_1N_CG {α : Type}  (n : Nat) : FuncId → List D → (Res → Option α) → Option α := tabC []
def laws_eqPointS_1N_C {α : Type} (n : Nat) : FuncId → List D → (Res → Option α) → Option α := laws_eqPointS_1N_CG n
def laws_eqPointS_1N_M : FuncId → List Nat := tabM []
def laws_eqPointS_1N_t4 : Tpl := ⟨[.sl 0, .nilsl, .any, .any, .any, .int .i64, .any, .any, .any, .any, .any, .any, .any, .any, .any, .any, .any, .any, .any, .any, .any, .any, .any, .any, .any, .any, .any], [(0, .rows 0 34 .pt)], []⟩
def laws_eqPointS_1N_uG4 {α : Type} (G : Nat → Int → (List (Int × Int)) → (Int → (List (Int × Int)) → Option α) → (Bool → Option α) → Option α) (n : Nat) (p : List P1) (brk : Nat → List P1 → Option α) (ret : Res → Option α) : Option α := match p with
  | [.int i, .rows .pt a1] => G n i a1 (fun i a1 => brk 0 [.int i, .rows .pt a1]) (fun v1 => ret ⟨[.bool v1], []⟩)
  | _ => none
def laws_eqPointS_1N_u4 {α : Type} (n : Nat) (p : List P1) (brk : Nat → List P1 → Option α) (ret : Res → Option α) : Option α := laws_eqPointS_1N_uG4 laws_eqPointS_1N_l4 n p brk ret
def laws_eqPointS_1N_lpsG {α : Type} (G4 : Nat → Int → (List (Int × Int)) → (Int → (List (Int × Int)) → Option α) → (Bool → Option α) → Option α) : List (LoopT α) := [⟨4, laws_eqPointS_1N_t4, laws_eqPointS_1N_uG4 G4⟩]
def laws_eqPointS_1N_lps {α : Type} : List (LoopT α) := laws_eqPointS_1N_lpsG laws_eqPointS_1N_l4
def laws_eqPointS_1N_jt : Nat → Option Tpl := jtOf []
def laws_eqPointS_1N_XG {α : Type}  (G4 : Nat → Int → (List (Int × Int)) → (Int → (List (Int × Int)) → Option α) → (Bool → Option α) → Option α) (n : Nat) : Ctx α := ⟨laws_eqPointS_1N_CG n, laws_eqPointS_1N_M, eqs, lpOf (laws_eqPointS_1N_lpsG G4) n, laws_eqPointS_1N_jt⟩
def laws_eqPointS_1N_X {α : Type} (n : Nat) : Ctx α := laws_eqPointS_1N_XG laws_eqPointS_1N_l4 n
def laws_eqPointS_1N_Lt (np : Nat) (lent : List (Bool × Nat × Blk)) : Prop := np = 2 ∧ lent = []
def laws_eqPointS_1N_lb4 {α : Type}  (G4 : Nat → Int → (List (Int × Int)) → (Int → (List (Int × Int)) → Option α) → (Bool → Option α) → Option α) (k : Nat) (i : Int) (a1 : List (Int × Int)) (b0 : Int → (List (Int × Int)) → Option α) (r0 : Bool → Option α) : Option α :=
  bif decide (i < (((List.length a1) : Nat) : Int)) then
    bif (decide (0 ≤ i) && decide (i < (((List.length a1) : Nat) : Int))) then
      (a1[i.toNat]?).bind fun _ =>
      none
    else
      none
  else
    b0 i a1
theorem laws_eqPointS_1N_l4_gen {α : Type}  (G4 : Nat → Int → (List (Int × Int)) → (Int → (List (Int × Int)) → Option α) → (Bool → Option α) → Option α) (n : Nat) (i : Int) (a1 : List (Int × Int)) (brk : Nat → List P1 → Option α) (ret : Res → Option α) : ev ((laws_eqPointS_1N_XG G4 n).env Try.prog Try.f8 2 []) (findLoop (loopsIn (Try.f8.body.getD .skip)) 4) ((laws_eqPointS_1N_t4.build [.int i, .rows .pt a1]).getD ⟨[], []⟩) (roundK (2 * 64) laws_eqPointS_1N_t4 (fun q => laws_eqPointS_1N_uG4 G4 n q brk ret) brk ret) = laws_eqPointS_1N_lb4 G4 n i a1 (fun i a1 => brk 0 [.int i, .rows .pt a1]) (fun v1 => ret ⟨[.bool v1], []⟩) := by kernel_rfl
theorem laws_eqPointS_1N_l4_eq {α : Type} (k : Nat) (i : Int) (a1 : List (Int × Int)) (b0 : Int → (List (Int × Int)) → Option α) (r0 : Bool → Option α) : laws_eqPointS_1N_lb4 laws_eqPointS_1N_l4 k i a1 b0 r0 = laws_eqPointS_1N_l4 (k + 1) i a1 b0 r0 := (laws_eqPointS_1N_lb4.eq_1 laws_eqPointS_1N_l4 k i a1 b0 r0).trans (show laws_eqPointS_1N_l4 (k + 1) i a1 b0 r0 = _ from laws_eqPointS_1N_l4.eq_2 _ _ _ _ _ ).symm
theorem laws_eqPointS_1N_l4_rn {α : Type} (G : Nat → Int → (List (Int × Int)) → (Int → (List (Int × Int)) → Option α) → (Bool → Option α) → Option α) (n : Nat) (i : Int) (a1 : List (Int × Int)) (brk : Nat → List P1 → Option α) (ret : Res → Option α) : laws_eqPointS_1N_uG4 G n [.int i, .rows .pt a1] brk ret = G n i a1 (fun i a1 => brk 0 [.int i, .rows .pt a1]) (fun v1 => ret ⟨[.bool v1], []⟩) := rfl
theorem laws_eqPointS_1N_l4_ev {α : Type} (n : Nat) (i : Int) (a1 : List (Int × Int)) (brk : Nat → List P1 → Option α) (ret : Res → Option α) : ev ((laws_eqPointS_1N_X n).env Try.prog Try.f8 2 []) (findLoop (loopsIn (Try.f8.body.getD .skip)) 4) ((laws_eqPointS_1N_t4.build [.int i, .rows .pt a1]).getD ⟨[], []⟩) (roundK (2 * 64) laws_eqPointS_1N_t4 (fun q => laws_eqPointS_1N_u4 n q brk ret) brk ret) = laws_eqPointS_1N_u4 (n + 1) [.int i, .rows .pt a1] brk ret := (laws_eqPointS_1N_l4_gen laws_eqPointS_1N_l4 n i a1 brk ret).trans ((laws_eqPointS_1N_l4_eq n i a1 (fun i a1 => brk 0 [.int i, .rows .pt a1]) (fun v1 => ret ⟨[.bool v1], []⟩)).trans ((laws_eqPointS_1N_u4.eq_1 (n + 1) [.int i, .rows .pt a1] brk ret).trans (laws_eqPointS_1N_l4_rn laws_eqPointS_1N_l4 (n + 1) i a1 brk ret)).symm)
def laws_eqPointS_1N_body {α : Type}  (G4 : Nat → Int → (List (Int × Int)) → (Int → (List (Int × Int)) → Option α) → (Bool → Option α) → Option α) (k : Nat) (a : List (Int × Int)) (r0 : Bool → Option α) : Option α :=
  bif (!decide ((((List.length a) : Nat) : Int) = 0)) then
    r0 false
  else
    G4 k 0 a
      (fun _ _ =>
        r0 true)
      r0
theorem laws_eqPointS_1N_gen {α : Type}  (G4 : Nat → Int → (List (Int × Int)) → (Int → (List (Int × Int)) → Option α) → (Bool → Option α) → Option α) (n : Nat) (a : List (Int × Int)) (κ : Res → Option α) : evFn Try.prog (laws_eqPointS_1N_XG G4 n) Try.f8 (((buildDs laws_eqPointS_1N_sh [.rows .pt a]).map Prod.fst).getD []) κ = laws_eqPointS_1N_body G4 n a (fun v1 => κ ⟨[.bool v1], []⟩) := by kernel_rfl
theorem laws_eqPointS_1N_eq {α : Type} (n : Nat) (a : List (Int × Int)) (r0 : Bool → Option α) : laws_eqPointS_1N_body (α := α) laws_eqPointS_1N_l4 n a r0 = laws_eqPointS_1N (α := α) n a r0 := (laws_eqPointS_1N_body.eq_1 laws_eqPointS_1N_l4 n a r0).trans (laws_eqPointS_1N.eq_1 n a r0).symm
theorem laws_eqPointS_1N_rn {α : Type} (F : T10 α) (n : Nat) (a : List (Int × Int)) (κ : Res → Option α) : laws_eqPointS_1N_runG F n [.rows .pt a] κ = F n a (fun v1 => κ ⟨[.bool v1], []⟩) := rfl
theorem laws_eqPointS_1N_ev {α : Type} (n : Nat) (a : List (Int × Int)) (κ : Res → Option α) : evFn Try.prog (laws_eqPointS_1N_X n) Try.f8 (((buildDs laws_eqPointS_1N_sh [.rows .pt a]).map Prod.fst).getD []) κ = laws_eqPointS_1N_run n [.rows .pt a] κ := (laws_eqPointS_1N_gen laws_eqPointS_1N_l4 n a κ).trans ((laws_eqPointS_1N_eq n a (fun v1 => κ ⟨[.bool v1], []⟩)).trans ((laws_eqPointS_1N_run.eq_1 n [.rows .pt a] κ).trans (laws_eqPointS_1N_rn laws_eqPointS_1N n a κ)).symm)
theorem laws_eqPointS_1N_en (a : List (Int × Int)) : (entry 0 (((buildDs laws_eqPointS_1N_sh [.rows .pt a]).map Prod.fst).getD [])).map (fun x => (x.1.length, x.2.lent)) = some (2, []) := by kernel_rfl
theorem laws_eqPointS_1N_good {α : Type} : ∀ n, GoodFn (α := α) Try.prog 8 (byShape laws_eqPointS_1N_sh (laws_eqPointS_1N_run n)) := by
  refine fn_good' Try.func8 (c := (Try.f8.body.getD .skip)) (by kernel_rfl) (by kernel_rfl) (by kernel_rfl) laws_eqPointS_1N_C laws_eqPointS_1N_M eqs laws_eqPointS_1N_lps laws_eqPointS_1N_jt (fun n => tabC_good (fun _ h => absurd h List.not_mem_nil)) eqs_ok laws_eqPointS_1N_Lt ?_ ?_ laws_eqPointS_1N_sh laws_eqPointS_1N_run ?_
  · refine List.forall_mem_cons.2 ⟨?_, (fun _ h => absurd h List.not_mem_nil)⟩
    · intro p brk ret; show laws_eqPointS_1N_u4 0 p brk ret = none; unfold laws_eqPointS_1N_u4 laws_eqPointS_1N_uG4; split <;> rfl
  · refine List.forall_mem_cons.2 ⟨?_, (fun _ h => absurd h List.not_mem_nil)⟩
    · intro np lent hL n p brk ret st r hb hr
      obtain ⟨rfl, rfl⟩ := hL
      rw [← tpl_of hb]
      change laws_eqPointS_1N_u4 (n + 1) p brk ret = some r at hr
      have hr0 := hr
      unfold laws_eqPointS_1N_u4 laws_eqPointS_1N_uG4 at hr
      split at hr
      · exact (laws_eqPointS_1N_l4_ev n _ _ brk ret).trans hr0
      · cases hr
  · intro n p κ r ds hd hr
    have hr0 := hr
    unfold laws_eqPointS_1N_run laws_eqPointS_1N_runG at hr
    split at hr
    · rw [← ds_of hd]
      exact ⟨en_of (laws_eqPointS_1N_en _) ⟨rfl, rfl⟩, (laws_eqPointS_1N_ev n _ κ).trans hr0⟩
    · cases hr

/-! loop.example/g01297/laws.heldPointS -/
def laws_heldPointS_sh : List SkD := [.sl 34 .pt, .int .i64]
def laws_heldPointS_runG {α : Type} (F : T0 α) (n : Nat) (p : List P1) (κ : Res → Option α) : Option α := match p with
  | [.rows .pt a, .int k_] => F n a k_ (fun v1 => κ ⟨[.int .i64 v1], []⟩)
  | _ => none
def laws_heldPointS_run {α : Type} (n : Nat) (p : List P1) (κ : Res → Option α) : Option α := laws_heldPointS_runG laws_heldPointS n p κ
def laws_heldPointS_CG {α : Type}  (n : Nat) : FuncId → List D → (Res → Option α) → Option α := tabC []
def laws_heldPointS_C {α : Type} (n : Nat) : FuncId → List D → (Res → Option α) → Option α := laws_heldPointS_CG n
def laws_heldPointS_M : FuncId → List Nat := tabM []
def laws_heldPointS_t2 : Tpl := ⟨[.sl 0, .int .i64, .any, .any, .any, .int .i64, .any, .any, .any, .any, .any, .any, .any, .any, .any, .any, .any, .any, .any, .any, .any, .any, .any, .any, .any, .any, .any, .any], [(0, .rows 0 34 .pt)], []⟩
def laws_heldPointS_uG2 {α : Type} (G : Nat → Int → Int → (List (Int × Int)) → (Int → Int → (List (Int × Int)) → Option α) → (Int → Option α) → Option α) (n : Nat) (p : List P1) (brk : Nat → List P1 → Option α) (ret : Res → Option α) : Option α := match p with
  | [.int k_1, .int i, .rows .pt a1] => G n k_1 i a1 (fun k_1 i a1 => brk 0 [.int k_1, .int i, .rows .pt a1]) (fun v1 => ret ⟨[.int .i64 v1], []⟩)
  | _ => none
def laws_heldPointS_u2 {α : Type} (n : Nat) (p : List P1) (brk : Nat → List P1 → Option α) (ret : Res → Option α) : Option α := laws_heldPointS_uG2 laws_heldPointS_l2 n p brk ret
def laws_heldPointS_lpsG {α : Type} (G2 : Nat → Int → Int → (List (Int × Int)) → (Int → Int → (List (Int × Int)) → Option α) → (Int → Option α) → Option α) : List (LoopT α) := [⟨2, laws_heldPointS_t2, laws_heldPointS_uG2 G2⟩]
def laws_heldPointS_lps {α : Type} : List (LoopT α) := laws_heldPointS_lpsG laws_heldPointS_l2
def laws_heldPointS_jt : Nat → Option Tpl := jtOf []
def laws_heldPointS_XG {α : Type}  (G2 : Nat → Int → Int → (List (Int × Int)) → (Int → Int → (List (Int × Int)) → Option α) → (Int → Option α) → Option α) (n : Nat) : Ctx α := ⟨laws_heldPointS_CG n, laws_heldPointS_M, eqs, lpOf (laws_heldPointS_lpsG G2) n, laws_heldPointS_jt⟩
def laws_heldPointS_X {α : Type} (n : Nat) : Ctx α := laws_heldPointS_XG laws_heldPointS_l2 n
def laws_heldPointS_Lt (np : Nat) (lent : List (Bool × Nat × Blk)) : Prop := np = 2 ∧ lent = []
def laws_heldPointS_lb2 {α : Type}  (G2 : Nat → Int → Int → (List (Int × Int)) → (Int → Int → (List (Int × Int)) → Option α) → (Int → Option α) → Option α) (k : Nat) (k_1 : Int) (i : Int) (a1 : List (Int × Int)) (b0 : Int → Int → (List (Int × Int)) → Option α) (r0 : Int → Option α) : Option α :=
  bif decide (i < (((List.length a1) : Nat) : Int)) then
    bif (decide (0 ≤ i) && decide (i < (((List.length a1) : Nat) : Int))) then
      (a1[i.toNat]?).bind fun e_ =>
      bif (!decide (e_.1 = k_1)) then
        r0 (-1)
      else
      bif (decide (0 ≤ i) && decide (i < (((List.length a1) : Nat) : Int))) then
        (a1[i.toNat]?).bind fun e_1 =>
        bif (!decide (e_1.2 = (w64 (k_1 + 1)))) then
          r0 (-1)
        else
          G2 k (w64 ((w64 (k_1 + 1)) + 1)) (w64 (i + 1)) a1 b0 r0
      else
        none
    else
      none
  else
    b0 k_1 i a1
theorem laws_heldPointS_l2_gen {α : Type}  (G2 : Nat → Int → Int → (List (Int × Int)) → (Int → Int → (List (Int × Int)) → Option α) → (Int → Option α) → Option α) (n : Nat) (k_1 : Int) (i : Int) (a1 : List (Int × Int)) (brk : Nat → List P1 → Option α) (ret : Res → Option α) : ev ((laws_heldPointS_XG G2 n).env Try.prog Try.f10 2 []) (findLoop (loopsIn (Try.f10.body.getD .skip)) 2) ((laws_heldPointS_t2.build [.int k_1, .int i, .rows .pt a1]).getD ⟨[], []⟩) (roundK (2 * 64) laws_heldPointS_t2 (fun q => laws_heldPointS_uG2 G2 n q brk ret) brk ret) = laws_heldPointS_lb2 G2 n k_1 i a1 (fun k_1 i a1 => brk 0 [.int k_1, .int i, .rows .pt a1]) (fun v1 => ret ⟨[.int .i64 v1], []⟩) := by kernel_rfl
theorem laws_heldPointS_l2_eq {α : Type} (k : Nat) (k_1 : Int) (i : Int) (a1 : List (Int × Int)) (b0 : Int → Int → (List (Int × Int)) → Option α) (r0 : Int → Option α) : laws_heldPointS_lb2 laws_heldPointS_l2 k k_1 i a1 b0 r0 = laws_heldPointS_l2 (k + 1) k_1 i a1 b0 r0 := (laws_heldPointS_lb2.eq_1 laws_heldPointS_l2 k k_1 i a1 b0 r0).trans (show laws_heldPointS_l2 (k + 1) k_1 i a1 b0 r0 = _ from laws_heldPointS_l2.eq_2 _ _ _ _ _ _ ).symm
theorem laws_heldPointS_l2_rn {α : Type} (G : Nat → Int → Int → (List (Int × Int)) → (Int → Int → (List (Int × Int)) → Option α) → (Int → Option α) → Option α) (n : Nat) (k_1 : Int) (i : Int) (a1 : List (Int × Int)) (brk : Nat → List P1 → Option α) (ret : Res → Option α) : laws_heldPointS_uG2 G n [.int k_1, .int i, .rows .pt a1] brk ret = G n k_1 i a1 (fun k_1 i a1 => brk 0 [.int k_1, .int i, .rows .pt a1]) (fun v1 => ret ⟨[.int .i64 v1], []⟩) := rfl
theorem laws_heldPointS_l2_ev {α : Type} (n : Nat) (k_1 : Int) (i : Int) (a1 : List (Int × Int)) (brk : Nat → List P1 → Option α) (ret : Res → Option α) : ev ((laws_heldPointS_X n).env Try.prog Try.f10 2 []) (findLoop (loopsIn (Try.f10.body.getD .skip)) 2) ((laws_heldPointS_t2.build [.int k_1, .int i, .rows .pt a1]).getD ⟨[], []⟩) (roundK (2 * 64) laws_heldPointS_t2 (fun q => laws_heldPointS_u2 n q brk ret) brk ret) = laws_heldPointS_u2 (n + 1) [.int k_1, .int i, .rows .pt a1] brk ret := (laws_heldPointS_l2_gen laws_heldPointS_l2 n k_1 i a1 brk ret).trans ((laws_heldPointS_l2_eq n k_1 i a1 (fun k_1 i a1 => brk 0 [.int k_1, .int i, .rows .pt a1]) (fun v1 => ret ⟨[.int .i64 v1], []⟩)).trans ((laws_heldPointS_u2.eq_1 (n + 1) [.int k_1, .int i, .rows .pt a1] brk ret).trans (laws_heldPointS_l2_rn laws_heldPointS_l2 (n + 1) k_1 i a1 brk ret)).symm)
def laws_heldPointS_body {α : Type}  (G2 : Nat → Int → Int → (List (Int × Int)) → (Int → Int → (List (Int × Int)) → Option α) → (Int → Option α) → Option α) (k : Nat) (a : List (Int × Int)) (k_ : Int) (r0 : Int → Option α) : Option α :=
  G2 k k_ 0 a
    (fun k_2 _ _ =>
      r0 k_2)
    r0
theorem laws_heldPointS_gen {α : Type}  (G2 : Nat → Int → Int → (List (Int × Int)) → (Int → Int → (List (Int × Int)) → Option α) → (Int → Option α) → Option α) (n : Nat) (a : List (Int × Int)) (k_ : Int) (κ : Res → Option α) : evFn Try.prog (laws_heldPointS_XG G2 n) Try.f10 (((buildDs laws_heldPointS_sh [.rows .pt a, .int k_]).map Prod.fst).getD []) κ = laws_heldPointS_body G2 n a k_ (fun v1 => κ ⟨[.int .i64 v1], []⟩) := by kernel_rfl
theorem laws_heldPointS_eq {α : Type} (n : Nat) (a : List (Int × Int)) (k_ : Int) (r0 : Int → Option α) : laws_heldPointS_body (α := α) laws_heldPointS_l2 n a k_ r0 = laws_heldPointS (α := α) n a k_ r0 := (laws_heldPointS_body.eq_1 laws_heldPointS_l2 n a k_ r0).trans (laws_heldPointS.eq_1 n a k_ r0).symm
theorem laws_heldPointS_rn {α : Type} (F : T0 α) (n : Nat) (a : List (Int × Int)) (k_ : Int) (κ : Res → Option α) : laws_heldPointS_runG F n [.rows .pt a, .int k_] κ = F n a k_ (fun v1 => κ ⟨[.int .i64 v1], []⟩) := rfl
theorem laws_heldPointS_ev {α : Type} (n : Nat) (a : List (Int × Int)) (k_ : Int) (κ : Res → Option α) : evFn Try.prog (laws_heldPointS_X n) Try.f10 (((buildDs laws_heldPointS_sh [.rows .pt a, .int k_]).map Prod.fst).getD []) κ = laws_heldPointS_run n [.rows .pt a, .int k_] κ := (laws_heldPointS_gen laws_heldPointS_l2 n a k_ κ).trans ((laws_heldPointS_eq n a k_ (fun v1 => κ ⟨[.int .i64 v1], []⟩)).trans ((laws_heldPointS_run.eq_1 n [.rows .pt a, .int k_] κ).trans (laws_heldPointS_rn laws_heldPointS n a k_ κ)).symm)
theorem laws_heldPointS_en (a : List (Int × Int)) (k_ : Int) : (entry 0 (((buildDs laws_heldPointS_sh [.rows .pt a, .int k_]).map Prod.fst).getD [])).map (fun x => (x.1.length, x.2.lent)) = some (2, []) := by kernel_rfl
theorem laws_heldPointS_good {α : Type} : ∀ n, GoodFn (α := α) Try.prog 10 (byShape laws_heldPointS_sh (laws_heldPointS_run n)) := by
  refine fn_good' Try.func10 (c := (Try.f10.body.getD .skip)) (by kernel_rfl) (by kernel_rfl) (by kernel_rfl) laws_heldPointS_C laws_heldPointS_M eqs laws_heldPointS_lps laws_heldPointS_jt (fun n => tabC_good (fun _ h => absurd h List.not_mem_nil)) eqs_ok laws_heldPointS_Lt ?_ ?_ laws_heldPointS_sh laws_heldPointS_run ?_
  · refine List.forall_mem_cons.2 ⟨?_, (fun _ h => absurd h List.not_mem_nil)⟩
    · intro p brk ret; show laws_heldPointS_u2 0 p brk ret = none; unfold laws_heldPointS_u2 laws_heldPointS_uG2; split <;> rfl
  · refine List.forall_mem_cons.2 ⟨?_, (fun _ h => absurd h List.not_mem_nil)⟩
    · intro np lent hL n p brk ret st r hb hr
      obtain ⟨rfl, rfl⟩ := hL
      rw [← tpl_of hb]
      change laws_heldPointS_u2 (n + 1) p brk ret = some r at hr
      have hr0 := hr
      unfold laws_heldPointS_u2 laws_heldPointS_uG2 at hr
      split at hr
      · exact (laws_heldPointS_l2_ev n _ _ _ brk ret).trans hr0
      · cases hr
  · intro n p κ r ds hd hr
    have hr0 := hr
    unfold laws_heldPointS_run laws_heldPointS_runG at hr
    split at hr
    · rw [← ds_of hd]
      exact ⟨en_of (laws_heldPointS_en _ _) ⟨rfl, rfl⟩, (laws_heldPointS_ev n _ _ κ).trans hr0⟩
    · cases hr

/-! loop.example/g01297/laws.eqPointS -/
def laws_eqPointS_0N_sh : List SkD := [.nilsl, .sl 34 .pt]
def laws_eqPointS_0N_runG {α : Type} (F : T10 α) (n : Nat) (p : List P1) (κ : Res → Option α) : Option α := match p with
  | [.rows .pt b_] => F n b_ (fun v1 => κ ⟨[.bool v1], []⟩)
  | _ => none
def laws_eqPointS_0N_run {α : Type} (n : Nat) (p : List P1) (κ : Res → Option α) : Option α := laws_eqPointS_0N_runG laws_eqPointS_0N n p κ
def laws_eqPointS_0N_CG {α : Type}  (n : Nat) : FuncId → List D → (Res → Option α) → Option α := tabC []
def laws_eqPointS_0N_C {α : Type} (n : Nat) : FuncId → List D → (Res → Option α) → Option α := laws_eqPointS_0N_CG n
def laws_eqPointS_0N_M : FuncId → List Nat := tabM []
def laws_eqPointS_0N_lpsG {α : Type}  : List (LoopT α) := []
def laws_eqPointS_0N_lps {α : Type} : List (LoopT α) := laws_eqPointS_0N_lpsG
def laws_eqPointS_0N_jt : Nat → Option Tpl := jtOf []
def laws_eqPointS_0N_XG {α : Type}   (n : Nat) : Ctx α := ⟨laws_eqPointS_0N_CG n, laws_eqPointS_0N_M, eqs, lpOf (laws_eqPointS_0N_lpsG) n, laws_eqPointS_0N_jt⟩
def laws_eqPointS_0N_X {α : Type} (n : Nat) : Ctx α := laws_eqPointS_0N_XG n
def laws_eqPointS_0N_Lt (np : Nat) (lent : List (Bool × Nat × Blk)) : Prop := np = 2 ∧ lent = []
def laws_eqPointS_0N_body {α : Type}   (k : Nat) (b_ : List (Int × Int)) (r0 : Bool → Option α) : Option α :=
  bif (!decide (0 = (((List.length b_) : Nat) : Int))) then
    r0 false
  else
    r0 true
theorem laws_eqPointS_0N_gen {α : Type}   (n : Nat) (b_ : List (Int × Int)) (κ : Res → Option α) : evFn Try.prog (laws_eqPointS_0N_XG n) Try.f8 (((buildDs laws_eqPointS_0N_sh [.rows .pt b_]).map Prod.fst).getD []) κ = laws_eqPointS_0N_body n b_ (fun v1 => κ ⟨[.bool v1], []⟩) := by kernel_rfl
theorem laws_eqPointS_0N_eq {α : Type} (n : Nat) (b_ : List (Int × Int)) (r0 : Bool → Option α) : laws_eqPointS_0N_body (α := α) n b_ r0 = laws_eqPointS_0N (α := α) n b_ r0 := (laws_eqPointS_0N_body.eq_1 n b_ r0).trans (laws_eqPointS_0N.eq_1 n b_ r0).symm
theorem laws_eqPointS_0N_rn {α : Type} (F : T10 α) (n : Nat) (b_ : List (Int × Int)) (κ : Res → Option α) : laws_eqPointS_0N_runG F n [.rows .pt b_] κ = F n b_ (fun v1 => κ ⟨[.bool v1], []⟩) := rfl
theorem laws_eqPointS_0N_ev {α : Type} (n : Nat) (b_ : List (Int × Int)) (κ : Res → Option α) : evFn Try.prog (laws_eqPointS_0N_X n) Try.f8 (((buildDs laws_eqPointS_0N_sh [.rows .pt b_]).map Prod.fst).getD []) κ = laws_eqPointS_0N_run n [.rows .pt b_] κ := (laws_eqPointS_0N_gen n b_ κ).trans ((laws_eqPointS_0N_eq n b_ (fun v1 => κ ⟨[.bool v1], []⟩)).trans ((laws_eqPointS_0N_run.eq_1 n [.rows .pt b_] κ).trans (laws_eqPointS_0N_rn laws_eqPointS_0N n b_ κ)).symm)
theorem laws_eqPointS_0N_en (b_ : List (Int × Int)) : (entry 0 (((buildDs laws_eqPointS_0N_sh [.rows .pt b_]).map Prod.fst).getD [])).map (fun x => (x.1.length, x.2.lent)) = some (2, []) := by kernel_rfl
theorem laws_eqPointS_0N_good {α : Type} : ∀ n, GoodFn (α := α) Try.prog 8 (byShape laws_eqPointS_0N_sh (laws_eqPointS_0N_run n)) := by
  refine fn_good' Try.func8 (c := (Try.f8.body.getD .skip)) (by kernel_rfl) (by kernel_rfl) (by kernel_rfl) laws_eqPointS_0N_C laws_eqPointS_0N_M eqs laws_eqPointS_0N_lps laws_eqPointS_0N_jt (fun n => tabC_good (fun _ h => absurd h List.not_mem_nil)) eqs_ok laws_eqPointS_0N_Lt ?_ ?_ laws_eqPointS_0N_sh laws_eqPointS_0N_run ?_
  · exact (fun _ h => absurd h List.not_mem_nil)
  · exact (fun _ h => absurd h List.not_mem_nil)
  · intro n p κ r ds hd hr
    have hr0 := hr
    unfold laws_eqPointS_0N_run laws_eqPointS_0N_runG at hr
    split at hr
    · rw [← ds_of hd]
      exact ⟨en_of (laws_eqPointS_0N_en _) ⟨rfl, rfl⟩, (laws_eqPointS_0N_ev n _ κ).trans hr0⟩
    · cases hr

end Go.Proofs.Ythgajnmmeibpiaa
