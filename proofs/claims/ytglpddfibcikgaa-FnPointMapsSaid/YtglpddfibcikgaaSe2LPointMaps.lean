/- The program's functions hold to their readings without memory: printed by a program of ours. -/
import Derived.Test.YtglpddfibcikgaaSe1LPointMaps
namespace Go.Proofs.Ytglpddfibcikgaa
open Go Go.Ev Go.Sh Go.Proofs

/-! loop.example/g01297/spec.l01DetOf -/
def spec_l01DetOf_sh : List SkD := [.agg [.int .i64, .int .i64, .int .i64, .int .i64]]
def spec_l01DetOf_runG {α : Type} (F : T15 α) (n : Nat) (p : List P1) (κ : Res → Option α) : Option α := match p with
  | [.int m, .int m1, .int m2, .int m3] => F n m m1 m2 m3 (fun v1 => κ ⟨[.int .i64 v1], []⟩)
  | _ => none
def spec_l01DetOf_run {α : Type} (n : Nat) (p : List P1) (κ : Res → Option α) : Option α := spec_l01DetOf_runG spec_l01DetOf n p κ
def spec_l01DetOf_CG {α : Type}  (n : Nat) : FuncId → List D → (Res → Option α) → Option α := tabC []
def spec_l01DetOf_C {α : Type} (n : Nat) : FuncId → List D → (Res → Option α) → Option α := spec_l01DetOf_CG n
def spec_l01DetOf_M : FuncId → List Nat := tabM []
def spec_l01DetOf_lpsG {α : Type}  : List (LoopT α) := []
def spec_l01DetOf_lps {α : Type} : List (LoopT α) := spec_l01DetOf_lpsG
def spec_l01DetOf_jt : Nat → Option Tpl := jtOf []
def spec_l01DetOf_XG {α : Type}   (n : Nat) : Ctx α := ⟨spec_l01DetOf_CG n, spec_l01DetOf_M, eqs, lpOf (spec_l01DetOf_lpsG) n, spec_l01DetOf_jt⟩
def spec_l01DetOf_X {α : Type} (n : Nat) : Ctx α := spec_l01DetOf_XG n
def spec_l01DetOf_Lt (np : Nat) (lent : List (Bool × Nat × Blk)) : Prop := np = 1 ∧ lent = []
def spec_l01DetOf_body {α : Type}   (k : Nat) (m : Int) (m1 : Int) (m2 : Int) (m3 : Int) (r0 : Int → Option α) : Option α :=
  r0 (w64 ((w64 (m * m3)) - (w64 (m1 * m2))))
theorem spec_l01DetOf_gen {α : Type}   (n : Nat) (m : Int) (m1 : Int) (m2 : Int) (m3 : Int) (κ : Res → Option α) : evFn Try.prog (spec_l01DetOf_XG n) Try.f79 (((buildDs spec_l01DetOf_sh [.int m, .int m1, .int m2, .int m3]).map Prod.fst).getD []) κ = spec_l01DetOf_body n m m1 m2 m3 (fun v1 => κ ⟨[.int .i64 v1], []⟩) := by kernel_rfl
theorem spec_l01DetOf_eq {α : Type} (n : Nat) (m : Int) (m1 : Int) (m2 : Int) (m3 : Int) (r0 : Int → Option α) : spec_l01DetOf_body n m m1 m2 m3 r0 = spec_l01DetOf n m m1 m2 m3 r0 := (spec_l01DetOf_body.eq_1 n m m1 m2 m3 r0).trans (spec_l01DetOf.eq_1 n m m1 m2 m3 r0).symm
theorem spec_l01DetOf_rn {α : Type} (F : T15 α) (n : Nat) (m : Int) (m1 : Int) (m2 : Int) (m3 : Int) (κ : Res → Option α) : spec_l01DetOf_runG F n [.int m, .int m1, .int m2, .int m3] κ = F n m m1 m2 m3 (fun v1 => κ ⟨[.int .i64 v1], []⟩) := rfl
theorem spec_l01DetOf_ev {α : Type} (n : Nat) (m : Int) (m1 : Int) (m2 : Int) (m3 : Int) (κ : Res → Option α) : evFn Try.prog (spec_l01DetOf_X n) Try.f79 (((buildDs spec_l01DetOf_sh [.int m, .int m1, .int m2, .int m3]).map Prod.fst).getD []) κ = spec_l01DetOf_run n [.int m, .int m1, .int m2, .int m3] κ := (spec_l01DetOf_gen n m m1 m2 m3 κ).trans ((spec_l01DetOf_eq n m m1 m2 m3 (fun v1 => κ ⟨[.int .i64 v1], []⟩)).trans ((spec_l01DetOf_run.eq_1 n [.int m, .int m1, .int m2, .int m3] κ).trans (spec_l01DetOf_rn spec_l01DetOf n m m1 m2 m3 κ)).symm)
theorem spec_l01DetOf_en (m : Int) (m1 : Int) (m2 : Int) (m3 : Int) : (entry 0 (((buildDs spec_l01DetOf_sh [.int m, .int m1, .int m2, .int m3]).map Prod.fst).getD [])).map (fun x => (x.1.length, x.2.lent)) = some (1, []) := by kernel_rfl
theorem spec_l01DetOf_good {α : Type} : ∀ n, GoodFn (α := α) Try.prog 79 (byShape spec_l01DetOf_sh (spec_l01DetOf_run n)) := by
  refine fn_good' Try.func79 (c := (Try.f79.body.getD .skip)) (by kernel_rfl) (by kernel_rfl) (by kernel_rfl) spec_l01DetOf_C spec_l01DetOf_M eqs spec_l01DetOf_lps spec_l01DetOf_jt (fun n => tabC_good (fun _ h => absurd h List.not_mem_nil)) eqs_ok spec_l01DetOf_Lt ?_ ?_ spec_l01DetOf_sh spec_l01DetOf_run ?_
  · exact (fun _ h => absurd h List.not_mem_nil)
  · exact (fun _ h => absurd h List.not_mem_nil)
  · intro n p κ r ds hd hr
    have hr0 := hr
    unfold spec_l01DetOf_run spec_l01DetOf_runG at hr
    split at hr
    · rw [← ds_of hd]
      exact ⟨en_of (spec_l01DetOf_en _ _ _ _) ⟨rfl, rfl⟩, (spec_l01DetOf_ev n _ _ _ _ κ).trans hr0⟩
    · cases hr

/-! loop.example/g01297/spec.l01Unit -/
def spec_l01Unit_sh : List SkD := [.agg [.int .i64, .int .i64, .int .i64, .int .i64]]
def spec_l01Unit_runG {α : Type} (F : T14 α) (n : Nat) (p : List P1) (κ : Res → Option α) : Option α := match p with
  | [.int m, .int m1, .int m2, .int m3] => F n m m1 m2 m3 (fun v1 => κ ⟨[.bool v1], []⟩)
  | _ => none
def spec_l01Unit_run {α : Type} (n : Nat) (p : List P1) (κ : Res → Option α) : Option α := spec_l01Unit_runG spec_l01Unit n p κ
def spec_l01Unit_CG {α : Type} (F0 : T15 α) (n : Nat) : FuncId → List D → (Res → Option α) → Option α := tabC [(79, (byShape spec_l01DetOf_sh (spec_l01DetOf_runG F0 n)))]
def spec_l01Unit_C {α : Type} (n : Nat) : FuncId → List D → (Res → Option α) → Option α := spec_l01Unit_CG spec_l01DetOf n
def spec_l01Unit_M : FuncId → List Nat := tabM []
def spec_l01Unit_lpsG {α : Type}  : List (LoopT α) := []
def spec_l01Unit_lps {α : Type} : List (LoopT α) := spec_l01Unit_lpsG
def spec_l01Unit_jt : Nat → Option Tpl := jtOf []
def spec_l01Unit_XG {α : Type} (F0 : T15 α)  (n : Nat) : Ctx α := ⟨spec_l01Unit_CG F0 n, spec_l01Unit_M, eqs, lpOf (spec_l01Unit_lpsG) n, spec_l01Unit_jt⟩
def spec_l01Unit_X {α : Type} (n : Nat) : Ctx α := spec_l01Unit_XG spec_l01DetOf n
def spec_l01Unit_Lt (np : Nat) (lent : List (Bool × Nat × Blk)) : Prop := np = 1 ∧ lent = []
def spec_l01Unit_body {α : Type} (F0 : T15 α)  (k : Nat) (m : Int) (m1 : Int) (m2 : Int) (m3 : Int) (r0 : Bool → Option α) : Option α :=
  F0 k m m1 m2 m3 fun v =>
  bif decide (v = 1) then
    r0 true
  else
    r0 (decide (v = (-1)))
theorem spec_l01Unit_gen {α : Type} (F0 : T15 α)  (n : Nat) (m : Int) (m1 : Int) (m2 : Int) (m3 : Int) (κ : Res → Option α) : evFn Try.prog (spec_l01Unit_XG F0 n) Try.f41 (((buildDs spec_l01Unit_sh [.int m, .int m1, .int m2, .int m3]).map Prod.fst).getD []) κ = spec_l01Unit_body F0 n m m1 m2 m3 (fun v1 => κ ⟨[.bool v1], []⟩) := by kernel_rfl
theorem spec_l01Unit_eq {α : Type} (n : Nat) (m : Int) (m1 : Int) (m2 : Int) (m3 : Int) (r0 : Bool → Option α) : spec_l01Unit_body spec_l01DetOf n m m1 m2 m3 r0 = spec_l01Unit n m m1 m2 m3 r0 := (spec_l01Unit_body.eq_1 spec_l01DetOf n m m1 m2 m3 r0).trans (spec_l01Unit.eq_1 n m m1 m2 m3 r0).symm
theorem spec_l01Unit_rn {α : Type} (F : T14 α) (n : Nat) (m : Int) (m1 : Int) (m2 : Int) (m3 : Int) (κ : Res → Option α) : spec_l01Unit_runG F n [.int m, .int m1, .int m2, .int m3] κ = F n m m1 m2 m3 (fun v1 => κ ⟨[.bool v1], []⟩) := rfl
theorem spec_l01Unit_ev {α : Type} (n : Nat) (m : Int) (m1 : Int) (m2 : Int) (m3 : Int) (κ : Res → Option α) : evFn Try.prog (spec_l01Unit_X n) Try.f41 (((buildDs spec_l01Unit_sh [.int m, .int m1, .int m2, .int m3]).map Prod.fst).getD []) κ = spec_l01Unit_run n [.int m, .int m1, .int m2, .int m3] κ := (spec_l01Unit_gen spec_l01DetOf n m m1 m2 m3 κ).trans ((spec_l01Unit_eq n m m1 m2 m3 (fun v1 => κ ⟨[.bool v1], []⟩)).trans ((spec_l01Unit_run.eq_1 n [.int m, .int m1, .int m2, .int m3] κ).trans (spec_l01Unit_rn spec_l01Unit n m m1 m2 m3 κ)).symm)
theorem spec_l01Unit_en (m : Int) (m1 : Int) (m2 : Int) (m3 : Int) : (entry 0 (((buildDs spec_l01Unit_sh [.int m, .int m1, .int m2, .int m3]).map Prod.fst).getD [])).map (fun x => (x.1.length, x.2.lent)) = some (1, []) := by kernel_rfl
theorem spec_l01Unit_good {α : Type} : ∀ n, GoodFn (α := α) Try.prog 41 (byShape spec_l01Unit_sh (spec_l01Unit_run n)) := by
  refine fn_good' Try.func41 (c := (Try.f41.body.getD .skip)) (by kernel_rfl) (by kernel_rfl) (by kernel_rfl) spec_l01Unit_C spec_l01Unit_M eqs spec_l01Unit_lps spec_l01Unit_jt (fun n => tabC_good (List.forall_mem_cons.2 ⟨(spec_l01DetOf_good n), (fun _ h => absurd h List.not_mem_nil)⟩)) eqs_ok spec_l01Unit_Lt ?_ ?_ spec_l01Unit_sh spec_l01Unit_run ?_
  · exact (fun _ h => absurd h List.not_mem_nil)
  · exact (fun _ h => absurd h List.not_mem_nil)
  · intro n p κ r ds hd hr
    have hr0 := hr
    unfold spec_l01Unit_run spec_l01Unit_runG at hr
    split at hr
    · rw [← ds_of hd]
      exact ⟨en_of (spec_l01Unit_en _ _ _ _) ⟨rfl, rfl⟩, (spec_l01Unit_ev n _ _ _ _ κ).trans hr0⟩
    · cases hr

/-! loop.example/g01297/spec.l01Minus -/
def spec_l01Minus_sh : List SkD := [.agg [.int .i64, .int .i64, .int .i64, .int .i64]]
def spec_l01Minus_runG {α : Type} (F : T17 α) (n : Nat) (p : List P1) (κ : Res → Option α) : Option α := match p with
  | [.int m, .int m1, .int m2, .int m3] => F n m m1 m2 m3 (fun v1 v2 v3 v4 => κ ⟨[.agg [.int .i64 v1, .int .i64 v2, .int .i64 v3, .int .i64 v4]], []⟩)
  | _ => none
def spec_l01Minus_run {α : Type} (n : Nat) (p : List P1) (κ : Res → Option α) : Option α := spec_l01Minus_runG spec_l01Minus n p κ
def spec_l01Minus_CG {α : Type} (F0 : T15 α) (n : Nat) : FuncId → List D → (Res → Option α) → Option α := tabC [(79, (byShape spec_l01DetOf_sh (spec_l01DetOf_runG F0 n)))]
def spec_l01Minus_C {α : Type} (n : Nat) : FuncId → List D → (Res → Option α) → Option α := spec_l01Minus_CG spec_l01DetOf n
def spec_l01Minus_M : FuncId → List Nat := tabM []
def spec_l01Minus_lpsG {α : Type}  : List (LoopT α) := []
def spec_l01Minus_lps {α : Type} : List (LoopT α) := spec_l01Minus_lpsG
def spec_l01Minus_jt : Nat → Option Tpl := jtOf []
def spec_l01Minus_XG {α : Type} (F0 : T15 α)  (n : Nat) : Ctx α := ⟨spec_l01Minus_CG F0 n, spec_l01Minus_M, eqs, lpOf (spec_l01Minus_lpsG) n, spec_l01Minus_jt⟩
def spec_l01Minus_X {α : Type} (n : Nat) : Ctx α := spec_l01Minus_XG spec_l01DetOf n
def spec_l01Minus_Lt (np : Nat) (lent : List (Bool × Nat × Blk)) : Prop := np = 1 ∧ lent = []
def spec_l01Minus_body {α : Type} (F0 : T15 α)  (k : Nat) (m : Int) (m1 : Int) (m2 : Int) (m3 : Int) (r0 : Int → Int → Int → Int → Option α) : Option α :=
  F0 k m m1 m2 m3 fun v =>
  r0 (w64 (v * m3)) (w64 ((w64 (0 - v)) * m1)) (w64 ((w64 (0 - v)) * m2)) (w64 (v * m))
theorem spec_l01Minus_gen {α : Type} (F0 : T15 α)  (n : Nat) (m : Int) (m1 : Int) (m2 : Int) (m3 : Int) (κ : Res → Option α) : evFn Try.prog (spec_l01Minus_XG F0 n) Try.f42 (((buildDs spec_l01Minus_sh [.int m, .int m1, .int m2, .int m3]).map Prod.fst).getD []) κ = spec_l01Minus_body F0 n m m1 m2 m3 (fun v1 v2 v3 v4 => κ ⟨[.agg [.int .i64 v1, .int .i64 v2, .int .i64 v3, .int .i64 v4]], []⟩) := by kernel_rfl
theorem spec_l01Minus_eq {α : Type} (n : Nat) (m : Int) (m1 : Int) (m2 : Int) (m3 : Int) (r0 : Int → Int → Int → Int → Option α) : spec_l01Minus_body spec_l01DetOf n m m1 m2 m3 r0 = spec_l01Minus n m m1 m2 m3 r0 := (spec_l01Minus_body.eq_1 spec_l01DetOf n m m1 m2 m3 r0).trans (spec_l01Minus.eq_1 n m m1 m2 m3 r0).symm
theorem spec_l01Minus_rn {α : Type} (F : T17 α) (n : Nat) (m : Int) (m1 : Int) (m2 : Int) (m3 : Int) (κ : Res → Option α) : spec_l01Minus_runG F n [.int m, .int m1, .int m2, .int m3] κ = F n m m1 m2 m3 (fun v1 v2 v3 v4 => κ ⟨[.agg [.int .i64 v1, .int .i64 v2, .int .i64 v3, .int .i64 v4]], []⟩) := rfl
theorem spec_l01Minus_ev {α : Type} (n : Nat) (m : Int) (m1 : Int) (m2 : Int) (m3 : Int) (κ : Res → Option α) : evFn Try.prog (spec_l01Minus_X n) Try.f42 (((buildDs spec_l01Minus_sh [.int m, .int m1, .int m2, .int m3]).map Prod.fst).getD []) κ = spec_l01Minus_run n [.int m, .int m1, .int m2, .int m3] κ := (spec_l01Minus_gen spec_l01DetOf n m m1 m2 m3 κ).trans ((spec_l01Minus_eq n m m1 m2 m3 (fun v1 v2 v3 v4 => κ ⟨[.agg [.int .i64 v1, .int .i64 v2, .int .i64 v3, .int .i64 v4]], []⟩)).trans ((spec_l01Minus_run.eq_1 n [.int m, .int m1, .int m2, .int m3] κ).trans (spec_l01Minus_rn spec_l01Minus n m m1 m2 m3 κ)).symm)
theorem spec_l01Minus_en (m : Int) (m1 : Int) (m2 : Int) (m3 : Int) : (entry 0 (((buildDs spec_l01Minus_sh [.int m, .int m1, .int m2, .int m3]).map Prod.fst).getD [])).map (fun x => (x.1.length, x.2.lent)) = some (1, []) := by kernel_rfl
theorem spec_l01Minus_good {α : Type} : ∀ n, GoodFn (α := α) Try.prog 42 (byShape spec_l01Minus_sh (spec_l01Minus_run n)) := by
  refine fn_good' Try.func42 (c := (Try.f42.body.getD .skip)) (by kernel_rfl) (by kernel_rfl) (by kernel_rfl) spec_l01Minus_C spec_l01Minus_M eqs spec_l01Minus_lps spec_l01Minus_jt (fun n => tabC_good (List.forall_mem_cons.2 ⟨(spec_l01DetOf_good n), (fun _ h => absurd h List.not_mem_nil)⟩)) eqs_ok spec_l01Minus_Lt ?_ ?_ spec_l01Minus_sh spec_l01Minus_run ?_
  · exact (fun _ h => absurd h List.not_mem_nil)
  · exact (fun _ h => absurd h List.not_mem_nil)
  · intro n p κ r ds hd hr
    have hr0 := hr
    unfold spec_l01Minus_run spec_l01Minus_runG at hr
    split at hr
    · rw [← ds_of hd]
      exact ⟨en_of (spec_l01Minus_en _ _ _ _) ⟨rfl, rfl⟩, (spec_l01Minus_ev n _ _ _ _ κ).trans hr0⟩
    · cases hr

/-! loop.example/g01297/spec.InverseMatrix -/
def spec_InverseMatrix_sh : List SkD := [.agg [.int .i64, .int .i64, .int .i64, .int .i64]]
def spec_InverseMatrix_runG {α : Type} (F : T18 α) (n : Nat) (p : List P1) (κ : Res → Option α) : Option α := match p with
  | [.int m, .int m1, .int m2, .int m3] => F n m m1 m2 m3 (fun v1 v2 v3 v4 v5 => κ ⟨[.agg [.int .i64 v1, .int .i64 v2, .int .i64 v3, .int .i64 v4], .int .i64 v5], []⟩)
  | _ => none
def spec_InverseMatrix_run {α : Type} (n : Nat) (p : List P1) (κ : Res → Option α) : Option α := spec_InverseMatrix_runG spec_InverseMatrix n p κ
def spec_InverseMatrix_CG {α : Type} (F0 : T14 α) (F1 : T14 α) (F2 : T17 α) (n : Nat) : FuncId → List D → (Res → Option α) → Option α := tabC [(40, (byShape spec_l01Matrix_sh (spec_l01Matrix_runG F0 n))), (41, (byShape spec_l01Unit_sh (spec_l01Unit_runG F1 n))), (42, (byShape spec_l01Minus_sh (spec_l01Minus_runG F2 n)))]
def spec_InverseMatrix_C {α : Type} (n : Nat) : FuncId → List D → (Res → Option α) → Option α := spec_InverseMatrix_CG spec_l01Matrix spec_l01Unit spec_l01Minus n
def spec_InverseMatrix_M : FuncId → List Nat := tabM []
def spec_InverseMatrix_lpsG {α : Type}  : List (LoopT α) := []
def spec_InverseMatrix_lps {α : Type} : List (LoopT α) := spec_InverseMatrix_lpsG
def spec_InverseMatrix_jt : Nat → Option Tpl := jtOf []
def spec_InverseMatrix_XG {α : Type} (F0 : T14 α) (F1 : T14 α) (F2 : T17 α)  (n : Nat) : Ctx α := ⟨spec_InverseMatrix_CG F0 F1 F2 n, spec_InverseMatrix_M, eqs, lpOf (spec_InverseMatrix_lpsG) n, spec_InverseMatrix_jt⟩
def spec_InverseMatrix_X {α : Type} (n : Nat) : Ctx α := spec_InverseMatrix_XG spec_l01Matrix spec_l01Unit spec_l01Minus n
def spec_InverseMatrix_Lt (np : Nat) (lent : List (Bool × Nat × Blk)) : Prop := np = 1 ∧ lent = []
def spec_InverseMatrix_body {α : Type} (F0 : T14 α) (F1 : T14 α) (F2 : T17 α)  (k : Nat) (m : Int) (m1 : Int) (m2 : Int) (m3 : Int) (r0 : Int → Int → Int → Int → Int → Option α) : Option α :=
  F0 k m m1 m2 m3 fun v =>
  bif (!v) then
    r0 0 0 0 0 1
  else
    F1 k m m1 m2 m3 fun v1 =>
    bif (!v1) then
      r0 0 0 0 0 5
    else
      F2 k m m1 m2 m3 fun v2 v3 v4 v5 =>
      r0 v2 v3 v4 v5 0
theorem spec_InverseMatrix_gen {α : Type} (F0 : T14 α) (F1 : T14 α) (F2 : T17 α)  (n : Nat) (m : Int) (m1 : Int) (m2 : Int) (m3 : Int) (κ : Res → Option α) : evFn Try.prog (spec_InverseMatrix_XG F0 F1 F2 n) Try.f7 (((buildDs spec_InverseMatrix_sh [.int m, .int m1, .int m2, .int m3]).map Prod.fst).getD []) κ = spec_InverseMatrix_body F0 F1 F2 n m m1 m2 m3 (fun v1 v2 v3 v4 v5 => κ ⟨[.agg [.int .i64 v1, .int .i64 v2, .int .i64 v3, .int .i64 v4], .int .i64 v5], []⟩) := by kernel_rfl
theorem spec_InverseMatrix_eq {α : Type} (n : Nat) (m : Int) (m1 : Int) (m2 : Int) (m3 : Int) (r0 : Int → Int → Int → Int → Int → Option α) : spec_InverseMatrix_body spec_l01Matrix spec_l01Unit spec_l01Minus n m m1 m2 m3 r0 = spec_InverseMatrix n m m1 m2 m3 r0 := (spec_InverseMatrix_body.eq_1 spec_l01Matrix spec_l01Unit spec_l01Minus n m m1 m2 m3 r0).trans (spec_InverseMatrix.eq_1 n m m1 m2 m3 r0).symm
theorem spec_InverseMatrix_rn {α : Type} (F : T18 α) (n : Nat) (m : Int) (m1 : Int) (m2 : Int) (m3 : Int) (κ : Res → Option α) : spec_InverseMatrix_runG F n [.int m, .int m1, .int m2, .int m3] κ = F n m m1 m2 m3 (fun v1 v2 v3 v4 v5 => κ ⟨[.agg [.int .i64 v1, .int .i64 v2, .int .i64 v3, .int .i64 v4], .int .i64 v5], []⟩) := rfl
theorem spec_InverseMatrix_ev {α : Type} (n : Nat) (m : Int) (m1 : Int) (m2 : Int) (m3 : Int) (κ : Res → Option α) : evFn Try.prog (spec_InverseMatrix_X n) Try.f7 (((buildDs spec_InverseMatrix_sh [.int m, .int m1, .int m2, .int m3]).map Prod.fst).getD []) κ = spec_InverseMatrix_run n [.int m, .int m1, .int m2, .int m3] κ := (spec_InverseMatrix_gen spec_l01Matrix spec_l01Unit spec_l01Minus n m m1 m2 m3 κ).trans ((spec_InverseMatrix_eq n m m1 m2 m3 (fun v1 v2 v3 v4 v5 => κ ⟨[.agg [.int .i64 v1, .int .i64 v2, .int .i64 v3, .int .i64 v4], .int .i64 v5], []⟩)).trans ((spec_InverseMatrix_run.eq_1 n [.int m, .int m1, .int m2, .int m3] κ).trans (spec_InverseMatrix_rn spec_InverseMatrix n m m1 m2 m3 κ)).symm)
theorem spec_InverseMatrix_en (m : Int) (m1 : Int) (m2 : Int) (m3 : Int) : (entry 0 (((buildDs spec_InverseMatrix_sh [.int m, .int m1, .int m2, .int m3]).map Prod.fst).getD [])).map (fun x => (x.1.length, x.2.lent)) = some (1, []) := by kernel_rfl
theorem spec_InverseMatrix_good {α : Type} : ∀ n, GoodFn (α := α) Try.prog 7 (byShape spec_InverseMatrix_sh (spec_InverseMatrix_run n)) := by
  refine fn_good' Try.func7 (c := (Try.f7.body.getD .skip)) (by kernel_rfl) (by kernel_rfl) (by kernel_rfl) spec_InverseMatrix_C spec_InverseMatrix_M eqs spec_InverseMatrix_lps spec_InverseMatrix_jt (fun n => tabC_good (List.forall_mem_cons.2 ⟨(spec_l01Matrix_good n), (List.forall_mem_cons.2 ⟨(spec_l01Unit_good n), (List.forall_mem_cons.2 ⟨(spec_l01Minus_good n), (fun _ h => absurd h List.not_mem_nil)⟩)⟩)⟩)) eqs_ok spec_InverseMatrix_Lt ?_ ?_ spec_InverseMatrix_sh spec_InverseMatrix_run ?_
  · exact (fun _ h => absurd h List.not_mem_nil)
  · exact (fun _ h => absurd h List.not_mem_nil)
  · intro n p κ r ds hd hr
    have hr0 := hr
    unfold spec_InverseMatrix_run spec_InverseMatrix_runG at hr
    split at hr
    · rw [← ds_of hd]
      exact ⟨en_of (spec_InverseMatrix_en _ _ _ _) ⟨rfl, rfl⟩, (spec_InverseMatrix_ev n _ _ _ _ κ).trans hr0⟩
    · cases hr

/-! loop.example/g01297/spec.l01Bad -/
def spec_l01Bad_sh : List SkD := [.mptr 81 [.sl 5 (.int .u8), .int .i64, .int .u64], .agg [.int .i64, .int .i64]]
def spec_l01Bad_runG {α : Type} (F : T19 α) (n : Nat) (p : List P1) (κ : Res → Option α) : Option α := match p with
  | [.rows (.int .u8) s, .int s1, .int s2, .int a, .int a1] => F n s s1 s2 a a1 (fun v1 v2 v3 v4 => κ ⟨[.agg [.int .i64 v1, .int .i64 v2]], [.ptr 81 [.keep, .int .i64 v3, .int .u64 v4]]⟩)
  | _ => none
def spec_l01Bad_run {α : Type} (n : Nat) (p : List P1) (κ : Res → Option α) : Option α := spec_l01Bad_runG spec_l01Bad n p κ
def spec_l01Bad_CG {α : Type} (F0 : T2 α) (F1 : T5 α) (n : Nat) : FuncId → List D → (Res → Option α) → Option α := tabC [(54, (byShape spec_l01Next_sh (spec_l01Next_runG F0 n))), (67, (byShape spec_l01Pick_sh (spec_l01Pick_runG F1 n)))]
def spec_l01Bad_C {α : Type} (n : Nat) : FuncId → List D → (Res → Option α) → Option α := spec_l01Bad_CG spec_l01Next spec_l01Pick n
def spec_l01Bad_M : FuncId → List Nat := tabM [(54, [1]), (67, [1])]
def spec_l01Bad_lpsG {α : Type}  : List (LoopT α) := []
def spec_l01Bad_lps {α : Type} : List (LoopT α) := spec_l01Bad_lpsG
def spec_l01Bad_jt : Nat → Option Tpl := jtOf []
def spec_l01Bad_XG {α : Type} (F0 : T2 α) (F1 : T5 α)  (n : Nat) : Ctx α := ⟨spec_l01Bad_CG F0 F1 n, spec_l01Bad_M, eqs, lpOf (spec_l01Bad_lpsG) n, spec_l01Bad_jt⟩
def spec_l01Bad_X {α : Type} (n : Nat) : Ctx α := spec_l01Bad_XG spec_l01Next spec_l01Pick n
def spec_l01Bad_Lt (np : Nat) (lent : List (Bool × Nat × Blk)) : Prop := np = 2 ∧ ∃ (s1 : Int) (s2 : Int), lent = [(false, 0, boxBlk 1 81 [.sl 1, .int .i64 s1, .int .u64 s2])]
def spec_l01Bad_body {α : Type} (F0 : T2 α) (F1 : T5 α)  (k : Nat) (s : List Int) (s1 : Int) (s2 : Int) (a : Int) (a1 : Int) (r0 : Int → Int → Int → Int → Option α) : Option α :=
  F0 k s s1 s2 40 fun v v1 v2 =>
  bif decide (v = 0) then
    F0 k s v1 v2 2 fun v3 v4 v5 =>
    F1 k s v4 v5 [1000001, (-1000001), 1099511627776] fun v6 v7 v8 =>
    bif (decide (0 ≤ v3) && decide (v3 < 2)) then
      ([a, a1][v3.toNat]?).bind fun _ =>
      ((List.set [a, a1] v3.toNat v6)[0]?).bind fun e_ =>
      ((List.set [a, a1] v3.toNat v6)[1]?).bind fun e_1 =>
      r0 e_ e_1 v7 v8
    else
      none
  else
    r0 a a1 v1 v2
theorem spec_l01Bad_gen {α : Type} (F0 : T2 α) (F1 : T5 α)  (n : Nat) (s : List Int) (s1 : Int) (s2 : Int) (a : Int) (a1 : Int) (κ : Res → Option α) : evFn Try.prog (spec_l01Bad_XG F0 F1 n) Try.f55 (((buildDs spec_l01Bad_sh [.rows (.int .u8) s, .int s1, .int s2, .int a, .int a1]).map Prod.fst).getD []) κ = spec_l01Bad_body F0 F1 n s s1 s2 a a1 (fun v1 v2 v3 v4 => κ ⟨[.agg [.int .i64 v1, .int .i64 v2]], [.ptr 81 [.keep, .int .i64 v3, .int .u64 v4]]⟩) := by kernel_rfl
theorem spec_l01Bad_eq {α : Type} (n : Nat) (s : List Int) (s1 : Int) (s2 : Int) (a : Int) (a1 : Int) (r0 : Int → Int → Int → Int → Option α) : spec_l01Bad_body spec_l01Next spec_l01Pick n s s1 s2 a a1 r0 = spec_l01Bad n s s1 s2 a a1 r0 := (spec_l01Bad_body.eq_1 spec_l01Next spec_l01Pick n s s1 s2 a a1 r0).trans (spec_l01Bad.eq_1 n s s1 s2 a a1 r0).symm
theorem spec_l01Bad_rn {α : Type} (F : T19 α) (n : Nat) (s : List Int) (s1 : Int) (s2 : Int) (a : Int) (a1 : Int) (κ : Res → Option α) : spec_l01Bad_runG F n [.rows (.int .u8) s, .int s1, .int s2, .int a, .int a1] κ = F n s s1 s2 a a1 (fun v1 v2 v3 v4 => κ ⟨[.agg [.int .i64 v1, .int .i64 v2]], [.ptr 81 [.keep, .int .i64 v3, .int .u64 v4]]⟩) := rfl
theorem spec_l01Bad_ev {α : Type} (n : Nat) (s : List Int) (s1 : Int) (s2 : Int) (a : Int) (a1 : Int) (κ : Res → Option α) : evFn Try.prog (spec_l01Bad_X n) Try.f55 (((buildDs spec_l01Bad_sh [.rows (.int .u8) s, .int s1, .int s2, .int a, .int a1]).map Prod.fst).getD []) κ = spec_l01Bad_run n [.rows (.int .u8) s, .int s1, .int s2, .int a, .int a1] κ := (spec_l01Bad_gen spec_l01Next spec_l01Pick n s s1 s2 a a1 κ).trans ((spec_l01Bad_eq n s s1 s2 a a1 (fun v1 v2 v3 v4 => κ ⟨[.agg [.int .i64 v1, .int .i64 v2]], [.ptr 81 [.keep, .int .i64 v3, .int .u64 v4]]⟩)).trans ((spec_l01Bad_run.eq_1 n [.rows (.int .u8) s, .int s1, .int s2, .int a, .int a1] κ).trans (spec_l01Bad_rn spec_l01Bad n s s1 s2 a a1 κ)).symm)
theorem spec_l01Bad_en (s : List Int) (s1 : Int) (s2 : Int) (a : Int) (a1 : Int) : (entry 0 (((buildDs spec_l01Bad_sh [.rows (.int .u8) s, .int s1, .int s2, .int a, .int a1]).map Prod.fst).getD [])).map (fun x => (x.1.length, x.2.lent)) = some (2, [(false, 0, boxBlk 1 81 [.sl 1, .int .i64 s1, .int .u64 s2])]) := by kernel_rfl
theorem spec_l01Bad_good {α : Type} : ∀ n, GoodFn (α := α) Try.prog 55 (byShape spec_l01Bad_sh (spec_l01Bad_run n)) := by
  refine fn_good' Try.func55 (c := (Try.f55.body.getD .skip)) (by kernel_rfl) (by kernel_rfl) (by kernel_rfl) spec_l01Bad_C spec_l01Bad_M eqs spec_l01Bad_lps spec_l01Bad_jt (fun n => tabC_good (List.forall_mem_cons.2 ⟨(spec_l01Next_good n), (List.forall_mem_cons.2 ⟨(spec_l01Pick_good n), (fun _ h => absurd h List.not_mem_nil)⟩)⟩)) eqs_ok spec_l01Bad_Lt ?_ ?_ spec_l01Bad_sh spec_l01Bad_run ?_
  · exact (fun _ h => absurd h List.not_mem_nil)
  · exact (fun _ h => absurd h List.not_mem_nil)
  · intro n p κ r ds hd hr
    have hr0 := hr
    unfold spec_l01Bad_run spec_l01Bad_runG at hr
    split at hr
    · rw [← ds_of hd]
      exact ⟨en_of (spec_l01Bad_en _ _ _ _ _) ⟨rfl, _, _, rfl⟩, (spec_l01Bad_ev n _ _ _ _ _ κ).trans hr0⟩
    · cases hr

/-! loop.example/g01297/spec.l01Spoil -/
def spec_l01Spoil_sh : List SkD := [.mptr 81 [.sl 5 (.int .u8), .int .i64, .int .u64]]
def spec_l01Spoil_runG {α : Type} (F : T20 α) (n : Nat) (p : List P1) (κ : Res → Option α) : Option α := match p with
  | [.rows (.int .u8) s, .int s1, .int s2] => F n s s1 s2 (fun v1 v2 v3 v4 => κ ⟨[.agg [.int .i64 v1, .int .i64 v2]], [.ptr 81 [.keep, .int .i64 v3, .int .u64 v4]]⟩)
  | _ => none
def spec_l01Spoil_run {α : Type} (n : Nat) (p : List P1) (κ : Res → Option α) : Option α := spec_l01Spoil_runG spec_l01Spoil n p κ
def spec_l01Spoil_CG {α : Type} (F0 : T6 α) (F1 : T7 α) (F2 : T19 α) (n : Nat) : FuncId → List D → (Res → Option α) → Option α := tabC [(57, (byShape spec_l01Size_sh (spec_l01Size_runG F0 n))), (75, (byShape spec_l01DrawPoint_sh (spec_l01DrawPoint_runG F1 n))), (55, (byShape spec_l01Bad_sh (spec_l01Bad_runG F2 n)))]
def spec_l01Spoil_C {α : Type} (n : Nat) : FuncId → List D → (Res → Option α) → Option α := spec_l01Spoil_CG spec_l01Size spec_l01DrawPoint spec_l01Bad n
def spec_l01Spoil_M : FuncId → List Nat := tabM [(57, [1]), (75, [1]), (55, [1])]
def spec_l01Spoil_lpsG {α : Type}  : List (LoopT α) := []
def spec_l01Spoil_lps {α : Type} : List (LoopT α) := spec_l01Spoil_lpsG
def spec_l01Spoil_jt : Nat → Option Tpl := jtOf []
def spec_l01Spoil_XG {α : Type} (F0 : T6 α) (F1 : T7 α) (F2 : T19 α)  (n : Nat) : Ctx α := ⟨spec_l01Spoil_CG F0 F1 F2 n, spec_l01Spoil_M, eqs, lpOf (spec_l01Spoil_lpsG) n, spec_l01Spoil_jt⟩
def spec_l01Spoil_X {α : Type} (n : Nat) : Ctx α := spec_l01Spoil_XG spec_l01Size spec_l01DrawPoint spec_l01Bad n
def spec_l01Spoil_Lt (np : Nat) (lent : List (Bool × Nat × Blk)) : Prop := np = 1 ∧ ∃ (s1 : Int) (s2 : Int), lent = [(false, 0, boxBlk 1 81 [.sl 1, .int .i64 s1, .int .u64 s2])]
def spec_l01Spoil_body {α : Type} (F0 : T6 α) (F1 : T7 α) (F2 : T19 α)  (k : Nat) (s : List Int) (s1 : Int) (s2 : Int) (r0 : Int → Int → Int → Int → Option α) : Option α :=
  F0 k s s1 s2 fun v v1 v2 =>
  F1 k s v1 v2 v fun v3 v4 v5 v6 =>
  F2 k s v5 v6 v3 v4 fun v7 v8 v9 v10 =>
  r0 v7 v8 v9 v10
theorem spec_l01Spoil_gen {α : Type} (F0 : T6 α) (F1 : T7 α) (F2 : T19 α)  (n : Nat) (s : List Int) (s1 : Int) (s2 : Int) (κ : Res → Option α) : evFn Try.prog (spec_l01Spoil_XG F0 F1 F2 n) Try.f43 (((buildDs spec_l01Spoil_sh [.rows (.int .u8) s, .int s1, .int s2]).map Prod.fst).getD []) κ = spec_l01Spoil_body F0 F1 F2 n s s1 s2 (fun v1 v2 v3 v4 => κ ⟨[.agg [.int .i64 v1, .int .i64 v2]], [.ptr 81 [.keep, .int .i64 v3, .int .u64 v4]]⟩) := by kernel_rfl
theorem spec_l01Spoil_eq {α : Type} (n : Nat) (s : List Int) (s1 : Int) (s2 : Int) (r0 : Int → Int → Int → Int → Option α) : spec_l01Spoil_body spec_l01Size spec_l01DrawPoint spec_l01Bad n s s1 s2 r0 = spec_l01Spoil n s s1 s2 r0 := (spec_l01Spoil_body.eq_1 spec_l01Size spec_l01DrawPoint spec_l01Bad n s s1 s2 r0).trans (spec_l01Spoil.eq_1 n s s1 s2 r0).symm
theorem spec_l01Spoil_rn {α : Type} (F : T20 α) (n : Nat) (s : List Int) (s1 : Int) (s2 : Int) (κ : Res → Option α) : spec_l01Spoil_runG F n [.rows (.int .u8) s, .int s1, .int s2] κ = F n s s1 s2 (fun v1 v2 v3 v4 => κ ⟨[.agg [.int .i64 v1, .int .i64 v2]], [.ptr 81 [.keep, .int .i64 v3, .int .u64 v4]]⟩) := rfl
theorem spec_l01Spoil_ev {α : Type} (n : Nat) (s : List Int) (s1 : Int) (s2 : Int) (κ : Res → Option α) : evFn Try.prog (spec_l01Spoil_X n) Try.f43 (((buildDs spec_l01Spoil_sh [.rows (.int .u8) s, .int s1, .int s2]).map Prod.fst).getD []) κ = spec_l01Spoil_run n [.rows (.int .u8) s, .int s1, .int s2] κ := (spec_l01Spoil_gen spec_l01Size spec_l01DrawPoint spec_l01Bad n s s1 s2 κ).trans ((spec_l01Spoil_eq n s s1 s2 (fun v1 v2 v3 v4 => κ ⟨[.agg [.int .i64 v1, .int .i64 v2]], [.ptr 81 [.keep, .int .i64 v3, .int .u64 v4]]⟩)).trans ((spec_l01Spoil_run.eq_1 n [.rows (.int .u8) s, .int s1, .int s2] κ).trans (spec_l01Spoil_rn spec_l01Spoil n s s1 s2 κ)).symm)
theorem spec_l01Spoil_en (s : List Int) (s1 : Int) (s2 : Int) : (entry 0 (((buildDs spec_l01Spoil_sh [.rows (.int .u8) s, .int s1, .int s2]).map Prod.fst).getD [])).map (fun x => (x.1.length, x.2.lent)) = some (1, [(false, 0, boxBlk 1 81 [.sl 1, .int .i64 s1, .int .u64 s2])]) := by kernel_rfl
theorem spec_l01Spoil_good {α : Type} : ∀ n, GoodFn (α := α) Try.prog 43 (byShape spec_l01Spoil_sh (spec_l01Spoil_run n)) := by
  refine fn_good' Try.func43 (c := (Try.f43.body.getD .skip)) (by kernel_rfl) (by kernel_rfl) (by kernel_rfl) spec_l01Spoil_C spec_l01Spoil_M eqs spec_l01Spoil_lps spec_l01Spoil_jt (fun n => tabC_good (List.forall_mem_cons.2 ⟨(spec_l01Size_good n), (List.forall_mem_cons.2 ⟨(spec_l01DrawPoint_good n), (List.forall_mem_cons.2 ⟨(spec_l01Bad_good n), (fun _ h => absurd h List.not_mem_nil)⟩)⟩)⟩)) eqs_ok spec_l01Spoil_Lt ?_ ?_ spec_l01Spoil_sh spec_l01Spoil_run ?_
  · exact (fun _ h => absurd h List.not_mem_nil)
  · exact (fun _ h => absurd h List.not_mem_nil)
  · intro n p κ r ds hd hr
    have hr0 := hr
    unfold spec_l01Spoil_run spec_l01Spoil_runG at hr
    split at hr
    · rw [← ds_of hd]
      exact ⟨en_of (spec_l01Spoil_en _ _ _) ⟨rfl, _, _, rfl⟩, (spec_l01Spoil_ev n _ _ _ κ).trans hr0⟩
    · cases hr

/-! loop.example/g01297/spec.DrawAreaOf -/
def spec_DrawAreaOf_sh : List SkD := [.sl 5 (.int .u8)]
def spec_DrawAreaOf_runG {α : Type} (F : T21 α) (n : Nat) (p : List P1) (κ : Res → Option α) : Option α := match p with
  | [.rows (.int .u8) code] => F n code (fun v1 v2 v3 v4 v5 v6 => κ ⟨[.agg [.int .i64 v1, .int .i64 v2], .agg [.int .i64 v3, .int .i64 v4], .agg [.int .i64 v5, .int .i64 v6]], []⟩)
  | _ => none
def spec_DrawAreaOf_run {α : Type} (n : Nat) (p : List P1) (κ : Res → Option α) : Option α := spec_DrawAreaOf_runG spec_DrawAreaOf n p κ
def spec_DrawAreaOf_CG {α : Type} (F0 : T1 α) (F1 : T20 α) (n : Nat) : FuncId → List D → (Res → Option α) → Option α := tabC [(36, (byShape spec_l01From_sh (spec_l01From_runG F0 n))), (43, (byShape spec_l01Spoil_sh (spec_l01Spoil_runG F1 n)))]
def spec_DrawAreaOf_C {α : Type} (n : Nat) : FuncId → List D → (Res → Option α) → Option α := spec_DrawAreaOf_CG spec_l01From spec_l01Spoil n
def spec_DrawAreaOf_M : FuncId → List Nat := tabM [(43, [1])]
def spec_DrawAreaOf_lpsG {α : Type}  : List (LoopT α) := []
def spec_DrawAreaOf_lps {α : Type} : List (LoopT α) := spec_DrawAreaOf_lpsG
def spec_DrawAreaOf_jt : Nat → Option Tpl := jtOf []
def spec_DrawAreaOf_XG {α : Type} (F0 : T1 α) (F1 : T20 α)  (n : Nat) : Ctx α := ⟨spec_DrawAreaOf_CG F0 F1 n, spec_DrawAreaOf_M, eqs, lpOf (spec_DrawAreaOf_lpsG) n, spec_DrawAreaOf_jt⟩
def spec_DrawAreaOf_X {α : Type} (n : Nat) : Ctx α := spec_DrawAreaOf_XG spec_l01From spec_l01Spoil n
def spec_DrawAreaOf_Lt (np : Nat) (lent : List (Bool × Nat × Blk)) : Prop := np = 1 ∧ lent = []
def spec_DrawAreaOf_body {α : Type} (F0 : T1 α) (F1 : T20 α)  (k : Nat) (code : List Int) (r0 : Int → Int → Int → Int → Int → Int → Option α) : Option α :=
  F0 k code fun v v1 =>
  F1 k code v v1 fun v2 v3 v4 v5 =>
  F1 k code v4 v5 fun v6 v7 v8 v9 =>
  F1 k code v8 v9 fun v10 v11 _ _ =>
  r0 v2 v3 v6 v7 v10 v11
theorem spec_DrawAreaOf_gen {α : Type} (F0 : T1 α) (F1 : T20 α)  (n : Nat) (code : List Int) (κ : Res → Option α) : evFn Try.prog (spec_DrawAreaOf_XG F0 F1 n) Try.f8 (((buildDs spec_DrawAreaOf_sh [.rows (.int .u8) code]).map Prod.fst).getD []) κ = spec_DrawAreaOf_body F0 F1 n code (fun v1 v2 v3 v4 v5 v6 => κ ⟨[.agg [.int .i64 v1, .int .i64 v2], .agg [.int .i64 v3, .int .i64 v4], .agg [.int .i64 v5, .int .i64 v6]], []⟩) := by kernel_rfl
theorem spec_DrawAreaOf_eq {α : Type} (n : Nat) (code : List Int) (r0 : Int → Int → Int → Int → Int → Int → Option α) : spec_DrawAreaOf_body spec_l01From spec_l01Spoil n code r0 = spec_DrawAreaOf n code r0 := (spec_DrawAreaOf_body.eq_1 spec_l01From spec_l01Spoil n code r0).trans (spec_DrawAreaOf.eq_1 n code r0).symm
theorem spec_DrawAreaOf_rn {α : Type} (F : T21 α) (n : Nat) (code : List Int) (κ : Res → Option α) : spec_DrawAreaOf_runG F n [.rows (.int .u8) code] κ = F n code (fun v1 v2 v3 v4 v5 v6 => κ ⟨[.agg [.int .i64 v1, .int .i64 v2], .agg [.int .i64 v3, .int .i64 v4], .agg [.int .i64 v5, .int .i64 v6]], []⟩) := rfl
theorem spec_DrawAreaOf_ev {α : Type} (n : Nat) (code : List Int) (κ : Res → Option α) : evFn Try.prog (spec_DrawAreaOf_X n) Try.f8 (((buildDs spec_DrawAreaOf_sh [.rows (.int .u8) code]).map Prod.fst).getD []) κ = spec_DrawAreaOf_run n [.rows (.int .u8) code] κ := (spec_DrawAreaOf_gen spec_l01From spec_l01Spoil n code κ).trans ((spec_DrawAreaOf_eq n code (fun v1 v2 v3 v4 v5 v6 => κ ⟨[.agg [.int .i64 v1, .int .i64 v2], .agg [.int .i64 v3, .int .i64 v4], .agg [.int .i64 v5, .int .i64 v6]], []⟩)).trans ((spec_DrawAreaOf_run.eq_1 n [.rows (.int .u8) code] κ).trans (spec_DrawAreaOf_rn spec_DrawAreaOf n code κ)).symm)
theorem spec_DrawAreaOf_en (code : List Int) : (entry 0 (((buildDs spec_DrawAreaOf_sh [.rows (.int .u8) code]).map Prod.fst).getD [])).map (fun x => (x.1.length, x.2.lent)) = some (1, []) := by kernel_rfl
theorem spec_DrawAreaOf_good {α : Type} : ∀ n, GoodFn (α := α) Try.prog 8 (byShape spec_DrawAreaOf_sh (spec_DrawAreaOf_run n)) := by
  refine fn_good' Try.func8 (c := (Try.f8.body.getD .skip)) (by kernel_rfl) (by kernel_rfl) (by kernel_rfl) spec_DrawAreaOf_C spec_DrawAreaOf_M eqs spec_DrawAreaOf_lps spec_DrawAreaOf_jt (fun n => tabC_good (List.forall_mem_cons.2 ⟨(spec_l01From_good n), (List.forall_mem_cons.2 ⟨(spec_l01Spoil_good n), (fun _ h => absurd h List.not_mem_nil)⟩)⟩)) eqs_ok spec_DrawAreaOf_Lt ?_ ?_ spec_DrawAreaOf_sh spec_DrawAreaOf_run ?_
  · exact (fun _ h => absurd h List.not_mem_nil)
  · exact (fun _ h => absurd h List.not_mem_nil)
  · intro n p κ r ds hd hr
    have hr0 := hr
    unfold spec_DrawAreaOf_run spec_DrawAreaOf_runG at hr
    split at hr
    · rw [← ds_of hd]
      exact ⟨en_of (spec_DrawAreaOf_en _) ⟨rfl, rfl⟩, (spec_DrawAreaOf_ev n _ κ).trans hr0⟩
    · cases hr

/-! (loop.example/g01297/impl.Point).plus -/
def impl_Point_plus_sh : List SkD := [.agg [.int .i64, .int .i64], .agg [.int .i64, .int .i64], .int .i64]
def impl_Point_plus_runG {α : Type} (F : T22 α) (n : Nat) (p : List P1) (κ : Res → Option α) : Option α := match p with
  | [.int a, .int a1, .int b_, .int b_1, .int k_] => F n a a1 b_ b_1 k_ (fun v1 v2 => κ ⟨[.agg [.int .i64 v1, .int .i64 v2]], []⟩)
  | _ => none
def impl_Point_plus_run {α : Type} (n : Nat) (p : List P1) (κ : Res → Option α) : Option α := impl_Point_plus_runG impl_Point_plus n p κ
def impl_Point_plus_CG {α : Type}  (n : Nat) : FuncId → List D → (Res → Option α) → Option α := tabC []
def impl_Point_plus_C {α : Type} (n : Nat) : FuncId → List D → (Res → Option α) → Option α := impl_Point_plus_CG n
def impl_Point_plus_M : FuncId → List Nat := tabM []
def impl_Point_plus_lpsG {α : Type}  : List (LoopT α) := []
def impl_Point_plus_lps {α : Type} : List (LoopT α) := impl_Point_plus_lpsG
def impl_Point_plus_jt : Nat → Option Tpl := jtOf []
def impl_Point_plus_XG {α : Type}   (n : Nat) : Ctx α := ⟨impl_Point_plus_CG n, impl_Point_plus_M, eqs, lpOf (impl_Point_plus_lpsG) n, impl_Point_plus_jt⟩
def impl_Point_plus_X {α : Type} (n : Nat) : Ctx α := impl_Point_plus_XG n
def impl_Point_plus_Lt (np : Nat) (lent : List (Bool × Nat × Blk)) : Prop := np = 3 ∧ lent = []
def impl_Point_plus_body {α : Type}   (k : Nat) (a : Int) (a1 : Int) (b_ : Int) (b_1 : Int) (k_ : Int) (r0 : Int → Int → Option α) : Option α :=
  r0 (w64 (a + (w64 (k_ * b_)))) (w64 (a1 + (w64 (k_ * b_1))))
theorem impl_Point_plus_gen {α : Type}   (n : Nat) (a : Int) (a1 : Int) (b_ : Int) (b_1 : Int) (k_ : Int) (κ : Res → Option α) : evFn Try.prog (impl_Point_plus_XG n) Try.f69 (((buildDs impl_Point_plus_sh [.int a, .int a1, .int b_, .int b_1, .int k_]).map Prod.fst).getD []) κ = impl_Point_plus_body n a a1 b_ b_1 k_ (fun v1 v2 => κ ⟨[.agg [.int .i64 v1, .int .i64 v2]], []⟩) := by kernel_rfl
theorem impl_Point_plus_eq {α : Type} (n : Nat) (a : Int) (a1 : Int) (b_ : Int) (b_1 : Int) (k_ : Int) (r0 : Int → Int → Option α) : impl_Point_plus_body n a a1 b_ b_1 k_ r0 = impl_Point_plus n a a1 b_ b_1 k_ r0 := (impl_Point_plus_body.eq_1 n a a1 b_ b_1 k_ r0).trans (impl_Point_plus.eq_1 n a a1 b_ b_1 k_ r0).symm
theorem impl_Point_plus_rn {α : Type} (F : T22 α) (n : Nat) (a : Int) (a1 : Int) (b_ : Int) (b_1 : Int) (k_ : Int) (κ : Res → Option α) : impl_Point_plus_runG F n [.int a, .int a1, .int b_, .int b_1, .int k_] κ = F n a a1 b_ b_1 k_ (fun v1 v2 => κ ⟨[.agg [.int .i64 v1, .int .i64 v2]], []⟩) := rfl
theorem impl_Point_plus_ev {α : Type} (n : Nat) (a : Int) (a1 : Int) (b_ : Int) (b_1 : Int) (k_ : Int) (κ : Res → Option α) : evFn Try.prog (impl_Point_plus_X n) Try.f69 (((buildDs impl_Point_plus_sh [.int a, .int a1, .int b_, .int b_1, .int k_]).map Prod.fst).getD []) κ = impl_Point_plus_run n [.int a, .int a1, .int b_, .int b_1, .int k_] κ := (impl_Point_plus_gen n a a1 b_ b_1 k_ κ).trans ((impl_Point_plus_eq n a a1 b_ b_1 k_ (fun v1 v2 => κ ⟨[.agg [.int .i64 v1, .int .i64 v2]], []⟩)).trans ((impl_Point_plus_run.eq_1 n [.int a, .int a1, .int b_, .int b_1, .int k_] κ).trans (impl_Point_plus_rn impl_Point_plus n a a1 b_ b_1 k_ κ)).symm)
theorem impl_Point_plus_en (a : Int) (a1 : Int) (b_ : Int) (b_1 : Int) (k_ : Int) : (entry 0 (((buildDs impl_Point_plus_sh [.int a, .int a1, .int b_, .int b_1, .int k_]).map Prod.fst).getD [])).map (fun x => (x.1.length, x.2.lent)) = some (3, []) := by kernel_rfl
theorem impl_Point_plus_good {α : Type} : ∀ n, GoodFn (α := α) Try.prog 69 (byShape impl_Point_plus_sh (impl_Point_plus_run n)) := by
  refine fn_good' Try.func69 (c := (Try.f69.body.getD .skip)) (by kernel_rfl) (by kernel_rfl) (by kernel_rfl) impl_Point_plus_C impl_Point_plus_M eqs impl_Point_plus_lps impl_Point_plus_jt (fun n => tabC_good (fun _ h => absurd h List.not_mem_nil)) eqs_ok impl_Point_plus_Lt ?_ ?_ impl_Point_plus_sh impl_Point_plus_run ?_
  · exact (fun _ h => absurd h List.not_mem_nil)
  · exact (fun _ h => absurd h List.not_mem_nil)
  · intro n p κ r ds hd hr
    have hr0 := hr
    unfold impl_Point_plus_run impl_Point_plus_runG at hr
    split at hr
    · rw [← ds_of hd]
      exact ⟨en_of (impl_Point_plus_en _ _ _ _ _) ⟨rfl, rfl⟩, (impl_Point_plus_ev n _ _ _ _ _ κ).trans hr0⟩
    · cases hr

/-! (loop.example/g01297/impl.Point).less -/
def impl_Point_less_sh : List SkD := [.agg [.int .i64, .int .i64], .agg [.int .i64, .int .i64]]
def impl_Point_less_runG {α : Type} (F : T23 α) (n : Nat) (p : List P1) (κ : Res → Option α) : Option α := match p with
  | [.int a, .int a1, .int b_, .int b_1] => F n a a1 b_ b_1 (fun v1 v2 => κ ⟨[.agg [.int .i64 v1, .int .i64 v2]], []⟩)
  | _ => none
def impl_Point_less_run {α : Type} (n : Nat) (p : List P1) (κ : Res → Option α) : Option α := impl_Point_less_runG impl_Point_less n p κ
def impl_Point_less_CG {α : Type} (F0 : T22 α) (n : Nat) : FuncId → List D → (Res → Option α) → Option α := tabC [(69, (byShape impl_Point_plus_sh (impl_Point_plus_runG F0 n)))]
def impl_Point_less_C {α : Type} (n : Nat) : FuncId → List D → (Res → Option α) → Option α := impl_Point_less_CG impl_Point_plus n
def impl_Point_less_M : FuncId → List Nat := tabM []
def impl_Point_less_lpsG {α : Type}  : List (LoopT α) := []
def impl_Point_less_lps {α : Type} : List (LoopT α) := impl_Point_less_lpsG
def impl_Point_less_jt : Nat → Option Tpl := jtOf []
def impl_Point_less_XG {α : Type} (F0 : T22 α)  (n : Nat) : Ctx α := ⟨impl_Point_less_CG F0 n, impl_Point_less_M, eqs, lpOf (impl_Point_less_lpsG) n, impl_Point_less_jt⟩
def impl_Point_less_X {α : Type} (n : Nat) : Ctx α := impl_Point_less_XG impl_Point_plus n
def impl_Point_less_Lt (np : Nat) (lent : List (Bool × Nat × Blk)) : Prop := np = 2 ∧ lent = []
def impl_Point_less_body {α : Type} (F0 : T22 α)  (k : Nat) (a : Int) (a1 : Int) (b_ : Int) (b_1 : Int) (r0 : Int → Int → Option α) : Option α :=
  F0 k a a1 b_ b_1 (-1) fun v v1 =>
  r0 v v1
theorem impl_Point_less_gen {α : Type} (F0 : T22 α)  (n : Nat) (a : Int) (a1 : Int) (b_ : Int) (b_1 : Int) (κ : Res → Option α) : evFn Try.prog (impl_Point_less_XG F0 n) Try.f52 (((buildDs impl_Point_less_sh [.int a, .int a1, .int b_, .int b_1]).map Prod.fst).getD []) κ = impl_Point_less_body F0 n a a1 b_ b_1 (fun v1 v2 => κ ⟨[.agg [.int .i64 v1, .int .i64 v2]], []⟩) := by kernel_rfl
theorem impl_Point_less_eq {α : Type} (n : Nat) (a : Int) (a1 : Int) (b_ : Int) (b_1 : Int) (r0 : Int → Int → Option α) : impl_Point_less_body impl_Point_plus n a a1 b_ b_1 r0 = impl_Point_less n a a1 b_ b_1 r0 := (impl_Point_less_body.eq_1 impl_Point_plus n a a1 b_ b_1 r0).trans (impl_Point_less.eq_1 n a a1 b_ b_1 r0).symm
theorem impl_Point_less_rn {α : Type} (F : T23 α) (n : Nat) (a : Int) (a1 : Int) (b_ : Int) (b_1 : Int) (κ : Res → Option α) : impl_Point_less_runG F n [.int a, .int a1, .int b_, .int b_1] κ = F n a a1 b_ b_1 (fun v1 v2 => κ ⟨[.agg [.int .i64 v1, .int .i64 v2]], []⟩) := rfl
theorem impl_Point_less_ev {α : Type} (n : Nat) (a : Int) (a1 : Int) (b_ : Int) (b_1 : Int) (κ : Res → Option α) : evFn Try.prog (impl_Point_less_X n) Try.f52 (((buildDs impl_Point_less_sh [.int a, .int a1, .int b_, .int b_1]).map Prod.fst).getD []) κ = impl_Point_less_run n [.int a, .int a1, .int b_, .int b_1] κ := (impl_Point_less_gen impl_Point_plus n a a1 b_ b_1 κ).trans ((impl_Point_less_eq n a a1 b_ b_1 (fun v1 v2 => κ ⟨[.agg [.int .i64 v1, .int .i64 v2]], []⟩)).trans ((impl_Point_less_run.eq_1 n [.int a, .int a1, .int b_, .int b_1] κ).trans (impl_Point_less_rn impl_Point_less n a a1 b_ b_1 κ)).symm)
theorem impl_Point_less_en (a : Int) (a1 : Int) (b_ : Int) (b_1 : Int) : (entry 0 (((buildDs impl_Point_less_sh [.int a, .int a1, .int b_, .int b_1]).map Prod.fst).getD [])).map (fun x => (x.1.length, x.2.lent)) = some (2, []) := by kernel_rfl
theorem impl_Point_less_good {α : Type} : ∀ n, GoodFn (α := α) Try.prog 52 (byShape impl_Point_less_sh (impl_Point_less_run n)) := by
  refine fn_good' Try.func52 (c := (Try.f52.body.getD .skip)) (by kernel_rfl) (by kernel_rfl) (by kernel_rfl) impl_Point_less_C impl_Point_less_M eqs impl_Point_less_lps impl_Point_less_jt (fun n => tabC_good (List.forall_mem_cons.2 ⟨(impl_Point_plus_good n), (fun _ h => absurd h List.not_mem_nil)⟩)) eqs_ok impl_Point_less_Lt ?_ ?_ impl_Point_less_sh impl_Point_less_run ?_
  · exact (fun _ h => absurd h List.not_mem_nil)
  · exact (fun _ h => absurd h List.not_mem_nil)
  · intro n p κ r ds hd hr
    have hr0 := hr
    unfold impl_Point_less_run impl_Point_less_runG at hr
    split at hr
    · rw [← ds_of hd]
      exact ⟨en_of (impl_Point_less_en _ _ _ _) ⟨rfl, rfl⟩, (impl_Point_less_ev n _ _ _ _ κ).trans hr0⟩
    · cases hr

/-! loop.example/g01297/impl.area -/
def impl_area_sh : List SkD := [.agg [.int .i64, .int .i64], .agg [.int .i64, .int .i64], .agg [.int .i64, .int .i64]]
def impl_area_runG {α : Type} (F : T24 α) (n : Nat) (p : List P1) (κ : Res → Option α) : Option α := match p with
  | [.int a, .int a1, .int b_, .int b_1, .int c, .int c1] => F n a a1 b_ b_1 c c1 (fun v1 => κ ⟨[.int .i64 v1], []⟩)
  | _ => none
def impl_area_run {α : Type} (n : Nat) (p : List P1) (κ : Res → Option α) : Option α := impl_area_runG impl_area n p κ
def impl_area_CG {α : Type} (F0 : T23 α) (F1 : T15 α) (F2 : T16 α) (n : Nat) : FuncId → List D → (Res → Option α) → Option α := tabC [(52, (byShape impl_Point_less_sh (impl_Point_less_runG F0 n))), (63, (byShape impl_det_sh (impl_det_runG F1 n))), (77, (byShape impl_size_sh (impl_size_runG F2 n)))]
def impl_area_C {α : Type} (n : Nat) : FuncId → List D → (Res → Option α) → Option α := impl_area_CG impl_Point_less impl_det impl_size n
def impl_area_M : FuncId → List Nat := tabM []
def impl_area_lpsG {α : Type}  : List (LoopT α) := []
def impl_area_lps {α : Type} : List (LoopT α) := impl_area_lpsG
def impl_area_jt : Nat → Option Tpl := jtOf []
def impl_area_XG {α : Type} (F0 : T23 α) (F1 : T15 α) (F2 : T16 α)  (n : Nat) : Ctx α := ⟨impl_area_CG F0 F1 F2 n, impl_area_M, eqs, lpOf (impl_area_lpsG) n, impl_area_jt⟩
def impl_area_X {α : Type} (n : Nat) : Ctx α := impl_area_XG impl_Point_less impl_det impl_size n
def impl_area_Lt (np : Nat) (lent : List (Bool × Nat × Blk)) : Prop := np = 3 ∧ lent = []
def impl_area_body {α : Type} (F0 : T23 α) (F1 : T15 α) (F2 : T16 α)  (k : Nat) (a : Int) (a1 : Int) (b_ : Int) (b_1 : Int) (c : Int) (c1 : Int) (r0 : Int → Option α) : Option α :=
  F0 k b_ b_1 a a1 fun v v1 =>
  F0 k c c1 a a1 fun v2 v3 =>
  F1 k v v1 v2 v3 fun v4 =>
  F2 k v4 fun v5 =>
  r0 v5
theorem impl_area_gen {α : Type} (F0 : T23 α) (F1 : T15 α) (F2 : T16 α)  (n : Nat) (a : Int) (a1 : Int) (b_ : Int) (b_1 : Int) (c : Int) (c1 : Int) (κ : Res → Option α) : evFn Try.prog (impl_area_XG F0 F1 F2 n) Try.f45 (((buildDs impl_area_sh [.int a, .int a1, .int b_, .int b_1, .int c, .int c1]).map Prod.fst).getD []) κ = impl_area_body F0 F1 F2 n a a1 b_ b_1 c c1 (fun v1 => κ ⟨[.int .i64 v1], []⟩) := by kernel_rfl
theorem impl_area_eq {α : Type} (n : Nat) (a : Int) (a1 : Int) (b_ : Int) (b_1 : Int) (c : Int) (c1 : Int) (r0 : Int → Option α) : impl_area_body impl_Point_less impl_det impl_size n a a1 b_ b_1 c c1 r0 = impl_area n a a1 b_ b_1 c c1 r0 := (impl_area_body.eq_1 impl_Point_less impl_det impl_size n a a1 b_ b_1 c c1 r0).trans (impl_area.eq_1 n a a1 b_ b_1 c c1 r0).symm
theorem impl_area_rn {α : Type} (F : T24 α) (n : Nat) (a : Int) (a1 : Int) (b_ : Int) (b_1 : Int) (c : Int) (c1 : Int) (κ : Res → Option α) : impl_area_runG F n [.int a, .int a1, .int b_, .int b_1, .int c, .int c1] κ = F n a a1 b_ b_1 c c1 (fun v1 => κ ⟨[.int .i64 v1], []⟩) := rfl
theorem impl_area_ev {α : Type} (n : Nat) (a : Int) (a1 : Int) (b_ : Int) (b_1 : Int) (c : Int) (c1 : Int) (κ : Res → Option α) : evFn Try.prog (impl_area_X n) Try.f45 (((buildDs impl_area_sh [.int a, .int a1, .int b_, .int b_1, .int c, .int c1]).map Prod.fst).getD []) κ = impl_area_run n [.int a, .int a1, .int b_, .int b_1, .int c, .int c1] κ := (impl_area_gen impl_Point_less impl_det impl_size n a a1 b_ b_1 c c1 κ).trans ((impl_area_eq n a a1 b_ b_1 c c1 (fun v1 => κ ⟨[.int .i64 v1], []⟩)).trans ((impl_area_run.eq_1 n [.int a, .int a1, .int b_, .int b_1, .int c, .int c1] κ).trans (impl_area_rn impl_area n a a1 b_ b_1 c c1 κ)).symm)
theorem impl_area_en (a : Int) (a1 : Int) (b_ : Int) (b_1 : Int) (c : Int) (c1 : Int) : (entry 0 (((buildDs impl_area_sh [.int a, .int a1, .int b_, .int b_1, .int c, .int c1]).map Prod.fst).getD [])).map (fun x => (x.1.length, x.2.lent)) = some (3, []) := by kernel_rfl
theorem impl_area_good {α : Type} : ∀ n, GoodFn (α := α) Try.prog 45 (byShape impl_area_sh (impl_area_run n)) := by
  refine fn_good' Try.func45 (c := (Try.f45.body.getD .skip)) (by kernel_rfl) (by kernel_rfl) (by kernel_rfl) impl_area_C impl_area_M eqs impl_area_lps impl_area_jt (fun n => tabC_good (List.forall_mem_cons.2 ⟨(impl_Point_less_good n), (List.forall_mem_cons.2 ⟨(impl_det_good n), (List.forall_mem_cons.2 ⟨(impl_size_good n), (fun _ h => absurd h List.not_mem_nil)⟩)⟩)⟩)) eqs_ok impl_area_Lt ?_ ?_ impl_area_sh impl_area_run ?_
  · exact (fun _ h => absurd h List.not_mem_nil)
  · exact (fun _ h => absurd h List.not_mem_nil)
  · intro n p κ r ds hd hr
    have hr0 := hr
    unfold impl_area_run impl_area_runG at hr
    split at hr
    · rw [← ds_of hd]
      exact ⟨en_of (impl_area_en _ _ _ _ _ _) ⟨rfl, rfl⟩, (impl_area_ev n _ _ _ _ _ _ κ).trans hr0⟩
    · cases hr

/-! loop.example/g01297/impl.AreaOf -/
def impl_AreaOf_sh : List SkD := [.agg [.int .i64, .int .i64], .agg [.int .i64, .int .i64], .agg [.int .i64, .int .i64]]
def impl_AreaOf_runG {α : Type} (F : T25 α) (n : Nat) (p : List P1) (κ : Res → Option α) : Option α := match p with
  | [.int a, .int a1, .int b_, .int b_1, .int c, .int c1] => F n a a1 b_ b_1 c c1 (fun v1 v2 => κ ⟨[.int .i64 v1, .int .i64 v2], []⟩)
  | _ => none
def impl_AreaOf_run {α : Type} (n : Nat) (p : List P1) (κ : Res → Option α) : Option α := impl_AreaOf_runG impl_AreaOf n p κ
def impl_AreaOf_CG {α : Type} (F0 : T13 α) (F1 : T24 α) (n : Nat) : FuncId → List D → (Res → Option α) → Option α := tabC [(44, (byShape impl_points_sh (impl_points_runG F0 n))), (45, (byShape impl_area_sh (impl_area_runG F1 n)))]
def impl_AreaOf_C {α : Type} (n : Nat) : FuncId → List D → (Res → Option α) → Option α := impl_AreaOf_CG impl_points impl_area n
def impl_AreaOf_M : FuncId → List Nat := tabM []
def impl_AreaOf_lpsG {α : Type}  : List (LoopT α) := []
def impl_AreaOf_lps {α : Type} : List (LoopT α) := impl_AreaOf_lpsG
def impl_AreaOf_jt : Nat → Option Tpl := jtOf []
def impl_AreaOf_XG {α : Type} (F0 : T13 α) (F1 : T24 α)  (n : Nat) : Ctx α := ⟨impl_AreaOf_CG F0 F1 n, impl_AreaOf_M, eqs, lpOf (impl_AreaOf_lpsG) n, impl_AreaOf_jt⟩
def impl_AreaOf_X {α : Type} (n : Nat) : Ctx α := impl_AreaOf_XG impl_points impl_area n
def impl_AreaOf_Lt (np : Nat) (lent : List (Bool × Nat × Blk)) : Prop := np = 3 ∧ lent = []
def impl_AreaOf_body {α : Type} (F0 : T13 α) (F1 : T24 α)  (k : Nat) (a : Int) (a1 : Int) (b_ : Int) (b_1 : Int) (c : Int) (c1 : Int) (r0 : Int → Int → Option α) : Option α :=
  F0 k [(a, a1), (b_, b_1), (c, c1)] fun v =>
  bif (!v) then
    r0 0 1
  else
    F1 k a a1 b_ b_1 c c1 fun v1 =>
    r0 v1 0
theorem impl_AreaOf_gen {α : Type} (F0 : T13 α) (F1 : T24 α)  (n : Nat) (a : Int) (a1 : Int) (b_ : Int) (b_1 : Int) (c : Int) (c1 : Int) (κ : Res → Option α) : evFn Try.prog (impl_AreaOf_XG F0 F1 n) Try.f9 (((buildDs impl_AreaOf_sh [.int a, .int a1, .int b_, .int b_1, .int c, .int c1]).map Prod.fst).getD []) κ = impl_AreaOf_body F0 F1 n a a1 b_ b_1 c c1 (fun v1 v2 => κ ⟨[.int .i64 v1, .int .i64 v2], []⟩) := by kernel_rfl
theorem impl_AreaOf_eq {α : Type} (n : Nat) (a : Int) (a1 : Int) (b_ : Int) (b_1 : Int) (c : Int) (c1 : Int) (r0 : Int → Int → Option α) : impl_AreaOf_body impl_points impl_area n a a1 b_ b_1 c c1 r0 = impl_AreaOf n a a1 b_ b_1 c c1 r0 := (impl_AreaOf_body.eq_1 impl_points impl_area n a a1 b_ b_1 c c1 r0).trans (impl_AreaOf.eq_1 n a a1 b_ b_1 c c1 r0).symm
theorem impl_AreaOf_rn {α : Type} (F : T25 α) (n : Nat) (a : Int) (a1 : Int) (b_ : Int) (b_1 : Int) (c : Int) (c1 : Int) (κ : Res → Option α) : impl_AreaOf_runG F n [.int a, .int a1, .int b_, .int b_1, .int c, .int c1] κ = F n a a1 b_ b_1 c c1 (fun v1 v2 => κ ⟨[.int .i64 v1, .int .i64 v2], []⟩) := rfl
theorem impl_AreaOf_ev {α : Type} (n : Nat) (a : Int) (a1 : Int) (b_ : Int) (b_1 : Int) (c : Int) (c1 : Int) (κ : Res → Option α) : evFn Try.prog (impl_AreaOf_X n) Try.f9 (((buildDs impl_AreaOf_sh [.int a, .int a1, .int b_, .int b_1, .int c, .int c1]).map Prod.fst).getD []) κ = impl_AreaOf_run n [.int a, .int a1, .int b_, .int b_1, .int c, .int c1] κ := (impl_AreaOf_gen impl_points impl_area n a a1 b_ b_1 c c1 κ).trans ((impl_AreaOf_eq n a a1 b_ b_1 c c1 (fun v1 v2 => κ ⟨[.int .i64 v1, .int .i64 v2], []⟩)).trans ((impl_AreaOf_run.eq_1 n [.int a, .int a1, .int b_, .int b_1, .int c, .int c1] κ).trans (impl_AreaOf_rn impl_AreaOf n a a1 b_ b_1 c c1 κ)).symm)
theorem impl_AreaOf_en (a : Int) (a1 : Int) (b_ : Int) (b_1 : Int) (c : Int) (c1 : Int) : (entry 0 (((buildDs impl_AreaOf_sh [.int a, .int a1, .int b_, .int b_1, .int c, .int c1]).map Prod.fst).getD [])).map (fun x => (x.1.length, x.2.lent)) = some (3, []) := by kernel_rfl
theorem impl_AreaOf_good {α : Type} : ∀ n, GoodFn (α := α) Try.prog 9 (byShape impl_AreaOf_sh (impl_AreaOf_run n)) := by
  refine fn_good' Try.func9 (c := (Try.f9.body.getD .skip)) (by kernel_rfl) (by kernel_rfl) (by kernel_rfl) impl_AreaOf_C impl_AreaOf_M eqs impl_AreaOf_lps impl_AreaOf_jt (fun n => tabC_good (List.forall_mem_cons.2 ⟨(impl_points_good n), (List.forall_mem_cons.2 ⟨(impl_area_good n), (fun _ h => absurd h List.not_mem_nil)⟩)⟩)) eqs_ok impl_AreaOf_Lt ?_ ?_ impl_AreaOf_sh impl_AreaOf_run ?_
  · exact (fun _ h => absurd h List.not_mem_nil)
  · exact (fun _ h => absurd h List.not_mem_nil)
  · intro n p κ r ds hd hr
    have hr0 := hr
    unfold impl_AreaOf_run impl_AreaOf_runG at hr
    split at hr
    · rw [← ds_of hd]
      exact ⟨en_of (impl_AreaOf_en _ _ _ _ _ _) ⟨rfl, rfl⟩, (impl_AreaOf_ev n _ _ _ _ _ _ κ).trans hr0⟩
    · cases hr

/-! loop.example/g01297/spec.l01Is -/
def spec_l01Is_sh : List SkD := [.agg [.int .i64, .int .i64]]
def spec_l01Is_runG {α : Type} (F : T11 α) (n : Nat) (p : List P1) (κ : Res → Option α) : Option α := match p with
  | [.int a, .int a1] => F n a a1 (fun v1 => κ ⟨[.bool v1], []⟩)
  | _ => none
def spec_l01Is_run {α : Type} (n : Nat) (p : List P1) (κ : Res → Option α) : Option α := spec_l01Is_runG spec_l01Is n p κ
def spec_l01Is_CG {α : Type} (F0 : T10 α) (n : Nat) : FuncId → List D → (Res → Option α) → Option α := tabC [(70, (byShape spec_l01Fits_sh (spec_l01Fits_runG F0 n)))]
def spec_l01Is_C {α : Type} (n : Nat) : FuncId → List D → (Res → Option α) → Option α := spec_l01Is_CG spec_l01Fits n
def spec_l01Is_M : FuncId → List Nat := tabM []
def spec_l01Is_lpsG {α : Type}  : List (LoopT α) := []
def spec_l01Is_lps {α : Type} : List (LoopT α) := spec_l01Is_lpsG
def spec_l01Is_jt : Nat → Option Tpl := jtOf []
def spec_l01Is_XG {α : Type} (F0 : T10 α)  (n : Nat) : Ctx α := ⟨spec_l01Is_CG F0 n, spec_l01Is_M, eqs, lpOf (spec_l01Is_lpsG) n, spec_l01Is_jt⟩
def spec_l01Is_X {α : Type} (n : Nat) : Ctx α := spec_l01Is_XG spec_l01Fits n
def spec_l01Is_Lt (np : Nat) (lent : List (Bool × Nat × Blk)) : Prop := np = 1 ∧ lent = []
def spec_l01Is_body {α : Type} (F0 : T10 α)  (k : Nat) (a : Int) (a1 : Int) (r0 : Bool → Option α) : Option α :=
  F0 k a fun v =>
  bif v then
    F0 k a1 fun v1 =>
    r0 v1
  else
    r0 false
theorem spec_l01Is_gen {α : Type} (F0 : T10 α)  (n : Nat) (a : Int) (a1 : Int) (κ : Res → Option α) : evFn Try.prog (spec_l01Is_XG F0 n) Try.f60 (((buildDs spec_l01Is_sh [.int a, .int a1]).map Prod.fst).getD []) κ = spec_l01Is_body F0 n a a1 (fun v1 => κ ⟨[.bool v1], []⟩) := by kernel_rfl
theorem spec_l01Is_eq {α : Type} (n : Nat) (a : Int) (a1 : Int) (r0 : Bool → Option α) : spec_l01Is_body spec_l01Fits n a a1 r0 = spec_l01Is n a a1 r0 := (spec_l01Is_body.eq_1 spec_l01Fits n a a1 r0).trans (spec_l01Is.eq_1 n a a1 r0).symm
theorem spec_l01Is_rn {α : Type} (F : T11 α) (n : Nat) (a : Int) (a1 : Int) (κ : Res → Option α) : spec_l01Is_runG F n [.int a, .int a1] κ = F n a a1 (fun v1 => κ ⟨[.bool v1], []⟩) := rfl
theorem spec_l01Is_ev {α : Type} (n : Nat) (a : Int) (a1 : Int) (κ : Res → Option α) : evFn Try.prog (spec_l01Is_X n) Try.f60 (((buildDs spec_l01Is_sh [.int a, .int a1]).map Prod.fst).getD []) κ = spec_l01Is_run n [.int a, .int a1] κ := (spec_l01Is_gen spec_l01Fits n a a1 κ).trans ((spec_l01Is_eq n a a1 (fun v1 => κ ⟨[.bool v1], []⟩)).trans ((spec_l01Is_run.eq_1 n [.int a, .int a1] κ).trans (spec_l01Is_rn spec_l01Is n a a1 κ)).symm)
theorem spec_l01Is_en (a : Int) (a1 : Int) : (entry 0 (((buildDs spec_l01Is_sh [.int a, .int a1]).map Prod.fst).getD [])).map (fun x => (x.1.length, x.2.lent)) = some (1, []) := by kernel_rfl
theorem spec_l01Is_good {α : Type} : ∀ n, GoodFn (α := α) Try.prog 60 (byShape spec_l01Is_sh (spec_l01Is_run n)) := by
  refine fn_good' Try.func60 (c := (Try.f60.body.getD .skip)) (by kernel_rfl) (by kernel_rfl) (by kernel_rfl) spec_l01Is_C spec_l01Is_M eqs spec_l01Is_lps spec_l01Is_jt (fun n => tabC_good (List.forall_mem_cons.2 ⟨(spec_l01Fits_good n), (fun _ h => absurd h List.not_mem_nil)⟩)) eqs_ok spec_l01Is_Lt ?_ ?_ spec_l01Is_sh spec_l01Is_run ?_
  · exact (fun _ h => absurd h List.not_mem_nil)
  · exact (fun _ h => absurd h List.not_mem_nil)
  · intro n p κ r ds hd hr
    have hr0 := hr
    unfold spec_l01Is_run spec_l01Is_runG at hr
    split at hr
    · rw [← ds_of hd]
      exact ⟨en_of (spec_l01Is_en _ _) ⟨rfl, rfl⟩, (spec_l01Is_ev n _ _ κ).trans hr0⟩
    · cases hr

/-! loop.example/g01297/spec.l01Code -/
def spec_l01Code_sh : List SkD := [.sl 30 .pt]
def spec_l01Code_runG {α : Type} (F : T12 α) (n : Nat) (p : List P1) (κ : Res → Option α) : Option α := match p with
  | [.rows .pt list] => F n list (fun v1 => κ ⟨[.int .i64 v1], []⟩)
  | _ => none
def spec_l01Code_run {α : Type} (n : Nat) (p : List P1) (κ : Res → Option α) : Option α := spec_l01Code_runG spec_l01Code n p κ
def spec_l01Code_CG {α : Type} (F0 : T11 α) (n : Nat) : FuncId → List D → (Res → Option α) → Option α := tabC [(60, (byShape spec_l01Is_sh (spec_l01Is_runG F0 n)))]
def spec_l01Code_C {α : Type} (n : Nat) : FuncId → List D → (Res → Option α) → Option α := spec_l01Code_CG spec_l01Is n
def spec_l01Code_M : FuncId → List Nat := tabM []
def spec_l01Code_t2 : Tpl := ⟨[.sl 0, .any, .any, .int .i64, .any, .any, .any, .any, .any, .any, .any, .any, .any, .any, .any, .any], [(0, .rows 0 30 .pt)], []⟩
def spec_l01Code_uG2 {α : Type} (G : Nat → Int → (List (Int × Int)) → (Int → (List (Int × Int)) → Option α) → (Int → Option α) → Option α) (n : Nat) (p : List P1) (brk : Nat → List P1 → Option α) (ret : Res → Option α) : Option α := match p with
  | [.int i, .rows .pt list1] => G n i list1 (fun i list1 => brk 0 [.int i, .rows .pt list1]) (fun v1 => ret ⟨[.int .i64 v1], []⟩)
  | _ => none
def spec_l01Code_u2 {α : Type} (n : Nat) (p : List P1) (brk : Nat → List P1 → Option α) (ret : Res → Option α) : Option α := spec_l01Code_uG2 spec_l01Code_l2 n p brk ret
def spec_l01Code_lpsG {α : Type} (G2 : Nat → Int → (List (Int × Int)) → (Int → (List (Int × Int)) → Option α) → (Int → Option α) → Option α) : List (LoopT α) := [⟨2, spec_l01Code_t2, spec_l01Code_uG2 G2⟩]
def spec_l01Code_lps {α : Type} : List (LoopT α) := spec_l01Code_lpsG spec_l01Code_l2
def spec_l01Code_jt : Nat → Option Tpl := jtOf []
def spec_l01Code_XG {α : Type} (F0 : T11 α) (G2 : Nat → Int → (List (Int × Int)) → (Int → (List (Int × Int)) → Option α) → (Int → Option α) → Option α) (n : Nat) : Ctx α := ⟨spec_l01Code_CG F0 n, spec_l01Code_M, eqs, lpOf (spec_l01Code_lpsG G2) n, spec_l01Code_jt⟩
def spec_l01Code_X {α : Type} (n : Nat) : Ctx α := spec_l01Code_XG spec_l01Is spec_l01Code_l2 n
def spec_l01Code_Lt (np : Nat) (lent : List (Bool × Nat × Blk)) : Prop := np = 1 ∧ lent = []
def spec_l01Code_lb2 {α : Type} (F0 : T11 α) (G2 : Nat → Int → (List (Int × Int)) → (Int → (List (Int × Int)) → Option α) → (Int → Option α) → Option α) (k : Nat) (i : Int) (list1 : List (Int × Int)) (b0 : Int → (List (Int × Int)) → Option α) (r0 : Int → Option α) : Option α :=
  bif decide (i < (((List.length list1) : Nat) : Int)) then
    bif (decide (0 ≤ i) && decide (i < (((List.length list1) : Nat) : Int))) then
      (list1[i.toNat]?).bind fun e_ =>
      F0 k e_.1 e_.2 fun v =>
      bif (!v) then
        r0 1
      else
        G2 k (w64 (i + 1)) list1 b0 r0
    else
      none
  else
    b0 i list1
theorem spec_l01Code_l2_gen {α : Type} (F0 : T11 α) (G2 : Nat → Int → (List (Int × Int)) → (Int → (List (Int × Int)) → Option α) → (Int → Option α) → Option α) (n : Nat) (i : Int) (list1 : List (Int × Int)) (brk : Nat → List P1 → Option α) (ret : Res → Option α) : ev ((spec_l01Code_XG F0 G2 n).env Try.prog Try.f46 1 []) (findLoop (loopsIn (Try.f46.body.getD .skip)) 2) ((spec_l01Code_t2.build [.int i, .rows .pt list1]).getD ⟨[], []⟩) (roundK (1 * 64) spec_l01Code_t2 (fun q => spec_l01Code_uG2 G2 n q brk ret) brk ret) = spec_l01Code_lb2 F0 G2 n i list1 (fun i list1 => brk 0 [.int i, .rows .pt list1]) (fun v1 => ret ⟨[.int .i64 v1], []⟩) := by kernel_rfl
theorem spec_l01Code_l2_eq {α : Type} (k : Nat) (i : Int) (list1 : List (Int × Int)) (b0 : Int → (List (Int × Int)) → Option α) (r0 : Int → Option α) : spec_l01Code_lb2 spec_l01Is spec_l01Code_l2 k i list1 b0 r0 = spec_l01Code_l2 (k + 1) i list1 b0 r0 := (spec_l01Code_lb2.eq_1 spec_l01Is spec_l01Code_l2 k i list1 b0 r0).trans (show spec_l01Code_l2 (k + 1) i list1 b0 r0 = _ from spec_l01Code_l2.eq_2 _ _ _ _ _ ).symm
theorem spec_l01Code_l2_rn {α : Type} (G : Nat → Int → (List (Int × Int)) → (Int → (List (Int × Int)) → Option α) → (Int → Option α) → Option α) (n : Nat) (i : Int) (list1 : List (Int × Int)) (brk : Nat → List P1 → Option α) (ret : Res → Option α) : spec_l01Code_uG2 G n [.int i, .rows .pt list1] brk ret = G n i list1 (fun i list1 => brk 0 [.int i, .rows .pt list1]) (fun v1 => ret ⟨[.int .i64 v1], []⟩) := rfl
theorem spec_l01Code_l2_ev {α : Type} (n : Nat) (i : Int) (list1 : List (Int × Int)) (brk : Nat → List P1 → Option α) (ret : Res → Option α) : ev ((spec_l01Code_X n).env Try.prog Try.f46 1 []) (findLoop (loopsIn (Try.f46.body.getD .skip)) 2) ((spec_l01Code_t2.build [.int i, .rows .pt list1]).getD ⟨[], []⟩) (roundK (1 * 64) spec_l01Code_t2 (fun q => spec_l01Code_u2 n q brk ret) brk ret) = spec_l01Code_u2 (n + 1) [.int i, .rows .pt list1] brk ret := (spec_l01Code_l2_gen spec_l01Is spec_l01Code_l2 n i list1 brk ret).trans ((spec_l01Code_l2_eq n i list1 (fun i list1 => brk 0 [.int i, .rows .pt list1]) (fun v1 => ret ⟨[.int .i64 v1], []⟩)).trans ((spec_l01Code_u2.eq_1 (n + 1) [.int i, .rows .pt list1] brk ret).trans (spec_l01Code_l2_rn spec_l01Code_l2 (n + 1) i list1 brk ret)).symm)
def spec_l01Code_body {α : Type} (F0 : T11 α) (G2 : Nat → Int → (List (Int × Int)) → (Int → (List (Int × Int)) → Option α) → (Int → Option α) → Option α) (k : Nat) (list : List (Int × Int)) (r0 : Int → Option α) : Option α :=
  G2 k 0 list
    (fun _ _ =>
      r0 0)
    r0
theorem spec_l01Code_gen {α : Type} (F0 : T11 α) (G2 : Nat → Int → (List (Int × Int)) → (Int → (List (Int × Int)) → Option α) → (Int → Option α) → Option α) (n : Nat) (list : List (Int × Int)) (κ : Res → Option α) : evFn Try.prog (spec_l01Code_XG F0 G2 n) Try.f46 (((buildDs spec_l01Code_sh [.rows .pt list]).map Prod.fst).getD []) κ = spec_l01Code_body F0 G2 n list (fun v1 => κ ⟨[.int .i64 v1], []⟩) := by kernel_rfl
theorem spec_l01Code_eq {α : Type} (n : Nat) (list : List (Int × Int)) (r0 : Int → Option α) : spec_l01Code_body spec_l01Is spec_l01Code_l2 n list r0 = spec_l01Code n list r0 := (spec_l01Code_body.eq_1 spec_l01Is spec_l01Code_l2 n list r0).trans (spec_l01Code.eq_1 n list r0).symm
theorem spec_l01Code_rn {α : Type} (F : T12 α) (n : Nat) (list : List (Int × Int)) (κ : Res → Option α) : spec_l01Code_runG F n [.rows .pt list] κ = F n list (fun v1 => κ ⟨[.int .i64 v1], []⟩) := rfl
theorem spec_l01Code_ev {α : Type} (n : Nat) (list : List (Int × Int)) (κ : Res → Option α) : evFn Try.prog (spec_l01Code_X n) Try.f46 (((buildDs spec_l01Code_sh [.rows .pt list]).map Prod.fst).getD []) κ = spec_l01Code_run n [.rows .pt list] κ := (spec_l01Code_gen spec_l01Is spec_l01Code_l2 n list κ).trans ((spec_l01Code_eq n list (fun v1 => κ ⟨[.int .i64 v1], []⟩)).trans ((spec_l01Code_run.eq_1 n [.rows .pt list] κ).trans (spec_l01Code_rn spec_l01Code n list κ)).symm)
theorem spec_l01Code_en (list : List (Int × Int)) : (entry 0 (((buildDs spec_l01Code_sh [.rows .pt list]).map Prod.fst).getD [])).map (fun x => (x.1.length, x.2.lent)) = some (1, []) := by kernel_rfl
theorem spec_l01Code_good {α : Type} : ∀ n, GoodFn (α := α) Try.prog 46 (byShape spec_l01Code_sh (spec_l01Code_run n)) := by
  refine fn_good' Try.func46 (c := (Try.f46.body.getD .skip)) (by kernel_rfl) (by kernel_rfl) (by kernel_rfl) spec_l01Code_C spec_l01Code_M eqs spec_l01Code_lps spec_l01Code_jt (fun n => tabC_good (List.forall_mem_cons.2 ⟨(spec_l01Is_good n), (fun _ h => absurd h List.not_mem_nil)⟩)) eqs_ok spec_l01Code_Lt ?_ ?_ spec_l01Code_sh spec_l01Code_run ?_
  · refine List.forall_mem_cons.2 ⟨?_, (fun _ h => absurd h List.not_mem_nil)⟩
    · intro p brk ret; show spec_l01Code_u2 0 p brk ret = none; unfold spec_l01Code_u2 spec_l01Code_uG2; split <;> rfl
  · refine List.forall_mem_cons.2 ⟨?_, (fun _ h => absurd h List.not_mem_nil)⟩
    · intro np lent hL n p brk ret st r hb hr
      obtain ⟨rfl, rfl⟩ := hL
      rw [← tpl_of hb]
      change spec_l01Code_u2 (n + 1) p brk ret = some r at hr
      have hr0 := hr
      unfold spec_l01Code_u2 spec_l01Code_uG2 at hr
      split at hr
      · exact (spec_l01Code_l2_ev n _ _ brk ret).trans hr0
      · cases hr
  · intro n p κ r ds hd hr
    have hr0 := hr
    unfold spec_l01Code_run spec_l01Code_runG at hr
    split at hr
    · rw [← ds_of hd]
      exact ⟨en_of (spec_l01Code_en _) ⟨rfl, rfl⟩, (spec_l01Code_ev n _ κ).trans hr0⟩
    · cases hr

/-! loop.example/g01297/spec.l01Plus -/
def spec_l01Plus_sh : List SkD := [.agg [.int .i64, .int .i64], .agg [.int .i64, .int .i64], .int .i64]
def spec_l01Plus_runG {α : Type} (F : T22 α) (n : Nat) (p : List P1) (κ : Res → Option α) : Option α := match p with
  | [.int a, .int a1, .int b_, .int b_1, .int k_] => F n a a1 b_ b_1 k_ (fun v1 v2 => κ ⟨[.agg [.int .i64 v1, .int .i64 v2]], []⟩)
  | _ => none
def spec_l01Plus_run {α : Type} (n : Nat) (p : List P1) (κ : Res → Option α) : Option α := spec_l01Plus_runG spec_l01Plus n p κ
def spec_l01Plus_CG {α : Type}  (n : Nat) : FuncId → List D → (Res → Option α) → Option α := tabC []
def spec_l01Plus_C {α : Type} (n : Nat) : FuncId → List D → (Res → Option α) → Option α := spec_l01Plus_CG n
def spec_l01Plus_M : FuncId → List Nat := tabM []
def spec_l01Plus_lpsG {α : Type}  : List (LoopT α) := []
def spec_l01Plus_lps {α : Type} : List (LoopT α) := spec_l01Plus_lpsG
def spec_l01Plus_jt : Nat → Option Tpl := jtOf []
def spec_l01Plus_XG {α : Type}   (n : Nat) : Ctx α := ⟨spec_l01Plus_CG n, spec_l01Plus_M, eqs, lpOf (spec_l01Plus_lpsG) n, spec_l01Plus_jt⟩
def spec_l01Plus_X {α : Type} (n : Nat) : Ctx α := spec_l01Plus_XG n
def spec_l01Plus_Lt (np : Nat) (lent : List (Bool × Nat × Blk)) : Prop := np = 3 ∧ lent = []
def spec_l01Plus_body {α : Type}   (k : Nat) (a : Int) (a1 : Int) (b_ : Int) (b_1 : Int) (k_ : Int) (r0 : Int → Int → Option α) : Option α :=
  r0 (w64 (a + (w64 (k_ * b_)))) (w64 (a1 + (w64 (k_ * b_1))))
theorem spec_l01Plus_gen {α : Type}   (n : Nat) (a : Int) (a1 : Int) (b_ : Int) (b_1 : Int) (k_ : Int) (κ : Res → Option α) : evFn Try.prog (spec_l01Plus_XG n) Try.f72 (((buildDs spec_l01Plus_sh [.int a, .int a1, .int b_, .int b_1, .int k_]).map Prod.fst).getD []) κ = spec_l01Plus_body n a a1 b_ b_1 k_ (fun v1 v2 => κ ⟨[.agg [.int .i64 v1, .int .i64 v2]], []⟩) := by kernel_rfl
theorem spec_l01Plus_eq {α : Type} (n : Nat) (a : Int) (a1 : Int) (b_ : Int) (b_1 : Int) (k_ : Int) (r0 : Int → Int → Option α) : spec_l01Plus_body n a a1 b_ b_1 k_ r0 = spec_l01Plus n a a1 b_ b_1 k_ r0 := (spec_l01Plus_body.eq_1 n a a1 b_ b_1 k_ r0).trans (spec_l01Plus.eq_1 n a a1 b_ b_1 k_ r0).symm
theorem spec_l01Plus_rn {α : Type} (F : T22 α) (n : Nat) (a : Int) (a1 : Int) (b_ : Int) (b_1 : Int) (k_ : Int) (κ : Res → Option α) : spec_l01Plus_runG F n [.int a, .int a1, .int b_, .int b_1, .int k_] κ = F n a a1 b_ b_1 k_ (fun v1 v2 => κ ⟨[.agg [.int .i64 v1, .int .i64 v2]], []⟩) := rfl
theorem spec_l01Plus_ev {α : Type} (n : Nat) (a : Int) (a1 : Int) (b_ : Int) (b_1 : Int) (k_ : Int) (κ : Res → Option α) : evFn Try.prog (spec_l01Plus_X n) Try.f72 (((buildDs spec_l01Plus_sh [.int a, .int a1, .int b_, .int b_1, .int k_]).map Prod.fst).getD []) κ = spec_l01Plus_run n [.int a, .int a1, .int b_, .int b_1, .int k_] κ := (spec_l01Plus_gen n a a1 b_ b_1 k_ κ).trans ((spec_l01Plus_eq n a a1 b_ b_1 k_ (fun v1 v2 => κ ⟨[.agg [.int .i64 v1, .int .i64 v2]], []⟩)).trans ((spec_l01Plus_run.eq_1 n [.int a, .int a1, .int b_, .int b_1, .int k_] κ).trans (spec_l01Plus_rn spec_l01Plus n a a1 b_ b_1 k_ κ)).symm)
theorem spec_l01Plus_en (a : Int) (a1 : Int) (b_ : Int) (b_1 : Int) (k_ : Int) : (entry 0 (((buildDs spec_l01Plus_sh [.int a, .int a1, .int b_, .int b_1, .int k_]).map Prod.fst).getD [])).map (fun x => (x.1.length, x.2.lent)) = some (3, []) := by kernel_rfl
theorem spec_l01Plus_good {α : Type} : ∀ n, GoodFn (α := α) Try.prog 72 (byShape spec_l01Plus_sh (spec_l01Plus_run n)) := by
  refine fn_good' Try.func72 (c := (Try.f72.body.getD .skip)) (by kernel_rfl) (by kernel_rfl) (by kernel_rfl) spec_l01Plus_C spec_l01Plus_M eqs spec_l01Plus_lps spec_l01Plus_jt (fun n => tabC_good (fun _ h => absurd h List.not_mem_nil)) eqs_ok spec_l01Plus_Lt ?_ ?_ spec_l01Plus_sh spec_l01Plus_run ?_
  · exact (fun _ h => absurd h List.not_mem_nil)
  · exact (fun _ h => absurd h List.not_mem_nil)
  · intro n p κ r ds hd hr
    have hr0 := hr
    unfold spec_l01Plus_run spec_l01Plus_runG at hr
    split at hr
    · rw [← ds_of hd]
      exact ⟨en_of (spec_l01Plus_en _ _ _ _ _) ⟨rfl, rfl⟩, (spec_l01Plus_ev n _ _ _ _ _ κ).trans hr0⟩
    · cases hr

/-! loop.example/g01297/spec.l01Det -/
def spec_l01Det_sh : List SkD := [.agg [.int .i64, .int .i64], .agg [.int .i64, .int .i64]]
def spec_l01Det_runG {α : Type} (F : T15 α) (n : Nat) (p : List P1) (κ : Res → Option α) : Option α := match p with
  | [.int a, .int a1, .int b_, .int b_1] => F n a a1 b_ b_1 (fun v1 => κ ⟨[.int .i64 v1], []⟩)
  | _ => none
def spec_l01Det_run {α : Type} (n : Nat) (p : List P1) (κ : Res → Option α) : Option α := spec_l01Det_runG spec_l01Det n p κ
def spec_l01Det_CG {α : Type}  (n : Nat) : FuncId → List D → (Res → Option α) → Option α := tabC []
def spec_l01Det_C {α : Type} (n : Nat) : FuncId → List D → (Res → Option α) → Option α := spec_l01Det_CG n
def spec_l01Det_M : FuncId → List Nat := tabM []
def spec_l01Det_lpsG {α : Type}  : List (LoopT α) := []
def spec_l01Det_lps {α : Type} : List (LoopT α) := spec_l01Det_lpsG
def spec_l01Det_jt : Nat → Option Tpl := jtOf []
def spec_l01Det_XG {α : Type}   (n : Nat) : Ctx α := ⟨spec_l01Det_CG n, spec_l01Det_M, eqs, lpOf (spec_l01Det_lpsG) n, spec_l01Det_jt⟩
def spec_l01Det_X {α : Type} (n : Nat) : Ctx α := spec_l01Det_XG n
def spec_l01Det_Lt (np : Nat) (lent : List (Bool × Nat × Blk)) : Prop := np = 2 ∧ lent = []
def spec_l01Det_body {α : Type}   (k : Nat) (a : Int) (a1 : Int) (b_ : Int) (b_1 : Int) (r0 : Int → Option α) : Option α :=
  r0 (w64 ((w64 (a * b_1)) - (w64 (a1 * b_))))
theorem spec_l01Det_gen {α : Type}   (n : Nat) (a : Int) (a1 : Int) (b_ : Int) (b_1 : Int) (κ : Res → Option α) : evFn Try.prog (spec_l01Det_XG n) Try.f82 (((buildDs spec_l01Det_sh [.int a, .int a1, .int b_, .int b_1]).map Prod.fst).getD []) κ = spec_l01Det_body n a a1 b_ b_1 (fun v1 => κ ⟨[.int .i64 v1], []⟩) := by kernel_rfl
theorem spec_l01Det_eq {α : Type} (n : Nat) (a : Int) (a1 : Int) (b_ : Int) (b_1 : Int) (r0 : Int → Option α) : spec_l01Det_body n a a1 b_ b_1 r0 = spec_l01Det n a a1 b_ b_1 r0 := (spec_l01Det_body.eq_1 n a a1 b_ b_1 r0).trans (spec_l01Det.eq_1 n a a1 b_ b_1 r0).symm
theorem spec_l01Det_rn {α : Type} (F : T15 α) (n : Nat) (a : Int) (a1 : Int) (b_ : Int) (b_1 : Int) (κ : Res → Option α) : spec_l01Det_runG F n [.int a, .int a1, .int b_, .int b_1] κ = F n a a1 b_ b_1 (fun v1 => κ ⟨[.int .i64 v1], []⟩) := rfl
theorem spec_l01Det_ev {α : Type} (n : Nat) (a : Int) (a1 : Int) (b_ : Int) (b_1 : Int) (κ : Res → Option α) : evFn Try.prog (spec_l01Det_X n) Try.f82 (((buildDs spec_l01Det_sh [.int a, .int a1, .int b_, .int b_1]).map Prod.fst).getD []) κ = spec_l01Det_run n [.int a, .int a1, .int b_, .int b_1] κ := (spec_l01Det_gen n a a1 b_ b_1 κ).trans ((spec_l01Det_eq n a a1 b_ b_1 (fun v1 => κ ⟨[.int .i64 v1], []⟩)).trans ((spec_l01Det_run.eq_1 n [.int a, .int a1, .int b_, .int b_1] κ).trans (spec_l01Det_rn spec_l01Det n a a1 b_ b_1 κ)).symm)
theorem spec_l01Det_en (a : Int) (a1 : Int) (b_ : Int) (b_1 : Int) : (entry 0 (((buildDs spec_l01Det_sh [.int a, .int a1, .int b_, .int b_1]).map Prod.fst).getD [])).map (fun x => (x.1.length, x.2.lent)) = some (2, []) := by kernel_rfl
theorem spec_l01Det_good {α : Type} : ∀ n, GoodFn (α := α) Try.prog 82 (byShape spec_l01Det_sh (spec_l01Det_run n)) := by
  refine fn_good' Try.func82 (c := (Try.f82.body.getD .skip)) (by kernel_rfl) (by kernel_rfl) (by kernel_rfl) spec_l01Det_C spec_l01Det_M eqs spec_l01Det_lps spec_l01Det_jt (fun n => tabC_good (fun _ h => absurd h List.not_mem_nil)) eqs_ok spec_l01Det_Lt ?_ ?_ spec_l01Det_sh spec_l01Det_run ?_
  · exact (fun _ h => absurd h List.not_mem_nil)
  · exact (fun _ h => absurd h List.not_mem_nil)
  · intro n p κ r ds hd hr
    have hr0 := hr
    unfold spec_l01Det_run spec_l01Det_runG at hr
    split at hr
    · rw [← ds_of hd]
      exact ⟨en_of (spec_l01Det_en _ _ _ _) ⟨rfl, rfl⟩, (spec_l01Det_ev n _ _ _ _ κ).trans hr0⟩
    · cases hr

/-! loop.example/g01297/spec.l01Area -/
def spec_l01Area_sh : List SkD := [.agg [.int .i64, .int .i64], .agg [.int .i64, .int .i64], .agg [.int .i64, .int .i64]]
def spec_l01Area_runG {α : Type} (F : T24 α) (n : Nat) (p : List P1) (κ : Res → Option α) : Option α := match p with
  | [.int a, .int a1, .int b_, .int b_1, .int c, .int c1] => F n a a1 b_ b_1 c c1 (fun v1 => κ ⟨[.int .i64 v1], []⟩)
  | _ => none
def spec_l01Area_run {α : Type} (n : Nat) (p : List P1) (κ : Res → Option α) : Option α := spec_l01Area_runG spec_l01Area n p κ
def spec_l01Area_CG {α : Type} (F0 : T22 α) (F1 : T15 α) (n : Nat) : FuncId → List D → (Res → Option α) → Option α := tabC [(72, (byShape spec_l01Plus_sh (spec_l01Plus_runG F0 n))), (82, (byShape spec_l01Det_sh (spec_l01Det_runG F1 n)))]
def spec_l01Area_C {α : Type} (n : Nat) : FuncId → List D → (Res → Option α) → Option α := spec_l01Area_CG spec_l01Plus spec_l01Det n
def spec_l01Area_M : FuncId → List Nat := tabM []
def spec_l01Area_lpsG {α : Type}  : List (LoopT α) := []
def spec_l01Area_lps {α : Type} : List (LoopT α) := spec_l01Area_lpsG
def spec_l01Area_jt : Nat → Option Tpl := jtOf []
def spec_l01Area_XG {α : Type} (F0 : T22 α) (F1 : T15 α)  (n : Nat) : Ctx α := ⟨spec_l01Area_CG F0 F1 n, spec_l01Area_M, eqs, lpOf (spec_l01Area_lpsG) n, spec_l01Area_jt⟩
def spec_l01Area_X {α : Type} (n : Nat) : Ctx α := spec_l01Area_XG spec_l01Plus spec_l01Det n
def spec_l01Area_Lt (np : Nat) (lent : List (Bool × Nat × Blk)) : Prop := np = 3 ∧ lent = []
def spec_l01Area_body {α : Type} (F0 : T22 α) (F1 : T15 α)  (k : Nat) (a : Int) (a1 : Int) (b_ : Int) (b_1 : Int) (c : Int) (c1 : Int) (r0 : Int → Option α) : Option α :=
  F0 k b_ b_1 a a1 (-1) fun v v1 =>
  F0 k c c1 a a1 (-1) fun v2 v3 =>
  F1 k v v1 v2 v3 fun v4 =>
  r0 (max v4 (w64 (0 - v4)))
theorem spec_l01Area_gen {α : Type} (F0 : T22 α) (F1 : T15 α)  (n : Nat) (a : Int) (a1 : Int) (b_ : Int) (b_1 : Int) (c : Int) (c1 : Int) (κ : Res → Option α) : evFn Try.prog (spec_l01Area_XG F0 F1 n) Try.f47 (((buildDs spec_l01Area_sh [.int a, .int a1, .int b_, .int b_1, .int c, .int c1]).map Prod.fst).getD []) κ = spec_l01Area_body F0 F1 n a a1 b_ b_1 c c1 (fun v1 => κ ⟨[.int .i64 v1], []⟩) := by kernel_rfl
theorem spec_l01Area_eq {α : Type} (n : Nat) (a : Int) (a1 : Int) (b_ : Int) (b_1 : Int) (c : Int) (c1 : Int) (r0 : Int → Option α) : spec_l01Area_body spec_l01Plus spec_l01Det n a a1 b_ b_1 c c1 r0 = spec_l01Area n a a1 b_ b_1 c c1 r0 := (spec_l01Area_body.eq_1 spec_l01Plus spec_l01Det n a a1 b_ b_1 c c1 r0).trans (spec_l01Area.eq_1 n a a1 b_ b_1 c c1 r0).symm
theorem spec_l01Area_rn {α : Type} (F : T24 α) (n : Nat) (a : Int) (a1 : Int) (b_ : Int) (b_1 : Int) (c : Int) (c1 : Int) (κ : Res → Option α) : spec_l01Area_runG F n [.int a, .int a1, .int b_, .int b_1, .int c, .int c1] κ = F n a a1 b_ b_1 c c1 (fun v1 => κ ⟨[.int .i64 v1], []⟩) := rfl
theorem spec_l01Area_ev {α : Type} (n : Nat) (a : Int) (a1 : Int) (b_ : Int) (b_1 : Int) (c : Int) (c1 : Int) (κ : Res → Option α) : evFn Try.prog (spec_l01Area_X n) Try.f47 (((buildDs spec_l01Area_sh [.int a, .int a1, .int b_, .int b_1, .int c, .int c1]).map Prod.fst).getD []) κ = spec_l01Area_run n [.int a, .int a1, .int b_, .int b_1, .int c, .int c1] κ := (spec_l01Area_gen spec_l01Plus spec_l01Det n a a1 b_ b_1 c c1 κ).trans ((spec_l01Area_eq n a a1 b_ b_1 c c1 (fun v1 => κ ⟨[.int .i64 v1], []⟩)).trans ((spec_l01Area_run.eq_1 n [.int a, .int a1, .int b_, .int b_1, .int c, .int c1] κ).trans (spec_l01Area_rn spec_l01Area n a a1 b_ b_1 c c1 κ)).symm)
theorem spec_l01Area_en (a : Int) (a1 : Int) (b_ : Int) (b_1 : Int) (c : Int) (c1 : Int) : (entry 0 (((buildDs spec_l01Area_sh [.int a, .int a1, .int b_, .int b_1, .int c, .int c1]).map Prod.fst).getD [])).map (fun x => (x.1.length, x.2.lent)) = some (3, []) := by kernel_rfl
theorem spec_l01Area_good {α : Type} : ∀ n, GoodFn (α := α) Try.prog 47 (byShape spec_l01Area_sh (spec_l01Area_run n)) := by
  refine fn_good' Try.func47 (c := (Try.f47.body.getD .skip)) (by kernel_rfl) (by kernel_rfl) (by kernel_rfl) spec_l01Area_C spec_l01Area_M eqs spec_l01Area_lps spec_l01Area_jt (fun n => tabC_good (List.forall_mem_cons.2 ⟨(spec_l01Plus_good n), (List.forall_mem_cons.2 ⟨(spec_l01Det_good n), (fun _ h => absurd h List.not_mem_nil)⟩)⟩)) eqs_ok spec_l01Area_Lt ?_ ?_ spec_l01Area_sh spec_l01Area_run ?_
  · exact (fun _ h => absurd h List.not_mem_nil)
  · exact (fun _ h => absurd h List.not_mem_nil)
  · intro n p κ r ds hd hr
    have hr0 := hr
    unfold spec_l01Area_run spec_l01Area_runG at hr
    split at hr
    · rw [← ds_of hd]
      exact ⟨en_of (spec_l01Area_en _ _ _ _ _ _) ⟨rfl, rfl⟩, (spec_l01Area_ev n _ _ _ _ _ _ κ).trans hr0⟩
    · cases hr

/-! loop.example/g01297/spec.AreaOf -/
def spec_AreaOf_sh : List SkD := [.agg [.int .i64, .int .i64], .agg [.int .i64, .int .i64], .agg [.int .i64, .int .i64]]
def spec_AreaOf_runG {α : Type} (F : T25 α) (n : Nat) (p : List P1) (κ : Res → Option α) : Option α := match p with
  | [.int a, .int a1, .int b_, .int b_1, .int c, .int c1] => F n a a1 b_ b_1 c c1 (fun v1 v2 => κ ⟨[.int .i64 v1, .int .i64 v2], []⟩)
  | _ => none
def spec_AreaOf_run {α : Type} (n : Nat) (p : List P1) (κ : Res → Option α) : Option α := spec_AreaOf_runG spec_AreaOf n p κ
def spec_AreaOf_CG {α : Type} (F0 : T12 α) (F1 : T24 α) (n : Nat) : FuncId → List D → (Res → Option α) → Option α := tabC [(46, (byShape spec_l01Code_sh (spec_l01Code_runG F0 n))), (47, (byShape spec_l01Area_sh (spec_l01Area_runG F1 n)))]
def spec_AreaOf_C {α : Type} (n : Nat) : FuncId → List D → (Res → Option α) → Option α := spec_AreaOf_CG spec_l01Code spec_l01Area n
def spec_AreaOf_M : FuncId → List Nat := tabM []
def spec_AreaOf_lpsG {α : Type}  : List (LoopT α) := []
def spec_AreaOf_lps {α : Type} : List (LoopT α) := spec_AreaOf_lpsG
def spec_AreaOf_jt : Nat → Option Tpl := jtOf []
def spec_AreaOf_XG {α : Type} (F0 : T12 α) (F1 : T24 α)  (n : Nat) : Ctx α := ⟨spec_AreaOf_CG F0 F1 n, spec_AreaOf_M, eqs, lpOf (spec_AreaOf_lpsG) n, spec_AreaOf_jt⟩
def spec_AreaOf_X {α : Type} (n : Nat) : Ctx α := spec_AreaOf_XG spec_l01Code spec_l01Area n
def spec_AreaOf_Lt (np : Nat) (lent : List (Bool × Nat × Blk)) : Prop := np = 3 ∧ lent = []
def spec_AreaOf_body {α : Type} (F0 : T12 α) (F1 : T24 α)  (k : Nat) (a : Int) (a1 : Int) (b_ : Int) (b_1 : Int) (c : Int) (c1 : Int) (r0 : Int → Int → Option α) : Option α :=
  F0 k [(a, a1), (b_, b_1), (c, c1)] fun v =>
  bif (!decide (v = 0)) then
    r0 0 v
  else
    F1 k a a1 b_ b_1 c c1 fun v1 =>
    r0 v1 0
theorem spec_AreaOf_gen {α : Type} (F0 : T12 α) (F1 : T24 α)  (n : Nat) (a : Int) (a1 : Int) (b_ : Int) (b_1 : Int) (c : Int) (c1 : Int) (κ : Res → Option α) : evFn Try.prog (spec_AreaOf_XG F0 F1 n) Try.f10 (((buildDs spec_AreaOf_sh [.int a, .int a1, .int b_, .int b_1, .int c, .int c1]).map Prod.fst).getD []) κ = spec_AreaOf_body F0 F1 n a a1 b_ b_1 c c1 (fun v1 v2 => κ ⟨[.int .i64 v1, .int .i64 v2], []⟩) := by kernel_rfl
theorem spec_AreaOf_eq {α : Type} (n : Nat) (a : Int) (a1 : Int) (b_ : Int) (b_1 : Int) (c : Int) (c1 : Int) (r0 : Int → Int → Option α) : spec_AreaOf_body spec_l01Code spec_l01Area n a a1 b_ b_1 c c1 r0 = spec_AreaOf n a a1 b_ b_1 c c1 r0 := (spec_AreaOf_body.eq_1 spec_l01Code spec_l01Area n a a1 b_ b_1 c c1 r0).trans (spec_AreaOf.eq_1 n a a1 b_ b_1 c c1 r0).symm
theorem spec_AreaOf_rn {α : Type} (F : T25 α) (n : Nat) (a : Int) (a1 : Int) (b_ : Int) (b_1 : Int) (c : Int) (c1 : Int) (κ : Res → Option α) : spec_AreaOf_runG F n [.int a, .int a1, .int b_, .int b_1, .int c, .int c1] κ = F n a a1 b_ b_1 c c1 (fun v1 v2 => κ ⟨[.int .i64 v1, .int .i64 v2], []⟩) := rfl
theorem spec_AreaOf_ev {α : Type} (n : Nat) (a : Int) (a1 : Int) (b_ : Int) (b_1 : Int) (c : Int) (c1 : Int) (κ : Res → Option α) : evFn Try.prog (spec_AreaOf_X n) Try.f10 (((buildDs spec_AreaOf_sh [.int a, .int a1, .int b_, .int b_1, .int c, .int c1]).map Prod.fst).getD []) κ = spec_AreaOf_run n [.int a, .int a1, .int b_, .int b_1, .int c, .int c1] κ := (spec_AreaOf_gen spec_l01Code spec_l01Area n a a1 b_ b_1 c c1 κ).trans ((spec_AreaOf_eq n a a1 b_ b_1 c c1 (fun v1 v2 => κ ⟨[.int .i64 v1, .int .i64 v2], []⟩)).trans ((spec_AreaOf_run.eq_1 n [.int a, .int a1, .int b_, .int b_1, .int c, .int c1] κ).trans (spec_AreaOf_rn spec_AreaOf n a a1 b_ b_1 c c1 κ)).symm)
theorem spec_AreaOf_en (a : Int) (a1 : Int) (b_ : Int) (b_1 : Int) (c : Int) (c1 : Int) : (entry 0 (((buildDs spec_AreaOf_sh [.int a, .int a1, .int b_, .int b_1, .int c, .int c1]).map Prod.fst).getD [])).map (fun x => (x.1.length, x.2.lent)) = some (3, []) := by kernel_rfl
theorem spec_AreaOf_good {α : Type} : ∀ n, GoodFn (α := α) Try.prog 10 (byShape spec_AreaOf_sh (spec_AreaOf_run n)) := by
  refine fn_good' Try.func10 (c := (Try.f10.body.getD .skip)) (by kernel_rfl) (by kernel_rfl) (by kernel_rfl) spec_AreaOf_C spec_AreaOf_M eqs spec_AreaOf_lps spec_AreaOf_jt (fun n => tabC_good (List.forall_mem_cons.2 ⟨(spec_l01Code_good n), (List.forall_mem_cons.2 ⟨(spec_l01Area_good n), (fun _ h => absurd h List.not_mem_nil)⟩)⟩)) eqs_ok spec_AreaOf_Lt ?_ ?_ spec_AreaOf_sh spec_AreaOf_run ?_
  · exact (fun _ h => absurd h List.not_mem_nil)
  · exact (fun _ h => absurd h List.not_mem_nil)
  · intro n p κ r ds hd hr
    have hr0 := hr
    unfold spec_AreaOf_run spec_AreaOf_runG at hr
    split at hr
    · rw [← ds_of hd]
      exact ⟨en_of (spec_AreaOf_en _ _ _ _ _ _) ⟨rfl, rfl⟩, (spec_AreaOf_ev n _ _ _ _ _ _ κ).trans hr0⟩
    · cases hr

/-! loop.example/g01297/spec.IsMatrix -/
def spec_IsMatrix_sh : List SkD := [.agg [.int .i64, .int .i64, .int .i64, .int .i64]]
def spec_IsMatrix_runG {α : Type} (F : T14 α) (n : Nat) (p : List P1) (κ : Res → Option α) : Option α := match p with
  | [.int m, .int m1, .int m2, .int m3] => F n m m1 m2 m3 (fun v1 => κ ⟨[.bool v1], []⟩)
  | _ => none
def spec_IsMatrix_run {α : Type} (n : Nat) (p : List P1) (κ : Res → Option α) : Option α := spec_IsMatrix_runG spec_IsMatrix n p κ
def spec_IsMatrix_CG {α : Type} (F0 : T14 α) (n : Nat) : FuncId → List D → (Res → Option α) → Option α := tabC [(40, (byShape spec_l01Matrix_sh (spec_l01Matrix_runG F0 n)))]
def spec_IsMatrix_C {α : Type} (n : Nat) : FuncId → List D → (Res → Option α) → Option α := spec_IsMatrix_CG spec_l01Matrix n
def spec_IsMatrix_M : FuncId → List Nat := tabM []
def spec_IsMatrix_lpsG {α : Type}  : List (LoopT α) := []
def spec_IsMatrix_lps {α : Type} : List (LoopT α) := spec_IsMatrix_lpsG
def spec_IsMatrix_jt : Nat → Option Tpl := jtOf []
def spec_IsMatrix_XG {α : Type} (F0 : T14 α)  (n : Nat) : Ctx α := ⟨spec_IsMatrix_CG F0 n, spec_IsMatrix_M, eqs, lpOf (spec_IsMatrix_lpsG) n, spec_IsMatrix_jt⟩
def spec_IsMatrix_X {α : Type} (n : Nat) : Ctx α := spec_IsMatrix_XG spec_l01Matrix n
def spec_IsMatrix_Lt (np : Nat) (lent : List (Bool × Nat × Blk)) : Prop := np = 1 ∧ lent = []
def spec_IsMatrix_body {α : Type} (F0 : T14 α)  (k : Nat) (m : Int) (m1 : Int) (m2 : Int) (m3 : Int) (r0 : Bool → Option α) : Option α :=
  F0 k m m1 m2 m3 fun v =>
  r0 v
theorem spec_IsMatrix_gen {α : Type} (F0 : T14 α)  (n : Nat) (m : Int) (m1 : Int) (m2 : Int) (m3 : Int) (κ : Res → Option α) : evFn Try.prog (spec_IsMatrix_XG F0 n) Try.f12 (((buildDs spec_IsMatrix_sh [.int m, .int m1, .int m2, .int m3]).map Prod.fst).getD []) κ = spec_IsMatrix_body F0 n m m1 m2 m3 (fun v1 => κ ⟨[.bool v1], []⟩) := by kernel_rfl
theorem spec_IsMatrix_eq {α : Type} (n : Nat) (m : Int) (m1 : Int) (m2 : Int) (m3 : Int) (r0 : Bool → Option α) : spec_IsMatrix_body spec_l01Matrix n m m1 m2 m3 r0 = spec_IsMatrix n m m1 m2 m3 r0 := (spec_IsMatrix_body.eq_1 spec_l01Matrix n m m1 m2 m3 r0).trans (spec_IsMatrix.eq_1 n m m1 m2 m3 r0).symm
theorem spec_IsMatrix_rn {α : Type} (F : T14 α) (n : Nat) (m : Int) (m1 : Int) (m2 : Int) (m3 : Int) (κ : Res → Option α) : spec_IsMatrix_runG F n [.int m, .int m1, .int m2, .int m3] κ = F n m m1 m2 m3 (fun v1 => κ ⟨[.bool v1], []⟩) := rfl
theorem spec_IsMatrix_ev {α : Type} (n : Nat) (m : Int) (m1 : Int) (m2 : Int) (m3 : Int) (κ : Res → Option α) : evFn Try.prog (spec_IsMatrix_X n) Try.f12 (((buildDs spec_IsMatrix_sh [.int m, .int m1, .int m2, .int m3]).map Prod.fst).getD []) κ = spec_IsMatrix_run n [.int m, .int m1, .int m2, .int m3] κ := (spec_IsMatrix_gen spec_l01Matrix n m m1 m2 m3 κ).trans ((spec_IsMatrix_eq n m m1 m2 m3 (fun v1 => κ ⟨[.bool v1], []⟩)).trans ((spec_IsMatrix_run.eq_1 n [.int m, .int m1, .int m2, .int m3] κ).trans (spec_IsMatrix_rn spec_IsMatrix n m m1 m2 m3 κ)).symm)
theorem spec_IsMatrix_en (m : Int) (m1 : Int) (m2 : Int) (m3 : Int) : (entry 0 (((buildDs spec_IsMatrix_sh [.int m, .int m1, .int m2, .int m3]).map Prod.fst).getD [])).map (fun x => (x.1.length, x.2.lent)) = some (1, []) := by kernel_rfl
theorem spec_IsMatrix_good {α : Type} : ∀ n, GoodFn (α := α) Try.prog 12 (byShape spec_IsMatrix_sh (spec_IsMatrix_run n)) := by
  refine fn_good' Try.func12 (c := (Try.f12.body.getD .skip)) (by kernel_rfl) (by kernel_rfl) (by kernel_rfl) spec_IsMatrix_C spec_IsMatrix_M eqs spec_IsMatrix_lps spec_IsMatrix_jt (fun n => tabC_good (List.forall_mem_cons.2 ⟨(spec_l01Matrix_good n), (fun _ h => absurd h List.not_mem_nil)⟩)) eqs_ok spec_IsMatrix_Lt ?_ ?_ spec_IsMatrix_sh spec_IsMatrix_run ?_
  · exact (fun _ h => absurd h List.not_mem_nil)
  · exact (fun _ h => absurd h List.not_mem_nil)
  · intro n p κ r ds hd hr
    have hr0 := hr
    unfold spec_IsMatrix_run spec_IsMatrix_runG at hr
    split at hr
    · rw [← ds_of hd]
      exact ⟨en_of (spec_IsMatrix_en _ _ _ _) ⟨rfl, rfl⟩, (spec_IsMatrix_ev n _ _ _ _ κ).trans hr0⟩
    · cases hr

/-! (loop.example/g01297/impl.Matrix).column -/
def impl_Matrix_column_sh : List SkD := [.agg [.int .i64, .int .i64, .int .i64, .int .i64], .int .i64]
def impl_Matrix_column_runG {α : Type} (F : T22 α) (n : Nat) (p : List P1) (κ : Res → Option α) : Option α := match p with
  | [.int m, .int m1, .int m2, .int m3, .int k_] => F n m m1 m2 m3 k_ (fun v1 v2 => κ ⟨[.agg [.int .i64 v1, .int .i64 v2]], []⟩)
  | _ => none
def impl_Matrix_column_run {α : Type} (n : Nat) (p : List P1) (κ : Res → Option α) : Option α := impl_Matrix_column_runG impl_Matrix_column n p κ
def impl_Matrix_column_CG {α : Type}  (n : Nat) : FuncId → List D → (Res → Option α) → Option α := tabC []
def impl_Matrix_column_C {α : Type} (n : Nat) : FuncId → List D → (Res → Option α) → Option α := impl_Matrix_column_CG n
def impl_Matrix_column_M : FuncId → List Nat := tabM []
def impl_Matrix_column_lpsG {α : Type}  : List (LoopT α) := []
def impl_Matrix_column_lps {α : Type} : List (LoopT α) := impl_Matrix_column_lpsG
def impl_Matrix_column_jt : Nat → Option Tpl := jtOf []
def impl_Matrix_column_XG {α : Type}   (n : Nat) : Ctx α := ⟨impl_Matrix_column_CG n, impl_Matrix_column_M, eqs, lpOf (impl_Matrix_column_lpsG) n, impl_Matrix_column_jt⟩
def impl_Matrix_column_X {α : Type} (n : Nat) : Ctx α := impl_Matrix_column_XG n
def impl_Matrix_column_Lt (np : Nat) (lent : List (Bool × Nat × Blk)) : Prop := np = 2 ∧ lent = []
def impl_Matrix_column_body {α : Type}   (k : Nat) (m : Int) (m1 : Int) (m2 : Int) (m3 : Int) (k_ : Int) (r0 : Int → Int → Option α) : Option α :=
  bif (decide (0 ≤ k_) && decide (k_ < 2)) then
    ([m, m1, m2, m3][k_.toNat]?).bind fun e_ =>
    bif (decide (0 ≤ k_) && decide (k_ < 2)) then
      ([m, m1, m2, m3][(2 + k_.toNat * 1)]?).bind fun e_1 =>
      r0 e_ e_1
    else
      none
  else
    none
theorem impl_Matrix_column_gen {α : Type}   (n : Nat) (m : Int) (m1 : Int) (m2 : Int) (m3 : Int) (k_ : Int) (κ : Res → Option α) : evFn Try.prog (impl_Matrix_column_XG n) Try.f83 (((buildDs impl_Matrix_column_sh [.int m, .int m1, .int m2, .int m3, .int k_]).map Prod.fst).getD []) κ = impl_Matrix_column_body n m m1 m2 m3 k_ (fun v1 v2 => κ ⟨[.agg [.int .i64 v1, .int .i64 v2]], []⟩) := by kernel_rfl
theorem impl_Matrix_column_eq {α : Type} (n : Nat) (m : Int) (m1 : Int) (m2 : Int) (m3 : Int) (k_ : Int) (r0 : Int → Int → Option α) : impl_Matrix_column_body n m m1 m2 m3 k_ r0 = impl_Matrix_column n m m1 m2 m3 k_ r0 := (impl_Matrix_column_body.eq_1 n m m1 m2 m3 k_ r0).trans (impl_Matrix_column.eq_1 n m m1 m2 m3 k_ r0).symm
theorem impl_Matrix_column_rn {α : Type} (F : T22 α) (n : Nat) (m : Int) (m1 : Int) (m2 : Int) (m3 : Int) (k_ : Int) (κ : Res → Option α) : impl_Matrix_column_runG F n [.int m, .int m1, .int m2, .int m3, .int k_] κ = F n m m1 m2 m3 k_ (fun v1 v2 => κ ⟨[.agg [.int .i64 v1, .int .i64 v2]], []⟩) := rfl
theorem impl_Matrix_column_ev {α : Type} (n : Nat) (m : Int) (m1 : Int) (m2 : Int) (m3 : Int) (k_ : Int) (κ : Res → Option α) : evFn Try.prog (impl_Matrix_column_X n) Try.f83 (((buildDs impl_Matrix_column_sh [.int m, .int m1, .int m2, .int m3, .int k_]).map Prod.fst).getD []) κ = impl_Matrix_column_run n [.int m, .int m1, .int m2, .int m3, .int k_] κ := (impl_Matrix_column_gen n m m1 m2 m3 k_ κ).trans ((impl_Matrix_column_eq n m m1 m2 m3 k_ (fun v1 v2 => κ ⟨[.agg [.int .i64 v1, .int .i64 v2]], []⟩)).trans ((impl_Matrix_column_run.eq_1 n [.int m, .int m1, .int m2, .int m3, .int k_] κ).trans (impl_Matrix_column_rn impl_Matrix_column n m m1 m2 m3 k_ κ)).symm)
theorem impl_Matrix_column_en (m : Int) (m1 : Int) (m2 : Int) (m3 : Int) (k_ : Int) : (entry 0 (((buildDs impl_Matrix_column_sh [.int m, .int m1, .int m2, .int m3, .int k_]).map Prod.fst).getD [])).map (fun x => (x.1.length, x.2.lent)) = some (2, []) := by kernel_rfl
theorem impl_Matrix_column_good {α : Type} : ∀ n, GoodFn (α := α) Try.prog 83 (byShape impl_Matrix_column_sh (impl_Matrix_column_run n)) := by
  refine fn_good' Try.func83 (c := (Try.f83.body.getD .skip)) (by kernel_rfl) (by kernel_rfl) (by kernel_rfl) impl_Matrix_column_C impl_Matrix_column_M eqs impl_Matrix_column_lps impl_Matrix_column_jt (fun n => tabC_good (fun _ h => absurd h List.not_mem_nil)) eqs_ok impl_Matrix_column_Lt ?_ ?_ impl_Matrix_column_sh impl_Matrix_column_run ?_
  · exact (fun _ h => absurd h List.not_mem_nil)
  · exact (fun _ h => absurd h List.not_mem_nil)
  · intro n p κ r ds hd hr
    have hr0 := hr
    unfold impl_Matrix_column_run impl_Matrix_column_runG at hr
    split at hr
    · rw [← ds_of hd]
      exact ⟨en_of (impl_Matrix_column_en _ _ _ _ _) ⟨rfl, rfl⟩, (impl_Matrix_column_ev n _ _ _ _ _ κ).trans hr0⟩
    · cases hr

/-! (loop.example/g01297/impl.Matrix).apply -/
def impl_Matrix_apply_sh : List SkD := [.agg [.int .i64, .int .i64, .int .i64, .int .i64], .agg [.int .i64, .int .i64]]
def impl_Matrix_apply_runG {α : Type} (F : T25 α) (n : Nat) (p : List P1) (κ : Res → Option α) : Option α := match p with
  | [.int m, .int m1, .int m2, .int m3, .int a, .int a1] => F n m m1 m2 m3 a a1 (fun v1 v2 => κ ⟨[.agg [.int .i64 v1, .int .i64 v2]], []⟩)
  | _ => none
def impl_Matrix_apply_run {α : Type} (n : Nat) (p : List P1) (κ : Res → Option α) : Option α := impl_Matrix_apply_runG impl_Matrix_apply n p κ
def impl_Matrix_apply_CG {α : Type}  (n : Nat) : FuncId → List D → (Res → Option α) → Option α := tabC []
def impl_Matrix_apply_C {α : Type} (n : Nat) : FuncId → List D → (Res → Option α) → Option α := impl_Matrix_apply_CG n
def impl_Matrix_apply_M : FuncId → List Nat := tabM []
def impl_Matrix_apply_lpsG {α : Type}  : List (LoopT α) := []
def impl_Matrix_apply_lps {α : Type} : List (LoopT α) := impl_Matrix_apply_lpsG
def impl_Matrix_apply_jt : Nat → Option Tpl := jtOf []
def impl_Matrix_apply_XG {α : Type}   (n : Nat) : Ctx α := ⟨impl_Matrix_apply_CG n, impl_Matrix_apply_M, eqs, lpOf (impl_Matrix_apply_lpsG) n, impl_Matrix_apply_jt⟩
def impl_Matrix_apply_X {α : Type} (n : Nat) : Ctx α := impl_Matrix_apply_XG n
def impl_Matrix_apply_Lt (np : Nat) (lent : List (Bool × Nat × Blk)) : Prop := np = 2 ∧ lent = []
def impl_Matrix_apply_body {α : Type}   (k : Nat) (m : Int) (m1 : Int) (m2 : Int) (m3 : Int) (a : Int) (a1 : Int) (r0 : Int → Int → Option α) : Option α :=
  r0 (w64 ((w64 (m * a)) + (w64 (m1 * a1)))) (w64 ((w64 (m2 * a)) + (w64 (m3 * a1))))
theorem impl_Matrix_apply_gen {α : Type}   (n : Nat) (m : Int) (m1 : Int) (m2 : Int) (m3 : Int) (a : Int) (a1 : Int) (κ : Res → Option α) : evFn Try.prog (impl_Matrix_apply_XG n) Try.f50 (((buildDs impl_Matrix_apply_sh [.int m, .int m1, .int m2, .int m3, .int a, .int a1]).map Prod.fst).getD []) κ = impl_Matrix_apply_body n m m1 m2 m3 a a1 (fun v1 v2 => κ ⟨[.agg [.int .i64 v1, .int .i64 v2]], []⟩) := by kernel_rfl
theorem impl_Matrix_apply_eq {α : Type} (n : Nat) (m : Int) (m1 : Int) (m2 : Int) (m3 : Int) (a : Int) (a1 : Int) (r0 : Int → Int → Option α) : impl_Matrix_apply_body n m m1 m2 m3 a a1 r0 = impl_Matrix_apply n m m1 m2 m3 a a1 r0 := (impl_Matrix_apply_body.eq_1 n m m1 m2 m3 a a1 r0).trans (impl_Matrix_apply.eq_1 n m m1 m2 m3 a a1 r0).symm
theorem impl_Matrix_apply_rn {α : Type} (F : T25 α) (n : Nat) (m : Int) (m1 : Int) (m2 : Int) (m3 : Int) (a : Int) (a1 : Int) (κ : Res → Option α) : impl_Matrix_apply_runG F n [.int m, .int m1, .int m2, .int m3, .int a, .int a1] κ = F n m m1 m2 m3 a a1 (fun v1 v2 => κ ⟨[.agg [.int .i64 v1, .int .i64 v2]], []⟩) := rfl
theorem impl_Matrix_apply_ev {α : Type} (n : Nat) (m : Int) (m1 : Int) (m2 : Int) (m3 : Int) (a : Int) (a1 : Int) (κ : Res → Option α) : evFn Try.prog (impl_Matrix_apply_X n) Try.f50 (((buildDs impl_Matrix_apply_sh [.int m, .int m1, .int m2, .int m3, .int a, .int a1]).map Prod.fst).getD []) κ = impl_Matrix_apply_run n [.int m, .int m1, .int m2, .int m3, .int a, .int a1] κ := (impl_Matrix_apply_gen n m m1 m2 m3 a a1 κ).trans ((impl_Matrix_apply_eq n m m1 m2 m3 a a1 (fun v1 v2 => κ ⟨[.agg [.int .i64 v1, .int .i64 v2]], []⟩)).trans ((impl_Matrix_apply_run.eq_1 n [.int m, .int m1, .int m2, .int m3, .int a, .int a1] κ).trans (impl_Matrix_apply_rn impl_Matrix_apply n m m1 m2 m3 a a1 κ)).symm)
theorem impl_Matrix_apply_en (m : Int) (m1 : Int) (m2 : Int) (m3 : Int) (a : Int) (a1 : Int) : (entry 0 (((buildDs impl_Matrix_apply_sh [.int m, .int m1, .int m2, .int m3, .int a, .int a1]).map Prod.fst).getD [])).map (fun x => (x.1.length, x.2.lent)) = some (2, []) := by kernel_rfl
theorem impl_Matrix_apply_good {α : Type} : ∀ n, GoodFn (α := α) Try.prog 50 (byShape impl_Matrix_apply_sh (impl_Matrix_apply_run n)) := by
  refine fn_good' Try.func50 (c := (Try.f50.body.getD .skip)) (by kernel_rfl) (by kernel_rfl) (by kernel_rfl) impl_Matrix_apply_C impl_Matrix_apply_M eqs impl_Matrix_apply_lps impl_Matrix_apply_jt (fun n => tabC_good (fun _ h => absurd h List.not_mem_nil)) eqs_ok impl_Matrix_apply_Lt ?_ ?_ impl_Matrix_apply_sh impl_Matrix_apply_run ?_
  · exact (fun _ h => absurd h List.not_mem_nil)
  · exact (fun _ h => absurd h List.not_mem_nil)
  · intro n p κ r ds hd hr
    have hr0 := hr
    unfold impl_Matrix_apply_run impl_Matrix_apply_runG at hr
    split at hr
    · rw [← ds_of hd]
      exact ⟨en_of (impl_Matrix_apply_en _ _ _ _ _ _) ⟨rfl, rfl⟩, (impl_Matrix_apply_ev n _ _ _ _ _ _ κ).trans hr0⟩
    · cases hr

/-! (loop.example/g01297/impl.Matrix).times -/
def impl_Matrix_times_sh : List SkD := [.agg [.int .i64, .int .i64, .int .i64, .int .i64], .agg [.int .i64, .int .i64, .int .i64, .int .i64]]
def impl_Matrix_times_runG {α : Type} (F : T3 α) (n : Nat) (p : List P1) (κ : Res → Option α) : Option α := match p with
  | [.int m, .int m1, .int m2, .int m3, .int n_, .int n_1, .int n_2, .int n_3] => F n m m1 m2 m3 n_ n_1 n_2 n_3 (fun v1 v2 v3 v4 => κ ⟨[.agg [.int .i64 v1, .int .i64 v2, .int .i64 v3, .int .i64 v4]], []⟩)
  | _ => none
def impl_Matrix_times_run {α : Type} (n : Nat) (p : List P1) (κ : Res → Option α) : Option α := impl_Matrix_times_runG impl_Matrix_times n p κ
def impl_Matrix_times_CG {α : Type} (F0 : T22 α) (F1 : T25 α) (n : Nat) : FuncId → List D → (Res → Option α) → Option α := tabC [(83, (byShape impl_Matrix_column_sh (impl_Matrix_column_runG F0 n))), (50, (byShape impl_Matrix_apply_sh (impl_Matrix_apply_runG F1 n)))]
def impl_Matrix_times_C {α : Type} (n : Nat) : FuncId → List D → (Res → Option α) → Option α := impl_Matrix_times_CG impl_Matrix_column impl_Matrix_apply n
def impl_Matrix_times_M : FuncId → List Nat := tabM []
def impl_Matrix_times_lpsG {α : Type}  : List (LoopT α) := []
def impl_Matrix_times_lps {α : Type} : List (LoopT α) := impl_Matrix_times_lpsG
def impl_Matrix_times_jt : Nat → Option Tpl := jtOf []
def impl_Matrix_times_XG {α : Type} (F0 : T22 α) (F1 : T25 α)  (n : Nat) : Ctx α := ⟨impl_Matrix_times_CG F0 F1 n, impl_Matrix_times_M, eqs, lpOf (impl_Matrix_times_lpsG) n, impl_Matrix_times_jt⟩
def impl_Matrix_times_X {α : Type} (n : Nat) : Ctx α := impl_Matrix_times_XG impl_Matrix_column impl_Matrix_apply n
def impl_Matrix_times_Lt (np : Nat) (lent : List (Bool × Nat × Blk)) : Prop := np = 2 ∧ lent = []
def impl_Matrix_times_body {α : Type} (F0 : T22 α) (F1 : T25 α)  (k : Nat) (m : Int) (m1 : Int) (m2 : Int) (m3 : Int) (n_ : Int) (n_1 : Int) (n_2 : Int) (n_3 : Int) (r0 : Int → Int → Int → Int → Option α) : Option α :=
  F0 k n_ n_1 n_2 n_3 0 fun v v1 =>
  F1 k m m1 m2 m3 v v1 fun v2 v3 =>
  F0 k n_ n_1 n_2 n_3 1 fun v4 v5 =>
  F1 k m m1 m2 m3 v4 v5 fun v6 v7 =>
  r0 v2 v6 v3 v7
theorem impl_Matrix_times_gen {α : Type} (F0 : T22 α) (F1 : T25 α)  (n : Nat) (m : Int) (m1 : Int) (m2 : Int) (m3 : Int) (n_ : Int) (n_1 : Int) (n_2 : Int) (n_3 : Int) (κ : Res → Option α) : evFn Try.prog (impl_Matrix_times_XG F0 F1 n) Try.f48 (((buildDs impl_Matrix_times_sh [.int m, .int m1, .int m2, .int m3, .int n_, .int n_1, .int n_2, .int n_3]).map Prod.fst).getD []) κ = impl_Matrix_times_body F0 F1 n m m1 m2 m3 n_ n_1 n_2 n_3 (fun v1 v2 v3 v4 => κ ⟨[.agg [.int .i64 v1, .int .i64 v2, .int .i64 v3, .int .i64 v4]], []⟩) := by kernel_rfl
theorem impl_Matrix_times_eq {α : Type} (n : Nat) (m : Int) (m1 : Int) (m2 : Int) (m3 : Int) (n_ : Int) (n_1 : Int) (n_2 : Int) (n_3 : Int) (r0 : Int → Int → Int → Int → Option α) : impl_Matrix_times_body impl_Matrix_column impl_Matrix_apply n m m1 m2 m3 n_ n_1 n_2 n_3 r0 = impl_Matrix_times n m m1 m2 m3 n_ n_1 n_2 n_3 r0 := (impl_Matrix_times_body.eq_1 impl_Matrix_column impl_Matrix_apply n m m1 m2 m3 n_ n_1 n_2 n_3 r0).trans (impl_Matrix_times.eq_1 n m m1 m2 m3 n_ n_1 n_2 n_3 r0).symm
theorem impl_Matrix_times_rn {α : Type} (F : T3 α) (n : Nat) (m : Int) (m1 : Int) (m2 : Int) (m3 : Int) (n_ : Int) (n_1 : Int) (n_2 : Int) (n_3 : Int) (κ : Res → Option α) : impl_Matrix_times_runG F n [.int m, .int m1, .int m2, .int m3, .int n_, .int n_1, .int n_2, .int n_3] κ = F n m m1 m2 m3 n_ n_1 n_2 n_3 (fun v1 v2 v3 v4 => κ ⟨[.agg [.int .i64 v1, .int .i64 v2, .int .i64 v3, .int .i64 v4]], []⟩) := rfl
theorem impl_Matrix_times_ev {α : Type} (n : Nat) (m : Int) (m1 : Int) (m2 : Int) (m3 : Int) (n_ : Int) (n_1 : Int) (n_2 : Int) (n_3 : Int) (κ : Res → Option α) : evFn Try.prog (impl_Matrix_times_X n) Try.f48 (((buildDs impl_Matrix_times_sh [.int m, .int m1, .int m2, .int m3, .int n_, .int n_1, .int n_2, .int n_3]).map Prod.fst).getD []) κ = impl_Matrix_times_run n [.int m, .int m1, .int m2, .int m3, .int n_, .int n_1, .int n_2, .int n_3] κ := (impl_Matrix_times_gen impl_Matrix_column impl_Matrix_apply n m m1 m2 m3 n_ n_1 n_2 n_3 κ).trans ((impl_Matrix_times_eq n m m1 m2 m3 n_ n_1 n_2 n_3 (fun v1 v2 v3 v4 => κ ⟨[.agg [.int .i64 v1, .int .i64 v2, .int .i64 v3, .int .i64 v4]], []⟩)).trans ((impl_Matrix_times_run.eq_1 n [.int m, .int m1, .int m2, .int m3, .int n_, .int n_1, .int n_2, .int n_3] κ).trans (impl_Matrix_times_rn impl_Matrix_times n m m1 m2 m3 n_ n_1 n_2 n_3 κ)).symm)
theorem impl_Matrix_times_en (m : Int) (m1 : Int) (m2 : Int) (m3 : Int) (n_ : Int) (n_1 : Int) (n_2 : Int) (n_3 : Int) : (entry 0 (((buildDs impl_Matrix_times_sh [.int m, .int m1, .int m2, .int m3, .int n_, .int n_1, .int n_2, .int n_3]).map Prod.fst).getD [])).map (fun x => (x.1.length, x.2.lent)) = some (2, []) := by kernel_rfl
theorem impl_Matrix_times_good {α : Type} : ∀ n, GoodFn (α := α) Try.prog 48 (byShape impl_Matrix_times_sh (impl_Matrix_times_run n)) := by
  refine fn_good' Try.func48 (c := (Try.f48.body.getD .skip)) (by kernel_rfl) (by kernel_rfl) (by kernel_rfl) impl_Matrix_times_C impl_Matrix_times_M eqs impl_Matrix_times_lps impl_Matrix_times_jt (fun n => tabC_good (List.forall_mem_cons.2 ⟨(impl_Matrix_column_good n), (List.forall_mem_cons.2 ⟨(impl_Matrix_apply_good n), (fun _ h => absurd h List.not_mem_nil)⟩)⟩)) eqs_ok impl_Matrix_times_Lt ?_ ?_ impl_Matrix_times_sh impl_Matrix_times_run ?_
  · exact (fun _ h => absurd h List.not_mem_nil)
  · exact (fun _ h => absurd h List.not_mem_nil)
  · intro n p κ r ds hd hr
    have hr0 := hr
    unfold impl_Matrix_times_run impl_Matrix_times_runG at hr
    split at hr
    · rw [← ds_of hd]
      exact ⟨en_of (impl_Matrix_times_en _ _ _ _ _ _ _ _) ⟨rfl, rfl⟩, (impl_Matrix_times_ev n _ _ _ _ _ _ _ _ κ).trans hr0⟩
    · cases hr

/-! loop.example/g01297/impl.MultiplyMatrices -/
def impl_MultiplyMatrices_sh : List SkD := [.agg [.int .i64, .int .i64, .int .i64, .int .i64], .agg [.int .i64, .int .i64, .int .i64, .int .i64]]
def impl_MultiplyMatrices_runG {α : Type} (F : T26 α) (n : Nat) (p : List P1) (κ : Res → Option α) : Option α := match p with
  | [.int m, .int m1, .int m2, .int m3, .int n_, .int n_1, .int n_2, .int n_3] => F n m m1 m2 m3 n_ n_1 n_2 n_3 (fun v1 v2 v3 v4 v5 => κ ⟨[.agg [.int .i64 v1, .int .i64 v2, .int .i64 v3, .int .i64 v4], .int .i64 v5], []⟩)
  | _ => none
def impl_MultiplyMatrices_run {α : Type} (n : Nat) (p : List P1) (κ : Res → Option α) : Option α := impl_MultiplyMatrices_runG impl_MultiplyMatrices n p κ
def impl_MultiplyMatrices_CG {α : Type} (F0 : T14 α) (F1 : T3 α) (F2 : T18 α) (n : Nat) : FuncId → List D → (Res → Option α) → Option α := tabC [(11, (byShape impl_IsMatrix_sh (impl_IsMatrix_runG F0 n))), (48, (byShape impl_Matrix_times_sh (impl_Matrix_times_runG F1 n))), (39, (byShape impl_Matrix_told_sh (impl_Matrix_told_runG F2 n)))]
def impl_MultiplyMatrices_C {α : Type} (n : Nat) : FuncId → List D → (Res → Option α) → Option α := impl_MultiplyMatrices_CG impl_IsMatrix impl_Matrix_times impl_Matrix_told n
def impl_MultiplyMatrices_M : FuncId → List Nat := tabM []
def impl_MultiplyMatrices_lpsG {α : Type}  : List (LoopT α) := []
def impl_MultiplyMatrices_lps {α : Type} : List (LoopT α) := impl_MultiplyMatrices_lpsG
def impl_MultiplyMatrices_jt : Nat → Option Tpl := jtOf []
def impl_MultiplyMatrices_XG {α : Type} (F0 : T14 α) (F1 : T3 α) (F2 : T18 α)  (n : Nat) : Ctx α := ⟨impl_MultiplyMatrices_CG F0 F1 F2 n, impl_MultiplyMatrices_M, eqs, lpOf (impl_MultiplyMatrices_lpsG) n, impl_MultiplyMatrices_jt⟩
def impl_MultiplyMatrices_X {α : Type} (n : Nat) : Ctx α := impl_MultiplyMatrices_XG impl_IsMatrix impl_Matrix_times impl_Matrix_told n
def impl_MultiplyMatrices_Lt (np : Nat) (lent : List (Bool × Nat × Blk)) : Prop := np = 2 ∧ lent = []
def impl_MultiplyMatrices_body {α : Type} (F0 : T14 α) (F1 : T3 α) (F2 : T18 α)  (k : Nat) (m : Int) (m1 : Int) (m2 : Int) (m3 : Int) (n_ : Int) (n_1 : Int) (n_2 : Int) (n_3 : Int) (r0 : Int → Int → Int → Int → Int → Option α) : Option α :=
  F0 k m m1 m2 m3 fun v =>
  bif (!v) then
    r0 0 0 0 0 1
  else
    F0 k n_ n_1 n_2 n_3 fun v1 =>
    bif (!v1) then
      r0 0 0 0 0 1
    else
      F1 k m m1 m2 m3 n_ n_1 n_2 n_3 fun v2 v3 v4 v5 =>
      F2 k v2 v3 v4 v5 fun v6 v7 v8 v9 v10 =>
      r0 v6 v7 v8 v9 v10
theorem impl_MultiplyMatrices_gen {α : Type} (F0 : T14 α) (F1 : T3 α) (F2 : T18 α)  (n : Nat) (m : Int) (m1 : Int) (m2 : Int) (m3 : Int) (n_ : Int) (n_1 : Int) (n_2 : Int) (n_3 : Int) (κ : Res → Option α) : evFn Try.prog (impl_MultiplyMatrices_XG F0 F1 F2 n) Try.f13 (((buildDs impl_MultiplyMatrices_sh [.int m, .int m1, .int m2, .int m3, .int n_, .int n_1, .int n_2, .int n_3]).map Prod.fst).getD []) κ = impl_MultiplyMatrices_body F0 F1 F2 n m m1 m2 m3 n_ n_1 n_2 n_3 (fun v1 v2 v3 v4 v5 => κ ⟨[.agg [.int .i64 v1, .int .i64 v2, .int .i64 v3, .int .i64 v4], .int .i64 v5], []⟩) := by kernel_rfl
theorem impl_MultiplyMatrices_eq {α : Type} (n : Nat) (m : Int) (m1 : Int) (m2 : Int) (m3 : Int) (n_ : Int) (n_1 : Int) (n_2 : Int) (n_3 : Int) (r0 : Int → Int → Int → Int → Int → Option α) : impl_MultiplyMatrices_body impl_IsMatrix impl_Matrix_times impl_Matrix_told n m m1 m2 m3 n_ n_1 n_2 n_3 r0 = impl_MultiplyMatrices n m m1 m2 m3 n_ n_1 n_2 n_3 r0 := (impl_MultiplyMatrices_body.eq_1 impl_IsMatrix impl_Matrix_times impl_Matrix_told n m m1 m2 m3 n_ n_1 n_2 n_3 r0).trans (impl_MultiplyMatrices.eq_1 n m m1 m2 m3 n_ n_1 n_2 n_3 r0).symm
theorem impl_MultiplyMatrices_rn {α : Type} (F : T26 α) (n : Nat) (m : Int) (m1 : Int) (m2 : Int) (m3 : Int) (n_ : Int) (n_1 : Int) (n_2 : Int) (n_3 : Int) (κ : Res → Option α) : impl_MultiplyMatrices_runG F n [.int m, .int m1, .int m2, .int m3, .int n_, .int n_1, .int n_2, .int n_3] κ = F n m m1 m2 m3 n_ n_1 n_2 n_3 (fun v1 v2 v3 v4 v5 => κ ⟨[.agg [.int .i64 v1, .int .i64 v2, .int .i64 v3, .int .i64 v4], .int .i64 v5], []⟩) := rfl
theorem impl_MultiplyMatrices_ev {α : Type} (n : Nat) (m : Int) (m1 : Int) (m2 : Int) (m3 : Int) (n_ : Int) (n_1 : Int) (n_2 : Int) (n_3 : Int) (κ : Res → Option α) : evFn Try.prog (impl_MultiplyMatrices_X n) Try.f13 (((buildDs impl_MultiplyMatrices_sh [.int m, .int m1, .int m2, .int m3, .int n_, .int n_1, .int n_2, .int n_3]).map Prod.fst).getD []) κ = impl_MultiplyMatrices_run n [.int m, .int m1, .int m2, .int m3, .int n_, .int n_1, .int n_2, .int n_3] κ := (impl_MultiplyMatrices_gen impl_IsMatrix impl_Matrix_times impl_Matrix_told n m m1 m2 m3 n_ n_1 n_2 n_3 κ).trans ((impl_MultiplyMatrices_eq n m m1 m2 m3 n_ n_1 n_2 n_3 (fun v1 v2 v3 v4 v5 => κ ⟨[.agg [.int .i64 v1, .int .i64 v2, .int .i64 v3, .int .i64 v4], .int .i64 v5], []⟩)).trans ((impl_MultiplyMatrices_run.eq_1 n [.int m, .int m1, .int m2, .int m3, .int n_, .int n_1, .int n_2, .int n_3] κ).trans (impl_MultiplyMatrices_rn impl_MultiplyMatrices n m m1 m2 m3 n_ n_1 n_2 n_3 κ)).symm)
theorem impl_MultiplyMatrices_en (m : Int) (m1 : Int) (m2 : Int) (m3 : Int) (n_ : Int) (n_1 : Int) (n_2 : Int) (n_3 : Int) : (entry 0 (((buildDs impl_MultiplyMatrices_sh [.int m, .int m1, .int m2, .int m3, .int n_, .int n_1, .int n_2, .int n_3]).map Prod.fst).getD [])).map (fun x => (x.1.length, x.2.lent)) = some (2, []) := by kernel_rfl
theorem impl_MultiplyMatrices_good {α : Type} : ∀ n, GoodFn (α := α) Try.prog 13 (byShape impl_MultiplyMatrices_sh (impl_MultiplyMatrices_run n)) := by
  refine fn_good' Try.func13 (c := (Try.f13.body.getD .skip)) (by kernel_rfl) (by kernel_rfl) (by kernel_rfl) impl_MultiplyMatrices_C impl_MultiplyMatrices_M eqs impl_MultiplyMatrices_lps impl_MultiplyMatrices_jt (fun n => tabC_good (List.forall_mem_cons.2 ⟨(impl_IsMatrix_good n), (List.forall_mem_cons.2 ⟨(impl_Matrix_times_good n), (List.forall_mem_cons.2 ⟨(impl_Matrix_told_good n), (fun _ h => absurd h List.not_mem_nil)⟩)⟩)⟩)) eqs_ok impl_MultiplyMatrices_Lt ?_ ?_ impl_MultiplyMatrices_sh impl_MultiplyMatrices_run ?_
  · exact (fun _ h => absurd h List.not_mem_nil)
  · exact (fun _ h => absurd h List.not_mem_nil)
  · intro n p κ r ds hd hr
    have hr0 := hr
    unfold impl_MultiplyMatrices_run impl_MultiplyMatrices_runG at hr
    split at hr
    · rw [← ds_of hd]
      exact ⟨en_of (impl_MultiplyMatrices_en _ _ _ _ _ _ _ _) ⟨rfl, rfl⟩, (impl_MultiplyMatrices_ev n _ _ _ _ _ _ _ _ κ).trans hr0⟩
    · cases hr

/-! (loop.example/g01297/impl.Point).told -/
def impl_Point_told_sh : List SkD := [.agg [.int .i64, .int .i64]]
def impl_Point_told_runG {α : Type} (F : T27 α) (n : Nat) (p : List P1) (κ : Res → Option α) : Option α := match p with
  | [.int a, .int a1] => F n a a1 (fun v1 v2 v3 => κ ⟨[.agg [.int .i64 v1, .int .i64 v2], .int .i64 v3], []⟩)
  | _ => none
def impl_Point_told_run {α : Type} (n : Nat) (p : List P1) (κ : Res → Option α) : Option α := impl_Point_told_runG impl_Point_told n p κ
def impl_Point_told_CG {α : Type} (F0 : T11 α) (n : Nat) : FuncId → List D → (Res → Option α) → Option α := tabC [(49, (byShape impl_IsPoint_sh (impl_IsPoint_runG F0 n)))]
def impl_Point_told_C {α : Type} (n : Nat) : FuncId → List D → (Res → Option α) → Option α := impl_Point_told_CG impl_IsPoint n
def impl_Point_told_M : FuncId → List Nat := tabM []
def impl_Point_told_lpsG {α : Type}  : List (LoopT α) := []
def impl_Point_told_lps {α : Type} : List (LoopT α) := impl_Point_told_lpsG
def impl_Point_told_jt : Nat → Option Tpl := jtOf []
def impl_Point_told_XG {α : Type} (F0 : T11 α)  (n : Nat) : Ctx α := ⟨impl_Point_told_CG F0 n, impl_Point_told_M, eqs, lpOf (impl_Point_told_lpsG) n, impl_Point_told_jt⟩
def impl_Point_told_X {α : Type} (n : Nat) : Ctx α := impl_Point_told_XG impl_IsPoint n
def impl_Point_told_Lt (np : Nat) (lent : List (Bool × Nat × Blk)) : Prop := np = 1 ∧ lent = []
def impl_Point_told_body {α : Type} (F0 : T11 α)  (k : Nat) (a : Int) (a1 : Int) (r0 : Int → Int → Int → Option α) : Option α :=
  F0 k a a1 fun v =>
  bif (!v) then
    r0 0 0 3
  else
    r0 a a1 0
theorem impl_Point_told_gen {α : Type} (F0 : T11 α)  (n : Nat) (a : Int) (a1 : Int) (κ : Res → Option α) : evFn Try.prog (impl_Point_told_XG F0 n) Try.f51 (((buildDs impl_Point_told_sh [.int a, .int a1]).map Prod.fst).getD []) κ = impl_Point_told_body F0 n a a1 (fun v1 v2 v3 => κ ⟨[.agg [.int .i64 v1, .int .i64 v2], .int .i64 v3], []⟩) := by kernel_rfl
theorem impl_Point_told_eq {α : Type} (n : Nat) (a : Int) (a1 : Int) (r0 : Int → Int → Int → Option α) : impl_Point_told_body impl_IsPoint n a a1 r0 = impl_Point_told n a a1 r0 := (impl_Point_told_body.eq_1 impl_IsPoint n a a1 r0).trans (impl_Point_told.eq_1 n a a1 r0).symm
theorem impl_Point_told_rn {α : Type} (F : T27 α) (n : Nat) (a : Int) (a1 : Int) (κ : Res → Option α) : impl_Point_told_runG F n [.int a, .int a1] κ = F n a a1 (fun v1 v2 v3 => κ ⟨[.agg [.int .i64 v1, .int .i64 v2], .int .i64 v3], []⟩) := rfl
theorem impl_Point_told_ev {α : Type} (n : Nat) (a : Int) (a1 : Int) (κ : Res → Option α) : evFn Try.prog (impl_Point_told_X n) Try.f51 (((buildDs impl_Point_told_sh [.int a, .int a1]).map Prod.fst).getD []) κ = impl_Point_told_run n [.int a, .int a1] κ := (impl_Point_told_gen impl_IsPoint n a a1 κ).trans ((impl_Point_told_eq n a a1 (fun v1 v2 v3 => κ ⟨[.agg [.int .i64 v1, .int .i64 v2], .int .i64 v3], []⟩)).trans ((impl_Point_told_run.eq_1 n [.int a, .int a1] κ).trans (impl_Point_told_rn impl_Point_told n a a1 κ)).symm)
theorem impl_Point_told_en (a : Int) (a1 : Int) : (entry 0 (((buildDs impl_Point_told_sh [.int a, .int a1]).map Prod.fst).getD [])).map (fun x => (x.1.length, x.2.lent)) = some (1, []) := by kernel_rfl
theorem impl_Point_told_good {α : Type} : ∀ n, GoodFn (α := α) Try.prog 51 (byShape impl_Point_told_sh (impl_Point_told_run n)) := by
  refine fn_good' Try.func51 (c := (Try.f51.body.getD .skip)) (by kernel_rfl) (by kernel_rfl) (by kernel_rfl) impl_Point_told_C impl_Point_told_M eqs impl_Point_told_lps impl_Point_told_jt (fun n => tabC_good (List.forall_mem_cons.2 ⟨(impl_IsPoint_good n), (fun _ h => absurd h List.not_mem_nil)⟩)) eqs_ok impl_Point_told_Lt ?_ ?_ impl_Point_told_sh impl_Point_told_run ?_
  · exact (fun _ h => absurd h List.not_mem_nil)
  · exact (fun _ h => absurd h List.not_mem_nil)
  · intro n p κ r ds hd hr
    have hr0 := hr
    unfold impl_Point_told_run impl_Point_told_runG at hr
    split at hr
    · rw [← ds_of hd]
      exact ⟨en_of (impl_Point_told_en _ _) ⟨rfl, rfl⟩, (impl_Point_told_ev n _ _ κ).trans hr0⟩
    · cases hr

/-! loop.example/g01297/impl.ApplyMatrix -/
def impl_ApplyMatrix_sh : List SkD := [.agg [.int .i64, .int .i64, .int .i64, .int .i64], .agg [.int .i64, .int .i64]]
def impl_ApplyMatrix_runG {α : Type} (F : T28 α) (n : Nat) (p : List P1) (κ : Res → Option α) : Option α := match p with
  | [.int m, .int m1, .int m2, .int m3, .int a, .int a1] => F n m m1 m2 m3 a a1 (fun v1 v2 v3 => κ ⟨[.agg [.int .i64 v1, .int .i64 v2], .int .i64 v3], []⟩)
  | _ => none
def impl_ApplyMatrix_run {α : Type} (n : Nat) (p : List P1) (κ : Res → Option α) : Option α := impl_ApplyMatrix_runG impl_ApplyMatrix n p κ
def impl_ApplyMatrix_CG {α : Type} (F0 : T14 α) (F1 : T11 α) (F2 : T25 α) (F3 : T27 α) (n : Nat) : FuncId → List D → (Res → Option α) → Option α := tabC [(11, (byShape impl_IsMatrix_sh (impl_IsMatrix_runG F0 n))), (49, (byShape impl_IsPoint_sh (impl_IsPoint_runG F1 n))), (50, (byShape impl_Matrix_apply_sh (impl_Matrix_apply_runG F2 n))), (51, (byShape impl_Point_told_sh (impl_Point_told_runG F3 n)))]
def impl_ApplyMatrix_C {α : Type} (n : Nat) : FuncId → List D → (Res → Option α) → Option α := impl_ApplyMatrix_CG impl_IsMatrix impl_IsPoint impl_Matrix_apply impl_Point_told n
def impl_ApplyMatrix_M : FuncId → List Nat := tabM []
def impl_ApplyMatrix_lpsG {α : Type}  : List (LoopT α) := []
def impl_ApplyMatrix_lps {α : Type} : List (LoopT α) := impl_ApplyMatrix_lpsG
def impl_ApplyMatrix_jt : Nat → Option Tpl := jtOf []
def impl_ApplyMatrix_XG {α : Type} (F0 : T14 α) (F1 : T11 α) (F2 : T25 α) (F3 : T27 α)  (n : Nat) : Ctx α := ⟨impl_ApplyMatrix_CG F0 F1 F2 F3 n, impl_ApplyMatrix_M, eqs, lpOf (impl_ApplyMatrix_lpsG) n, impl_ApplyMatrix_jt⟩
def impl_ApplyMatrix_X {α : Type} (n : Nat) : Ctx α := impl_ApplyMatrix_XG impl_IsMatrix impl_IsPoint impl_Matrix_apply impl_Point_told n
def impl_ApplyMatrix_Lt (np : Nat) (lent : List (Bool × Nat × Blk)) : Prop := np = 2 ∧ lent = []
def impl_ApplyMatrix_body {α : Type} (F0 : T14 α) (F1 : T11 α) (F2 : T25 α) (F3 : T27 α)  (k : Nat) (m : Int) (m1 : Int) (m2 : Int) (m3 : Int) (a : Int) (a1 : Int) (r0 : Int → Int → Int → Option α) : Option α :=
  F0 k m m1 m2 m3 fun v =>
  bif (!v) then
    r0 0 0 1
  else
    F1 k a a1 fun v1 =>
    bif (!v1) then
      r0 0 0 1
    else
      F2 k m m1 m2 m3 a a1 fun v2 v3 =>
      F3 k v2 v3 fun v4 v5 v6 =>
      r0 v4 v5 v6
theorem impl_ApplyMatrix_gen {α : Type} (F0 : T14 α) (F1 : T11 α) (F2 : T25 α) (F3 : T27 α)  (n : Nat) (m : Int) (m1 : Int) (m2 : Int) (m3 : Int) (a : Int) (a1 : Int) (κ : Res → Option α) : evFn Try.prog (impl_ApplyMatrix_XG F0 F1 F2 F3 n) Try.f14 (((buildDs impl_ApplyMatrix_sh [.int m, .int m1, .int m2, .int m3, .int a, .int a1]).map Prod.fst).getD []) κ = impl_ApplyMatrix_body F0 F1 F2 F3 n m m1 m2 m3 a a1 (fun v1 v2 v3 => κ ⟨[.agg [.int .i64 v1, .int .i64 v2], .int .i64 v3], []⟩) := by kernel_rfl
theorem impl_ApplyMatrix_eq {α : Type} (n : Nat) (m : Int) (m1 : Int) (m2 : Int) (m3 : Int) (a : Int) (a1 : Int) (r0 : Int → Int → Int → Option α) : impl_ApplyMatrix_body impl_IsMatrix impl_IsPoint impl_Matrix_apply impl_Point_told n m m1 m2 m3 a a1 r0 = impl_ApplyMatrix n m m1 m2 m3 a a1 r0 := (impl_ApplyMatrix_body.eq_1 impl_IsMatrix impl_IsPoint impl_Matrix_apply impl_Point_told n m m1 m2 m3 a a1 r0).trans (impl_ApplyMatrix.eq_1 n m m1 m2 m3 a a1 r0).symm
theorem impl_ApplyMatrix_rn {α : Type} (F : T28 α) (n : Nat) (m : Int) (m1 : Int) (m2 : Int) (m3 : Int) (a : Int) (a1 : Int) (κ : Res → Option α) : impl_ApplyMatrix_runG F n [.int m, .int m1, .int m2, .int m3, .int a, .int a1] κ = F n m m1 m2 m3 a a1 (fun v1 v2 v3 => κ ⟨[.agg [.int .i64 v1, .int .i64 v2], .int .i64 v3], []⟩) := rfl
theorem impl_ApplyMatrix_ev {α : Type} (n : Nat) (m : Int) (m1 : Int) (m2 : Int) (m3 : Int) (a : Int) (a1 : Int) (κ : Res → Option α) : evFn Try.prog (impl_ApplyMatrix_X n) Try.f14 (((buildDs impl_ApplyMatrix_sh [.int m, .int m1, .int m2, .int m3, .int a, .int a1]).map Prod.fst).getD []) κ = impl_ApplyMatrix_run n [.int m, .int m1, .int m2, .int m3, .int a, .int a1] κ := (impl_ApplyMatrix_gen impl_IsMatrix impl_IsPoint impl_Matrix_apply impl_Point_told n m m1 m2 m3 a a1 κ).trans ((impl_ApplyMatrix_eq n m m1 m2 m3 a a1 (fun v1 v2 v3 => κ ⟨[.agg [.int .i64 v1, .int .i64 v2], .int .i64 v3], []⟩)).trans ((impl_ApplyMatrix_run.eq_1 n [.int m, .int m1, .int m2, .int m3, .int a, .int a1] κ).trans (impl_ApplyMatrix_rn impl_ApplyMatrix n m m1 m2 m3 a a1 κ)).symm)
theorem impl_ApplyMatrix_en (m : Int) (m1 : Int) (m2 : Int) (m3 : Int) (a : Int) (a1 : Int) : (entry 0 (((buildDs impl_ApplyMatrix_sh [.int m, .int m1, .int m2, .int m3, .int a, .int a1]).map Prod.fst).getD [])).map (fun x => (x.1.length, x.2.lent)) = some (2, []) := by kernel_rfl
theorem impl_ApplyMatrix_good {α : Type} : ∀ n, GoodFn (α := α) Try.prog 14 (byShape impl_ApplyMatrix_sh (impl_ApplyMatrix_run n)) := by
  refine fn_good' Try.func14 (c := (Try.f14.body.getD .skip)) (by kernel_rfl) (by kernel_rfl) (by kernel_rfl) impl_ApplyMatrix_C impl_ApplyMatrix_M eqs impl_ApplyMatrix_lps impl_ApplyMatrix_jt (fun n => tabC_good (List.forall_mem_cons.2 ⟨(impl_IsMatrix_good n), (List.forall_mem_cons.2 ⟨(impl_IsPoint_good n), (List.forall_mem_cons.2 ⟨(impl_Matrix_apply_good n), (List.forall_mem_cons.2 ⟨(impl_Point_told_good n), (fun _ h => absurd h List.not_mem_nil)⟩)⟩)⟩)⟩)) eqs_ok impl_ApplyMatrix_Lt ?_ ?_ impl_ApplyMatrix_sh impl_ApplyMatrix_run ?_
  · exact (fun _ h => absurd h List.not_mem_nil)
  · exact (fun _ h => absurd h List.not_mem_nil)
  · intro n p κ r ds hd hr
    have hr0 := hr
    unfold impl_ApplyMatrix_run impl_ApplyMatrix_runG at hr
    split at hr
    · rw [← ds_of hd]
      exact ⟨en_of (impl_ApplyMatrix_en _ _ _ _ _ _) ⟨rfl, rfl⟩, (impl_ApplyMatrix_ev n _ _ _ _ _ _ κ).trans hr0⟩
    · cases hr

/-! loop.example/g01297/impl.gcd -/
def impl_gcd_sh : List SkD := [.int .i64, .int .i64]
def impl_gcd_runG {α : Type} (F : T29 α) (n : Nat) (p : List P1) (κ : Res → Option α) : Option α := match p with
  | [.int a, .int b_] => F n a b_ (fun v1 => κ ⟨[.int .i64 v1], []⟩)
  | _ => none
def impl_gcd_run {α : Type} (n : Nat) (p : List P1) (κ : Res → Option α) : Option α := impl_gcd_runG impl_gcd n p κ
def impl_gcd_CG {α : Type} (F0 : T16 α) (n : Nat) : FuncId → List D → (Res → Option α) → Option α := tabC [(77, (byShape impl_size_sh (impl_size_runG F0 n)))]
def impl_gcd_C {α : Type} (n : Nat) : FuncId → List D → (Res → Option α) → Option α := impl_gcd_CG impl_size n
def impl_gcd_M : FuncId → List Nat := tabM []
def impl_gcd_t1 : Tpl := ⟨[.int .i64, .int .i64, .any, .any, .any, .any, .any, .any, .any, .any, .any, .any, .any], [], []⟩
def impl_gcd_uG1 {α : Type} (G : Nat → Int → Int → (Int → Int → Option α) → (Int → Option α) → Option α) (n : Nat) (p : List P1) (brk : Nat → List P1 → Option α) (ret : Res → Option α) : Option α := match p with
  | [.int a1, .int b_1] => G n a1 b_1 (fun a1 b_1 => brk 0 [.int a1, .int b_1]) (fun v1 => ret ⟨[.int .i64 v1], []⟩)
  | _ => none
def impl_gcd_u1 {α : Type} (n : Nat) (p : List P1) (brk : Nat → List P1 → Option α) (ret : Res → Option α) : Option α := impl_gcd_uG1 impl_gcd_l1 n p brk ret
def impl_gcd_lpsG {α : Type} (G1 : Nat → Int → Int → (Int → Int → Option α) → (Int → Option α) → Option α) : List (LoopT α) := [⟨1, impl_gcd_t1, impl_gcd_uG1 G1⟩]
def impl_gcd_lps {α : Type} : List (LoopT α) := impl_gcd_lpsG impl_gcd_l1
def impl_gcd_jt : Nat → Option Tpl := jtOf []
def impl_gcd_XG {α : Type} (F0 : T16 α) (G1 : Nat → Int → Int → (Int → Int → Option α) → (Int → Option α) → Option α) (n : Nat) : Ctx α := ⟨impl_gcd_CG F0 n, impl_gcd_M, eqs, lpOf (impl_gcd_lpsG G1) n, impl_gcd_jt⟩
def impl_gcd_X {α : Type} (n : Nat) : Ctx α := impl_gcd_XG impl_size impl_gcd_l1 n
def impl_gcd_Lt (np : Nat) (lent : List (Bool × Nat × Blk)) : Prop := np = 2 ∧ lent = []
def impl_gcd_lb1 {α : Type} (F0 : T16 α) (G1 : Nat → Int → Int → (Int → Int → Option α) → (Int → Option α) → Option α) (k : Nat) (a1 : Int) (b_1 : Int) (b0 : Int → Int → Option α) (r0 : Int → Option α) : Option α :=
  bif (!decide (b_1 = 0)) then
    bif decide (b_1 = 0) then
      none
    else
      G1 k b_1 (Int.tmod a1 b_1) b0 r0
  else
    b0 a1 b_1
theorem impl_gcd_l1_gen {α : Type} (F0 : T16 α) (G1 : Nat → Int → Int → (Int → Int → Option α) → (Int → Option α) → Option α) (n : Nat) (a1 : Int) (b_1 : Int) (brk : Nat → List P1 → Option α) (ret : Res → Option α) : ev ((impl_gcd_XG F0 G1 n).env Try.prog Try.f84 2 []) (findLoop (loopsIn (Try.f84.body.getD .skip)) 1) ((impl_gcd_t1.build [.int a1, .int b_1]).getD ⟨[], []⟩) (roundK (2 * 64) impl_gcd_t1 (fun q => impl_gcd_uG1 G1 n q brk ret) brk ret) = impl_gcd_lb1 F0 G1 n a1 b_1 (fun a1 b_1 => brk 0 [.int a1, .int b_1]) (fun v1 => ret ⟨[.int .i64 v1], []⟩) := by kernel_rfl
theorem impl_gcd_l1_eq {α : Type} (k : Nat) (a1 : Int) (b_1 : Int) (b0 : Int → Int → Option α) (r0 : Int → Option α) : impl_gcd_lb1 impl_size impl_gcd_l1 k a1 b_1 b0 r0 = impl_gcd_l1 (k + 1) a1 b_1 b0 r0 := (impl_gcd_lb1.eq_1 impl_size impl_gcd_l1 k a1 b_1 b0 r0).trans (show impl_gcd_l1 (k + 1) a1 b_1 b0 r0 = _ from impl_gcd_l1.eq_2 _ _ _ _ _ ).symm
theorem impl_gcd_l1_rn {α : Type} (G : Nat → Int → Int → (Int → Int → Option α) → (Int → Option α) → Option α) (n : Nat) (a1 : Int) (b_1 : Int) (brk : Nat → List P1 → Option α) (ret : Res → Option α) : impl_gcd_uG1 G n [.int a1, .int b_1] brk ret = G n a1 b_1 (fun a1 b_1 => brk 0 [.int a1, .int b_1]) (fun v1 => ret ⟨[.int .i64 v1], []⟩) := rfl
theorem impl_gcd_l1_ev {α : Type} (n : Nat) (a1 : Int) (b_1 : Int) (brk : Nat → List P1 → Option α) (ret : Res → Option α) : ev ((impl_gcd_X n).env Try.prog Try.f84 2 []) (findLoop (loopsIn (Try.f84.body.getD .skip)) 1) ((impl_gcd_t1.build [.int a1, .int b_1]).getD ⟨[], []⟩) (roundK (2 * 64) impl_gcd_t1 (fun q => impl_gcd_u1 n q brk ret) brk ret) = impl_gcd_u1 (n + 1) [.int a1, .int b_1] brk ret := (impl_gcd_l1_gen impl_size impl_gcd_l1 n a1 b_1 brk ret).trans ((impl_gcd_l1_eq n a1 b_1 (fun a1 b_1 => brk 0 [.int a1, .int b_1]) (fun v1 => ret ⟨[.int .i64 v1], []⟩)).trans ((impl_gcd_u1.eq_1 (n + 1) [.int a1, .int b_1] brk ret).trans (impl_gcd_l1_rn impl_gcd_l1 (n + 1) a1 b_1 brk ret)).symm)
def impl_gcd_body {α : Type} (F0 : T16 α) (G1 : Nat → Int → Int → (Int → Int → Option α) → (Int → Option α) → Option α) (k : Nat) (a : Int) (b_ : Int) (r0 : Int → Option α) : Option α :=
  G1 k a b_
    (fun a2 _ =>
      F0 k a2 fun v =>
      r0 v)
    r0
theorem impl_gcd_gen {α : Type} (F0 : T16 α) (G1 : Nat → Int → Int → (Int → Int → Option α) → (Int → Option α) → Option α) (n : Nat) (a : Int) (b_ : Int) (κ : Res → Option α) : evFn Try.prog (impl_gcd_XG F0 G1 n) Try.f84 (((buildDs impl_gcd_sh [.int a, .int b_]).map Prod.fst).getD []) κ = impl_gcd_body F0 G1 n a b_ (fun v1 => κ ⟨[.int .i64 v1], []⟩) := by kernel_rfl
theorem impl_gcd_eq {α : Type} (n : Nat) (a : Int) (b_ : Int) (r0 : Int → Option α) : impl_gcd_body impl_size impl_gcd_l1 n a b_ r0 = impl_gcd n a b_ r0 := (impl_gcd_body.eq_1 impl_size impl_gcd_l1 n a b_ r0).trans (impl_gcd.eq_1 n a b_ r0).symm
theorem impl_gcd_rn {α : Type} (F : T29 α) (n : Nat) (a : Int) (b_ : Int) (κ : Res → Option α) : impl_gcd_runG F n [.int a, .int b_] κ = F n a b_ (fun v1 => κ ⟨[.int .i64 v1], []⟩) := rfl
theorem impl_gcd_ev {α : Type} (n : Nat) (a : Int) (b_ : Int) (κ : Res → Option α) : evFn Try.prog (impl_gcd_X n) Try.f84 (((buildDs impl_gcd_sh [.int a, .int b_]).map Prod.fst).getD []) κ = impl_gcd_run n [.int a, .int b_] κ := (impl_gcd_gen impl_size impl_gcd_l1 n a b_ κ).trans ((impl_gcd_eq n a b_ (fun v1 => κ ⟨[.int .i64 v1], []⟩)).trans ((impl_gcd_run.eq_1 n [.int a, .int b_] κ).trans (impl_gcd_rn impl_gcd n a b_ κ)).symm)
theorem impl_gcd_en (a : Int) (b_ : Int) : (entry 0 (((buildDs impl_gcd_sh [.int a, .int b_]).map Prod.fst).getD [])).map (fun x => (x.1.length, x.2.lent)) = some (2, []) := by kernel_rfl
theorem impl_gcd_good {α : Type} : ∀ n, GoodFn (α := α) Try.prog 84 (byShape impl_gcd_sh (impl_gcd_run n)) := by
  refine fn_good' Try.func84 (c := (Try.f84.body.getD .skip)) (by kernel_rfl) (by kernel_rfl) (by kernel_rfl) impl_gcd_C impl_gcd_M eqs impl_gcd_lps impl_gcd_jt (fun n => tabC_good (List.forall_mem_cons.2 ⟨(impl_size_good n), (fun _ h => absurd h List.not_mem_nil)⟩)) eqs_ok impl_gcd_Lt ?_ ?_ impl_gcd_sh impl_gcd_run ?_
  · refine List.forall_mem_cons.2 ⟨?_, (fun _ h => absurd h List.not_mem_nil)⟩
    · intro p brk ret; show impl_gcd_u1 0 p brk ret = none; unfold impl_gcd_u1 impl_gcd_uG1; split <;> rfl
  · refine List.forall_mem_cons.2 ⟨?_, (fun _ h => absurd h List.not_mem_nil)⟩
    · intro np lent hL n p brk ret st r hb hr
      obtain ⟨rfl, rfl⟩ := hL
      rw [← tpl_of hb]
      change impl_gcd_u1 (n + 1) p brk ret = some r at hr
      have hr0 := hr
      unfold impl_gcd_u1 impl_gcd_uG1 at hr
      split at hr
      · exact (impl_gcd_l1_ev n _ _ brk ret).trans hr0
      · cases hr
  · intro n p κ r ds hd hr
    have hr0 := hr
    unfold impl_gcd_run impl_gcd_runG at hr
    split at hr
    · rw [← ds_of hd]
      exact ⟨en_of (impl_gcd_en _ _) ⟨rfl, rfl⟩, (impl_gcd_ev n _ _ κ).trans hr0⟩
    · cases hr

/-! (loop.example/g01297/impl.Point).length -/
def impl_Point_length_sh : List SkD := [.agg [.int .i64, .int .i64]]
def impl_Point_length_runG {α : Type} (F : T29 α) (n : Nat) (p : List P1) (κ : Res → Option α) : Option α := match p with
  | [.int a, .int a1] => F n a a1 (fun v1 => κ ⟨[.int .i64 v1], []⟩)
  | _ => none
def impl_Point_length_run {α : Type} (n : Nat) (p : List P1) (κ : Res → Option α) : Option α := impl_Point_length_runG impl_Point_length n p κ
def impl_Point_length_CG {α : Type} (F0 : T29 α) (n : Nat) : FuncId → List D → (Res → Option α) → Option α := tabC [(84, (byShape impl_gcd_sh (impl_gcd_runG F0 n)))]
def impl_Point_length_C {α : Type} (n : Nat) : FuncId → List D → (Res → Option α) → Option α := impl_Point_length_CG impl_gcd n
def impl_Point_length_M : FuncId → List Nat := tabM []
def impl_Point_length_lpsG {α : Type}  : List (LoopT α) := []
def impl_Point_length_lps {α : Type} : List (LoopT α) := impl_Point_length_lpsG
def impl_Point_length_jt : Nat → Option Tpl := jtOf []
def impl_Point_length_XG {α : Type} (F0 : T29 α)  (n : Nat) : Ctx α := ⟨impl_Point_length_CG F0 n, impl_Point_length_M, eqs, lpOf (impl_Point_length_lpsG) n, impl_Point_length_jt⟩
def impl_Point_length_X {α : Type} (n : Nat) : Ctx α := impl_Point_length_XG impl_gcd n
def impl_Point_length_Lt (np : Nat) (lent : List (Bool × Nat × Blk)) : Prop := np = 1 ∧ lent = []
def impl_Point_length_body {α : Type} (F0 : T29 α)  (k : Nat) (a : Int) (a1 : Int) (r0 : Int → Option α) : Option α :=
  F0 k a a1 fun v =>
  r0 v
theorem impl_Point_length_gen {α : Type} (F0 : T29 α)  (n : Nat) (a : Int) (a1 : Int) (κ : Res → Option α) : evFn Try.prog (impl_Point_length_XG F0 n) Try.f53 (((buildDs impl_Point_length_sh [.int a, .int a1]).map Prod.fst).getD []) κ = impl_Point_length_body F0 n a a1 (fun v1 => κ ⟨[.int .i64 v1], []⟩) := by kernel_rfl
theorem impl_Point_length_eq {α : Type} (n : Nat) (a : Int) (a1 : Int) (r0 : Int → Option α) : impl_Point_length_body impl_gcd n a a1 r0 = impl_Point_length n a a1 r0 := (impl_Point_length_body.eq_1 impl_gcd n a a1 r0).trans (impl_Point_length.eq_1 n a a1 r0).symm
theorem impl_Point_length_rn {α : Type} (F : T29 α) (n : Nat) (a : Int) (a1 : Int) (κ : Res → Option α) : impl_Point_length_runG F n [.int a, .int a1] κ = F n a a1 (fun v1 => κ ⟨[.int .i64 v1], []⟩) := rfl
theorem impl_Point_length_ev {α : Type} (n : Nat) (a : Int) (a1 : Int) (κ : Res → Option α) : evFn Try.prog (impl_Point_length_X n) Try.f53 (((buildDs impl_Point_length_sh [.int a, .int a1]).map Prod.fst).getD []) κ = impl_Point_length_run n [.int a, .int a1] κ := (impl_Point_length_gen impl_gcd n a a1 κ).trans ((impl_Point_length_eq n a a1 (fun v1 => κ ⟨[.int .i64 v1], []⟩)).trans ((impl_Point_length_run.eq_1 n [.int a, .int a1] κ).trans (impl_Point_length_rn impl_Point_length n a a1 κ)).symm)
theorem impl_Point_length_en (a : Int) (a1 : Int) : (entry 0 (((buildDs impl_Point_length_sh [.int a, .int a1]).map Prod.fst).getD [])).map (fun x => (x.1.length, x.2.lent)) = some (1, []) := by kernel_rfl
theorem impl_Point_length_good {α : Type} : ∀ n, GoodFn (α := α) Try.prog 53 (byShape impl_Point_length_sh (impl_Point_length_run n)) := by
  refine fn_good' Try.func53 (c := (Try.f53.body.getD .skip)) (by kernel_rfl) (by kernel_rfl) (by kernel_rfl) impl_Point_length_C impl_Point_length_M eqs impl_Point_length_lps impl_Point_length_jt (fun n => tabC_good (List.forall_mem_cons.2 ⟨(impl_gcd_good n), (fun _ h => absurd h List.not_mem_nil)⟩)) eqs_ok impl_Point_length_Lt ?_ ?_ impl_Point_length_sh impl_Point_length_run ?_
  · exact (fun _ h => absurd h List.not_mem_nil)
  · exact (fun _ h => absurd h List.not_mem_nil)
  · intro n p κ r ds hd hr
    have hr0 := hr
    unfold impl_Point_length_run impl_Point_length_runG at hr
    split at hr
    · rw [← ds_of hd]
      exact ⟨en_of (impl_Point_length_en _ _) ⟨rfl, rfl⟩, (impl_Point_length_ev n _ _ κ).trans hr0⟩
    · cases hr

/-! loop.example/g01297/impl.LengthOf -/
def impl_LengthOf_sh : List SkD := [.agg [.int .i64, .int .i64], .agg [.int .i64, .int .i64]]
def impl_LengthOf_runG {α : Type} (F : T23 α) (n : Nat) (p : List P1) (κ : Res → Option α) : Option α := match p with
  | [.int a, .int a1, .int b_, .int b_1] => F n a a1 b_ b_1 (fun v1 v2 => κ ⟨[.int .i64 v1, .int .i64 v2], []⟩)
  | _ => none
def impl_LengthOf_run {α : Type} (n : Nat) (p : List P1) (κ : Res → Option α) : Option α := impl_LengthOf_runG impl_LengthOf n p κ
def impl_LengthOf_CG {α : Type} (F0 : T13 α) (F1 : T23 α) (F2 : T29 α) (n : Nat) : FuncId → List D → (Res → Option α) → Option α := tabC [(44, (byShape impl_points_sh (impl_points_runG F0 n))), (52, (byShape impl_Point_less_sh (impl_Point_less_runG F1 n))), (53, (byShape impl_Point_length_sh (impl_Point_length_runG F2 n)))]
def impl_LengthOf_C {α : Type} (n : Nat) : FuncId → List D → (Res → Option α) → Option α := impl_LengthOf_CG impl_points impl_Point_less impl_Point_length n
def impl_LengthOf_M : FuncId → List Nat := tabM []
def impl_LengthOf_lpsG {α : Type}  : List (LoopT α) := []
def impl_LengthOf_lps {α : Type} : List (LoopT α) := impl_LengthOf_lpsG
def impl_LengthOf_jt : Nat → Option Tpl := jtOf []
def impl_LengthOf_XG {α : Type} (F0 : T13 α) (F1 : T23 α) (F2 : T29 α)  (n : Nat) : Ctx α := ⟨impl_LengthOf_CG F0 F1 F2 n, impl_LengthOf_M, eqs, lpOf (impl_LengthOf_lpsG) n, impl_LengthOf_jt⟩
def impl_LengthOf_X {α : Type} (n : Nat) : Ctx α := impl_LengthOf_XG impl_points impl_Point_less impl_Point_length n
def impl_LengthOf_Lt (np : Nat) (lent : List (Bool × Nat × Blk)) : Prop := np = 2 ∧ lent = []
def impl_LengthOf_body {α : Type} (F0 : T13 α) (F1 : T23 α) (F2 : T29 α)  (k : Nat) (a : Int) (a1 : Int) (b_ : Int) (b_1 : Int) (r0 : Int → Int → Option α) : Option α :=
  F0 k [(a, a1), (b_, b_1)] fun v =>
  bif (!v) then
    r0 0 1
  else
    F1 k b_ b_1 a a1 fun v1 v2 =>
    F2 k v1 v2 fun v3 =>
    r0 v3 0
theorem impl_LengthOf_gen {α : Type} (F0 : T13 α) (F1 : T23 α) (F2 : T29 α)  (n : Nat) (a : Int) (a1 : Int) (b_ : Int) (b_1 : Int) (κ : Res → Option α) : evFn Try.prog (impl_LengthOf_XG F0 F1 F2 n) Try.f15 (((buildDs impl_LengthOf_sh [.int a, .int a1, .int b_, .int b_1]).map Prod.fst).getD []) κ = impl_LengthOf_body F0 F1 F2 n a a1 b_ b_1 (fun v1 v2 => κ ⟨[.int .i64 v1, .int .i64 v2], []⟩) := by kernel_rfl
theorem impl_LengthOf_eq {α : Type} (n : Nat) (a : Int) (a1 : Int) (b_ : Int) (b_1 : Int) (r0 : Int → Int → Option α) : impl_LengthOf_body impl_points impl_Point_less impl_Point_length n a a1 b_ b_1 r0 = impl_LengthOf n a a1 b_ b_1 r0 := (impl_LengthOf_body.eq_1 impl_points impl_Point_less impl_Point_length n a a1 b_ b_1 r0).trans (impl_LengthOf.eq_1 n a a1 b_ b_1 r0).symm
theorem impl_LengthOf_rn {α : Type} (F : T23 α) (n : Nat) (a : Int) (a1 : Int) (b_ : Int) (b_1 : Int) (κ : Res → Option α) : impl_LengthOf_runG F n [.int a, .int a1, .int b_, .int b_1] κ = F n a a1 b_ b_1 (fun v1 v2 => κ ⟨[.int .i64 v1, .int .i64 v2], []⟩) := rfl
theorem impl_LengthOf_ev {α : Type} (n : Nat) (a : Int) (a1 : Int) (b_ : Int) (b_1 : Int) (κ : Res → Option α) : evFn Try.prog (impl_LengthOf_X n) Try.f15 (((buildDs impl_LengthOf_sh [.int a, .int a1, .int b_, .int b_1]).map Prod.fst).getD []) κ = impl_LengthOf_run n [.int a, .int a1, .int b_, .int b_1] κ := (impl_LengthOf_gen impl_points impl_Point_less impl_Point_length n a a1 b_ b_1 κ).trans ((impl_LengthOf_eq n a a1 b_ b_1 (fun v1 v2 => κ ⟨[.int .i64 v1, .int .i64 v2], []⟩)).trans ((impl_LengthOf_run.eq_1 n [.int a, .int a1, .int b_, .int b_1] κ).trans (impl_LengthOf_rn impl_LengthOf n a a1 b_ b_1 κ)).symm)
theorem impl_LengthOf_en (a : Int) (a1 : Int) (b_ : Int) (b_1 : Int) : (entry 0 (((buildDs impl_LengthOf_sh [.int a, .int a1, .int b_, .int b_1]).map Prod.fst).getD [])).map (fun x => (x.1.length, x.2.lent)) = some (2, []) := by kernel_rfl
theorem impl_LengthOf_good {α : Type} : ∀ n, GoodFn (α := α) Try.prog 15 (byShape impl_LengthOf_sh (impl_LengthOf_run n)) := by
  refine fn_good' Try.func15 (c := (Try.f15.body.getD .skip)) (by kernel_rfl) (by kernel_rfl) (by kernel_rfl) impl_LengthOf_C impl_LengthOf_M eqs impl_LengthOf_lps impl_LengthOf_jt (fun n => tabC_good (List.forall_mem_cons.2 ⟨(impl_points_good n), (List.forall_mem_cons.2 ⟨(impl_Point_less_good n), (List.forall_mem_cons.2 ⟨(impl_Point_length_good n), (fun _ h => absurd h List.not_mem_nil)⟩)⟩)⟩)) eqs_ok impl_LengthOf_Lt ?_ ?_ impl_LengthOf_sh impl_LengthOf_run ?_
  · exact (fun _ h => absurd h List.not_mem_nil)
  · exact (fun _ h => absurd h List.not_mem_nil)
  · intro n p κ r ds hd hr
    have hr0 := hr
    unfold impl_LengthOf_run impl_LengthOf_runG at hr
    split at hr
    · rw [← ds_of hd]
      exact ⟨en_of (impl_LengthOf_en _ _ _ _) ⟨rfl, rfl⟩, (impl_LengthOf_ev n _ _ _ _ κ).trans hr0⟩
    · cases hr

/-! loop.example/g01297/spec.l01Gcd -/
def spec_l01Gcd_sh : List SkD := [.int .i64, .int .i64]
def spec_l01Gcd_runG {α : Type} (F : T29 α) (n : Nat) (p : List P1) (κ : Res → Option α) : Option α := match p with
  | [.int a, .int b_] => F n a b_ (fun v1 => κ ⟨[.int .i64 v1], []⟩)
  | _ => none
def spec_l01Gcd_run {α : Type} (n : Nat) (p : List P1) (κ : Res → Option α) : Option α := spec_l01Gcd_runG spec_l01Gcd n p κ
def spec_l01Gcd_CG {α : Type}  (n : Nat) : FuncId → List D → (Res → Option α) → Option α := tabC []
def spec_l01Gcd_C {α : Type} (n : Nat) : FuncId → List D → (Res → Option α) → Option α := spec_l01Gcd_CG n
def spec_l01Gcd_M : FuncId → List Nat := tabM []
def spec_l01Gcd_t1 : Tpl := ⟨[.int .i64, .int .i64, .any, .any, .any, .any, .any, .any, .any, .any, .any, .any, .any, .any, .any, .any, .any], [], []⟩
def spec_l01Gcd_uG1 {α : Type} (G : Nat → Int → Int → (Int → Int → Option α) → (Int → Option α) → Option α) (n : Nat) (p : List P1) (brk : Nat → List P1 → Option α) (ret : Res → Option α) : Option α := match p with
  | [.int a1, .int b_1] => G n a1 b_1 (fun a1 b_1 => brk 0 [.int a1, .int b_1]) (fun v1 => ret ⟨[.int .i64 v1], []⟩)
  | _ => none
def spec_l01Gcd_u1 {α : Type} (n : Nat) (p : List P1) (brk : Nat → List P1 → Option α) (ret : Res → Option α) : Option α := spec_l01Gcd_uG1 spec_l01Gcd_l1 n p brk ret
def spec_l01Gcd_lpsG {α : Type} (G1 : Nat → Int → Int → (Int → Int → Option α) → (Int → Option α) → Option α) : List (LoopT α) := [⟨1, spec_l01Gcd_t1, spec_l01Gcd_uG1 G1⟩]
def spec_l01Gcd_lps {α : Type} : List (LoopT α) := spec_l01Gcd_lpsG spec_l01Gcd_l1
def spec_l01Gcd_jt : Nat → Option Tpl := jtOf []
def spec_l01Gcd_XG {α : Type}  (G1 : Nat → Int → Int → (Int → Int → Option α) → (Int → Option α) → Option α) (n : Nat) : Ctx α := ⟨spec_l01Gcd_CG n, spec_l01Gcd_M, eqs, lpOf (spec_l01Gcd_lpsG G1) n, spec_l01Gcd_jt⟩
def spec_l01Gcd_X {α : Type} (n : Nat) : Ctx α := spec_l01Gcd_XG spec_l01Gcd_l1 n
def spec_l01Gcd_Lt (np : Nat) (lent : List (Bool × Nat × Blk)) : Prop := np = 2 ∧ lent = []
def spec_l01Gcd_lb1 {α : Type}  (G1 : Nat → Int → Int → (Int → Int → Option α) → (Int → Option α) → Option α) (k : Nat) (a1 : Int) (b_1 : Int) (b0 : Int → Int → Option α) (r0 : Int → Option α) : Option α :=
  bif (!decide (b_1 = 0)) then
    bif decide (b_1 = 0) then
      none
    else
      G1 k b_1 (Int.tmod a1 b_1) b0 r0
  else
    b0 a1 b_1
theorem spec_l01Gcd_l1_gen {α : Type}  (G1 : Nat → Int → Int → (Int → Int → Option α) → (Int → Option α) → Option α) (n : Nat) (a1 : Int) (b_1 : Int) (brk : Nat → List P1 → Option α) (ret : Res → Option α) : ev ((spec_l01Gcd_XG G1 n).env Try.prog Try.f61 2 []) (findLoop (loopsIn (Try.f61.body.getD .skip)) 1) ((spec_l01Gcd_t1.build [.int a1, .int b_1]).getD ⟨[], []⟩) (roundK (2 * 64) spec_l01Gcd_t1 (fun q => spec_l01Gcd_uG1 G1 n q brk ret) brk ret) = spec_l01Gcd_lb1 G1 n a1 b_1 (fun a1 b_1 => brk 0 [.int a1, .int b_1]) (fun v1 => ret ⟨[.int .i64 v1], []⟩) := by kernel_rfl
theorem spec_l01Gcd_l1_eq {α : Type} (k : Nat) (a1 : Int) (b_1 : Int) (b0 : Int → Int → Option α) (r0 : Int → Option α) : spec_l01Gcd_lb1 spec_l01Gcd_l1 k a1 b_1 b0 r0 = spec_l01Gcd_l1 (k + 1) a1 b_1 b0 r0 := (spec_l01Gcd_lb1.eq_1 spec_l01Gcd_l1 k a1 b_1 b0 r0).trans (show spec_l01Gcd_l1 (k + 1) a1 b_1 b0 r0 = _ from spec_l01Gcd_l1.eq_2 _ _ _ _ _ ).symm
theorem spec_l01Gcd_l1_rn {α : Type} (G : Nat → Int → Int → (Int → Int → Option α) → (Int → Option α) → Option α) (n : Nat) (a1 : Int) (b_1 : Int) (brk : Nat → List P1 → Option α) (ret : Res → Option α) : spec_l01Gcd_uG1 G n [.int a1, .int b_1] brk ret = G n a1 b_1 (fun a1 b_1 => brk 0 [.int a1, .int b_1]) (fun v1 => ret ⟨[.int .i64 v1], []⟩) := rfl
theorem spec_l01Gcd_l1_ev {α : Type} (n : Nat) (a1 : Int) (b_1 : Int) (brk : Nat → List P1 → Option α) (ret : Res → Option α) : ev ((spec_l01Gcd_X n).env Try.prog Try.f61 2 []) (findLoop (loopsIn (Try.f61.body.getD .skip)) 1) ((spec_l01Gcd_t1.build [.int a1, .int b_1]).getD ⟨[], []⟩) (roundK (2 * 64) spec_l01Gcd_t1 (fun q => spec_l01Gcd_u1 n q brk ret) brk ret) = spec_l01Gcd_u1 (n + 1) [.int a1, .int b_1] brk ret := (spec_l01Gcd_l1_gen spec_l01Gcd_l1 n a1 b_1 brk ret).trans ((spec_l01Gcd_l1_eq n a1 b_1 (fun a1 b_1 => brk 0 [.int a1, .int b_1]) (fun v1 => ret ⟨[.int .i64 v1], []⟩)).trans ((spec_l01Gcd_u1.eq_1 (n + 1) [.int a1, .int b_1] brk ret).trans (spec_l01Gcd_l1_rn spec_l01Gcd_l1 (n + 1) a1 b_1 brk ret)).symm)
def spec_l01Gcd_body {α : Type}  (G1 : Nat → Int → Int → (Int → Int → Option α) → (Int → Option α) → Option α) (k : Nat) (a : Int) (b_ : Int) (r0 : Int → Option α) : Option α :=
  G1 k a b_
    (fun a2 _ =>
      r0 (max a2 (w64 (0 - a2))))
    r0
theorem spec_l01Gcd_gen {α : Type}  (G1 : Nat → Int → Int → (Int → Int → Option α) → (Int → Option α) → Option α) (n : Nat) (a : Int) (b_ : Int) (κ : Res → Option α) : evFn Try.prog (spec_l01Gcd_XG G1 n) Try.f61 (((buildDs spec_l01Gcd_sh [.int a, .int b_]).map Prod.fst).getD []) κ = spec_l01Gcd_body G1 n a b_ (fun v1 => κ ⟨[.int .i64 v1], []⟩) := by kernel_rfl
theorem spec_l01Gcd_eq {α : Type} (n : Nat) (a : Int) (b_ : Int) (r0 : Int → Option α) : spec_l01Gcd_body spec_l01Gcd_l1 n a b_ r0 = spec_l01Gcd n a b_ r0 := (spec_l01Gcd_body.eq_1 spec_l01Gcd_l1 n a b_ r0).trans (spec_l01Gcd.eq_1 n a b_ r0).symm
theorem spec_l01Gcd_rn {α : Type} (F : T29 α) (n : Nat) (a : Int) (b_ : Int) (κ : Res → Option α) : spec_l01Gcd_runG F n [.int a, .int b_] κ = F n a b_ (fun v1 => κ ⟨[.int .i64 v1], []⟩) := rfl
theorem spec_l01Gcd_ev {α : Type} (n : Nat) (a : Int) (b_ : Int) (κ : Res → Option α) : evFn Try.prog (spec_l01Gcd_X n) Try.f61 (((buildDs spec_l01Gcd_sh [.int a, .int b_]).map Prod.fst).getD []) κ = spec_l01Gcd_run n [.int a, .int b_] κ := (spec_l01Gcd_gen spec_l01Gcd_l1 n a b_ κ).trans ((spec_l01Gcd_eq n a b_ (fun v1 => κ ⟨[.int .i64 v1], []⟩)).trans ((spec_l01Gcd_run.eq_1 n [.int a, .int b_] κ).trans (spec_l01Gcd_rn spec_l01Gcd n a b_ κ)).symm)
theorem spec_l01Gcd_en (a : Int) (b_ : Int) : (entry 0 (((buildDs spec_l01Gcd_sh [.int a, .int b_]).map Prod.fst).getD [])).map (fun x => (x.1.length, x.2.lent)) = some (2, []) := by kernel_rfl
theorem spec_l01Gcd_good {α : Type} : ∀ n, GoodFn (α := α) Try.prog 61 (byShape spec_l01Gcd_sh (spec_l01Gcd_run n)) := by
  refine fn_good' Try.func61 (c := (Try.f61.body.getD .skip)) (by kernel_rfl) (by kernel_rfl) (by kernel_rfl) spec_l01Gcd_C spec_l01Gcd_M eqs spec_l01Gcd_lps spec_l01Gcd_jt (fun n => tabC_good (fun _ h => absurd h List.not_mem_nil)) eqs_ok spec_l01Gcd_Lt ?_ ?_ spec_l01Gcd_sh spec_l01Gcd_run ?_
  · refine List.forall_mem_cons.2 ⟨?_, (fun _ h => absurd h List.not_mem_nil)⟩
    · intro p brk ret; show spec_l01Gcd_u1 0 p brk ret = none; unfold spec_l01Gcd_u1 spec_l01Gcd_uG1; split <;> rfl
  · refine List.forall_mem_cons.2 ⟨?_, (fun _ h => absurd h List.not_mem_nil)⟩
    · intro np lent hL n p brk ret st r hb hr
      obtain ⟨rfl, rfl⟩ := hL
      rw [← tpl_of hb]
      change spec_l01Gcd_u1 (n + 1) p brk ret = some r at hr
      have hr0 := hr
      unfold spec_l01Gcd_u1 spec_l01Gcd_uG1 at hr
      split at hr
      · exact (spec_l01Gcd_l1_ev n _ _ brk ret).trans hr0
      · cases hr
  · intro n p κ r ds hd hr
    have hr0 := hr
    unfold spec_l01Gcd_run spec_l01Gcd_runG at hr
    split at hr
    · rw [← ds_of hd]
      exact ⟨en_of (spec_l01Gcd_en _ _) ⟨rfl, rfl⟩, (spec_l01Gcd_ev n _ _ κ).trans hr0⟩
    · cases hr

/-! loop.example/g01297/spec.l01Part -/
def spec_l01Part_sh : List SkD := [.agg [.int .i64, .int .i64]]
def spec_l01Part_runG {α : Type} (F : T30 α) (n : Nat) (p : List P1) (κ : Res → Option α) : Option α := match p with
  | [.int a, .int a1] => F n a a1 (fun v1 v2 => κ ⟨[.agg [.int .i64 v1, .int .i64 v2]], []⟩)
  | _ => none
def spec_l01Part_run {α : Type} (n : Nat) (p : List P1) (κ : Res → Option α) : Option α := spec_l01Part_runG spec_l01Part n p κ
def spec_l01Part_CG {α : Type} (F0 : T29 α) (n : Nat) : FuncId → List D → (Res → Option α) → Option α := tabC [(61, (byShape spec_l01Gcd_sh (spec_l01Gcd_runG F0 n)))]
def spec_l01Part_C {α : Type} (n : Nat) : FuncId → List D → (Res → Option α) → Option α := spec_l01Part_CG spec_l01Gcd n
def spec_l01Part_M : FuncId → List Nat := tabM []
def spec_l01Part_lpsG {α : Type}  : List (LoopT α) := []
def spec_l01Part_lps {α : Type} : List (LoopT α) := spec_l01Part_lpsG
def spec_l01Part_jt : Nat → Option Tpl := jtOf []
def spec_l01Part_XG {α : Type} (F0 : T29 α)  (n : Nat) : Ctx α := ⟨spec_l01Part_CG F0 n, spec_l01Part_M, eqs, lpOf (spec_l01Part_lpsG) n, spec_l01Part_jt⟩
def spec_l01Part_X {α : Type} (n : Nat) : Ctx α := spec_l01Part_XG spec_l01Gcd n
def spec_l01Part_Lt (np : Nat) (lent : List (Bool × Nat × Blk)) : Prop := np = 1 ∧ lent = []
def spec_l01Part_body {α : Type} (F0 : T29 α)  (k : Nat) (a : Int) (a1 : Int) (r0 : Int → Int → Option α) : Option α :=
  F0 k a a1 fun v =>
  bif decide (v = 0) then
    none
  else
  bif decide (v = 0) then
    none
  else
    r0 (w64 (Int.tdiv a v)) (w64 (Int.tdiv a1 v))
theorem spec_l01Part_gen {α : Type} (F0 : T29 α)  (n : Nat) (a : Int) (a1 : Int) (κ : Res → Option α) : evFn Try.prog (spec_l01Part_XG F0 n) Try.f66 (((buildDs spec_l01Part_sh [.int a, .int a1]).map Prod.fst).getD []) κ = spec_l01Part_body F0 n a a1 (fun v1 v2 => κ ⟨[.agg [.int .i64 v1, .int .i64 v2]], []⟩) := by kernel_rfl
theorem spec_l01Part_eq {α : Type} (n : Nat) (a : Int) (a1 : Int) (r0 : Int → Int → Option α) : spec_l01Part_body spec_l01Gcd n a a1 r0 = spec_l01Part n a a1 r0 := (spec_l01Part_body.eq_1 spec_l01Gcd n a a1 r0).trans (spec_l01Part.eq_1 n a a1 r0).symm
theorem spec_l01Part_rn {α : Type} (F : T30 α) (n : Nat) (a : Int) (a1 : Int) (κ : Res → Option α) : spec_l01Part_runG F n [.int a, .int a1] κ = F n a a1 (fun v1 v2 => κ ⟨[.agg [.int .i64 v1, .int .i64 v2]], []⟩) := rfl
theorem spec_l01Part_ev {α : Type} (n : Nat) (a : Int) (a1 : Int) (κ : Res → Option α) : evFn Try.prog (spec_l01Part_X n) Try.f66 (((buildDs spec_l01Part_sh [.int a, .int a1]).map Prod.fst).getD []) κ = spec_l01Part_run n [.int a, .int a1] κ := (spec_l01Part_gen spec_l01Gcd n a a1 κ).trans ((spec_l01Part_eq n a a1 (fun v1 v2 => κ ⟨[.agg [.int .i64 v1, .int .i64 v2]], []⟩)).trans ((spec_l01Part_run.eq_1 n [.int a, .int a1] κ).trans (spec_l01Part_rn spec_l01Part n a a1 κ)).symm)
theorem spec_l01Part_en (a : Int) (a1 : Int) : (entry 0 (((buildDs spec_l01Part_sh [.int a, .int a1]).map Prod.fst).getD [])).map (fun x => (x.1.length, x.2.lent)) = some (1, []) := by kernel_rfl
theorem spec_l01Part_good {α : Type} : ∀ n, GoodFn (α := α) Try.prog 66 (byShape spec_l01Part_sh (spec_l01Part_run n)) := by
  refine fn_good' Try.func66 (c := (Try.f66.body.getD .skip)) (by kernel_rfl) (by kernel_rfl) (by kernel_rfl) spec_l01Part_C spec_l01Part_M eqs spec_l01Part_lps spec_l01Part_jt (fun n => tabC_good (List.forall_mem_cons.2 ⟨(spec_l01Gcd_good n), (fun _ h => absurd h List.not_mem_nil)⟩)) eqs_ok spec_l01Part_Lt ?_ ?_ spec_l01Part_sh spec_l01Part_run ?_
  · exact (fun _ h => absurd h List.not_mem_nil)
  · exact (fun _ h => absurd h List.not_mem_nil)
  · intro n p κ r ds hd hr
    have hr0 := hr
    unfold spec_l01Part_run spec_l01Part_runG at hr
    split at hr
    · rw [← ds_of hd]
      exact ⟨en_of (spec_l01Part_en _ _) ⟨rfl, rfl⟩, (spec_l01Part_ev n _ _ κ).trans hr0⟩
    · cases hr

/-! loop.example/g01297/spec.l01DrawPrimitive -/
def spec_l01DrawPrimitive_sh : List SkD := [.mptr 81 [.sl 5 (.int .u8), .int .i64, .int .u64], .int .i64]
def spec_l01DrawPrimitive_runG {α : Type} (F : T7 α) (n : Nat) (p : List P1) (κ : Res → Option α) : Option α := match p with
  | [.rows (.int .u8) s, .int s1, .int s2, .int most] => F n s s1 s2 most (fun v1 v2 v3 v4 => κ ⟨[.agg [.int .i64 v1, .int .i64 v2]], [.ptr 81 [.keep, .int .i64 v3, .int .u64 v4]]⟩)
  | _ => none
def spec_l01DrawPrimitive_run {α : Type} (n : Nat) (p : List P1) (κ : Res → Option α) : Option α := spec_l01DrawPrimitive_runG spec_l01DrawPrimitive n p κ
def spec_l01DrawPrimitive_CG {α : Type} (F0 : T7 α) (F1 : T30 α) (n : Nat) : FuncId → List D → (Res → Option α) → Option α := tabC [(75, (byShape spec_l01DrawPoint_sh (spec_l01DrawPoint_runG F0 n))), (66, (byShape spec_l01Part_sh (spec_l01Part_runG F1 n)))]
def spec_l01DrawPrimitive_C {α : Type} (n : Nat) : FuncId → List D → (Res → Option α) → Option α := spec_l01DrawPrimitive_CG spec_l01DrawPoint spec_l01Part n
def spec_l01DrawPrimitive_M : FuncId → List Nat := tabM [(75, [1])]
def spec_l01DrawPrimitive_lpsG {α : Type}  : List (LoopT α) := []
def spec_l01DrawPrimitive_lps {α : Type} : List (LoopT α) := spec_l01DrawPrimitive_lpsG
def spec_l01DrawPrimitive_jt : Nat → Option Tpl := jtOf []
def spec_l01DrawPrimitive_XG {α : Type} (F0 : T7 α) (F1 : T30 α)  (n : Nat) : Ctx α := ⟨spec_l01DrawPrimitive_CG F0 F1 n, spec_l01DrawPrimitive_M, eqs, lpOf (spec_l01DrawPrimitive_lpsG) n, spec_l01DrawPrimitive_jt⟩
def spec_l01DrawPrimitive_X {α : Type} (n : Nat) : Ctx α := spec_l01DrawPrimitive_XG spec_l01DrawPoint spec_l01Part n
def spec_l01DrawPrimitive_Lt (np : Nat) (lent : List (Bool × Nat × Blk)) : Prop := np = 2 ∧ ∃ (s1 : Int) (s2 : Int), lent = [(false, 0, boxBlk 1 81 [.sl 1, .int .i64 s1, .int .u64 s2])]
def spec_l01DrawPrimitive_body {α : Type} (F0 : T7 α) (F1 : T30 α)  (k : Nat) (s : List Int) (s1 : Int) (s2 : Int) (most : Int) (r0 : Int → Int → Int → Int → Option α) : Option α :=
  F0 k s s1 s2 most fun v v1 v2 v3 =>
  bif (decide (v = 0) && decide (v1 = 0)) then
    r0 1 0 v2 v3
  else
    F1 k v v1 fun v4 v5 =>
    r0 v4 v5 v2 v3
theorem spec_l01DrawPrimitive_gen {α : Type} (F0 : T7 α) (F1 : T30 α)  (n : Nat) (s : List Int) (s1 : Int) (s2 : Int) (most : Int) (κ : Res → Option α) : evFn Try.prog (spec_l01DrawPrimitive_XG F0 F1 n) Try.f56 (((buildDs spec_l01DrawPrimitive_sh [.rows (.int .u8) s, .int s1, .int s2, .int most]).map Prod.fst).getD []) κ = spec_l01DrawPrimitive_body F0 F1 n s s1 s2 most (fun v1 v2 v3 v4 => κ ⟨[.agg [.int .i64 v1, .int .i64 v2]], [.ptr 81 [.keep, .int .i64 v3, .int .u64 v4]]⟩) := by kernel_rfl
theorem spec_l01DrawPrimitive_eq {α : Type} (n : Nat) (s : List Int) (s1 : Int) (s2 : Int) (most : Int) (r0 : Int → Int → Int → Int → Option α) : spec_l01DrawPrimitive_body spec_l01DrawPoint spec_l01Part n s s1 s2 most r0 = spec_l01DrawPrimitive n s s1 s2 most r0 := (spec_l01DrawPrimitive_body.eq_1 spec_l01DrawPoint spec_l01Part n s s1 s2 most r0).trans (spec_l01DrawPrimitive.eq_1 n s s1 s2 most r0).symm
theorem spec_l01DrawPrimitive_rn {α : Type} (F : T7 α) (n : Nat) (s : List Int) (s1 : Int) (s2 : Int) (most : Int) (κ : Res → Option α) : spec_l01DrawPrimitive_runG F n [.rows (.int .u8) s, .int s1, .int s2, .int most] κ = F n s s1 s2 most (fun v1 v2 v3 v4 => κ ⟨[.agg [.int .i64 v1, .int .i64 v2]], [.ptr 81 [.keep, .int .i64 v3, .int .u64 v4]]⟩) := rfl
theorem spec_l01DrawPrimitive_ev {α : Type} (n : Nat) (s : List Int) (s1 : Int) (s2 : Int) (most : Int) (κ : Res → Option α) : evFn Try.prog (spec_l01DrawPrimitive_X n) Try.f56 (((buildDs spec_l01DrawPrimitive_sh [.rows (.int .u8) s, .int s1, .int s2, .int most]).map Prod.fst).getD []) κ = spec_l01DrawPrimitive_run n [.rows (.int .u8) s, .int s1, .int s2, .int most] κ := (spec_l01DrawPrimitive_gen spec_l01DrawPoint spec_l01Part n s s1 s2 most κ).trans ((spec_l01DrawPrimitive_eq n s s1 s2 most (fun v1 v2 v3 v4 => κ ⟨[.agg [.int .i64 v1, .int .i64 v2]], [.ptr 81 [.keep, .int .i64 v3, .int .u64 v4]]⟩)).trans ((spec_l01DrawPrimitive_run.eq_1 n [.rows (.int .u8) s, .int s1, .int s2, .int most] κ).trans (spec_l01DrawPrimitive_rn spec_l01DrawPrimitive n s s1 s2 most κ)).symm)
theorem spec_l01DrawPrimitive_en (s : List Int) (s1 : Int) (s2 : Int) (most : Int) : (entry 0 (((buildDs spec_l01DrawPrimitive_sh [.rows (.int .u8) s, .int s1, .int s2, .int most]).map Prod.fst).getD [])).map (fun x => (x.1.length, x.2.lent)) = some (2, [(false, 0, boxBlk 1 81 [.sl 1, .int .i64 s1, .int .u64 s2])]) := by kernel_rfl
theorem spec_l01DrawPrimitive_good {α : Type} : ∀ n, GoodFn (α := α) Try.prog 56 (byShape spec_l01DrawPrimitive_sh (spec_l01DrawPrimitive_run n)) := by
  refine fn_good' Try.func56 (c := (Try.f56.body.getD .skip)) (by kernel_rfl) (by kernel_rfl) (by kernel_rfl) spec_l01DrawPrimitive_C spec_l01DrawPrimitive_M eqs spec_l01DrawPrimitive_lps spec_l01DrawPrimitive_jt (fun n => tabC_good (List.forall_mem_cons.2 ⟨(spec_l01DrawPoint_good n), (List.forall_mem_cons.2 ⟨(spec_l01Part_good n), (fun _ h => absurd h List.not_mem_nil)⟩)⟩)) eqs_ok spec_l01DrawPrimitive_Lt ?_ ?_ spec_l01DrawPrimitive_sh spec_l01DrawPrimitive_run ?_
  · exact (fun _ h => absurd h List.not_mem_nil)
  · exact (fun _ h => absurd h List.not_mem_nil)
  · intro n p κ r ds hd hr
    have hr0 := hr
    unfold spec_l01DrawPrimitive_run spec_l01DrawPrimitive_runG at hr
    split at hr
    · rw [← ds_of hd]
      exact ⟨en_of (spec_l01DrawPrimitive_en _ _ _ _) ⟨rfl, _, _, rfl⟩, (spec_l01DrawPrimitive_ev n _ _ _ _ κ).trans hr0⟩
    · cases hr

end Go.Proofs.Ytglpddfibcikgaa
