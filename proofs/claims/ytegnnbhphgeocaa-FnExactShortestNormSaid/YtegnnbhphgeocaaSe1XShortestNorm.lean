/- The program's functions hold to their readings without memory: printed by a program of ours. -/
import Derived.Test.YtegnnbhphgeocaaSeXShortestNorm
namespace Go.Proofs.Ytegnnbhphgeocaa
open Go Go.Ev Go.Sh Go.Proofs

/-! loop.example/g01297/laws.toPoint -/
def laws_toPoint_sh : List SkD := [.agg [.int .i64, .int .i64]]
def laws_toPoint_runG {α : Type} (F : Nat → Int → Int → (Int → Int → Option α) → Option α) (n : Nat) (p : List P1) (κ : Res → Option α) : Option α := match p with
  | [.int a, .int a1] => F n a a1 (fun v1 v2 => κ ⟨[.agg [.int .i64 v1, .int .i64 v2]], []⟩)
  | _ => none
def laws_toPoint_run {α : Type} (n : Nat) (p : List P1) (κ : Res → Option α) : Option α := laws_toPoint_runG laws_toPoint n p κ
def laws_toPoint_CG {α : Type}  (n : Nat) : FuncId → List D → (Res → Option α) → Option α := tabC []
def laws_toPoint_C {α : Type} (n : Nat) : FuncId → List D → (Res → Option α) → Option α := laws_toPoint_CG n
def laws_toPoint_M : FuncId → List Nat := tabM []
def laws_toPoint_lpsG {α : Type}  : List (LoopT α) := []
def laws_toPoint_lps {α : Type} : List (LoopT α) := laws_toPoint_lpsG
def laws_toPoint_XG {α : Type}   (n : Nat) : Ctx α := ⟨laws_toPoint_CG n, laws_toPoint_M, eqs, lpOf (laws_toPoint_lpsG) n⟩
def laws_toPoint_X {α : Type} (n : Nat) : Ctx α := laws_toPoint_XG n
def laws_toPoint_Lt (np : Nat) (lent : List (Bool × Nat × Blk)) : Prop := np = 1 ∧ lent = []
def laws_toPoint_body {α : Type}   (k : Nat) (a : Int) (a1 : Int) (r0 : Int → Int → Option α) : Option α :=
  r0 a a1
theorem laws_toPoint_gen {α : Type}   (n : Nat) (a : Int) (a1 : Int) (κ : Res → Option α) : evFn Try.prog (laws_toPoint_XG n) Try.f18 (((buildDs laws_toPoint_sh [.int a, .int a1]).map Prod.fst).getD []) κ = laws_toPoint_body n a a1 (fun v1 v2 => κ ⟨[.agg [.int .i64 v1, .int .i64 v2]], []⟩) := by kernel_rfl
theorem laws_toPoint_ev {α : Type} (n : Nat) (a : Int) (a1 : Int) (κ : Res → Option α) : evFn Try.prog (laws_toPoint_X n) Try.f18 (((buildDs laws_toPoint_sh [.int a, .int a1]).map Prod.fst).getD []) κ = laws_toPoint_run n [.int a, .int a1] κ := (laws_toPoint_gen n a a1 κ).trans (by kernel_rfl)
theorem laws_toPoint_en (a : Int) (a1 : Int) : (entry 0 (((buildDs laws_toPoint_sh [.int a, .int a1]).map Prod.fst).getD [])).map (fun x => (x.1.length, x.2.lent)) = some (1, []) := by kernel_rfl
theorem laws_toPoint_good {α : Type} : ∀ n, GoodFn (α := α) Try.prog 18 (byShape laws_toPoint_sh (laws_toPoint_run n)) := by
  refine fn_good' Try.func18 (c := (Try.f18.body.getD .skip)) (by kernel_rfl) (by kernel_rfl) (by kernel_rfl) laws_toPoint_C laws_toPoint_M eqs laws_toPoint_lps (fun n => tabC_good (fun _ h => absurd h List.not_mem_nil)) eqs_ok laws_toPoint_Lt ?_ ?_ laws_toPoint_sh laws_toPoint_run ?_
  · exact (fun _ h => absurd h List.not_mem_nil)
  · exact (fun _ h => absurd h List.not_mem_nil)
  · intro n p κ r ds hd hr
    have hr0 := hr
    unfold laws_toPoint_run laws_toPoint_runG at hr
    split at hr
    · rw [← ds_of hd]
      exact ⟨en_of (laws_toPoint_en _ _) ⟨rfl, rfl⟩, (laws_toPoint_ev n _ _ κ).trans hr0⟩
    · cases hr

/-! loop.example/g01297/spec.l01In -/
def spec_l01In_sh : List SkD := [.int .i64, .int .i64, .int .i64]
def spec_l01In_runG {α : Type} (F : Nat → Int → Int → Int → (Bool → Option α) → Option α) (n : Nat) (p : List P1) (κ : Res → Option α) : Option α := match p with
  | [.int n_, .int low, .int high] => F n n_ low high (fun v1 => κ ⟨[.bool v1], []⟩)
  | _ => none
def spec_l01In_run {α : Type} (n : Nat) (p : List P1) (κ : Res → Option α) : Option α := spec_l01In_runG spec_l01In n p κ
def spec_l01In_CG {α : Type}  (n : Nat) : FuncId → List D → (Res → Option α) → Option α := tabC []
def spec_l01In_C {α : Type} (n : Nat) : FuncId → List D → (Res → Option α) → Option α := spec_l01In_CG n
def spec_l01In_M : FuncId → List Nat := tabM []
def spec_l01In_lpsG {α : Type}  : List (LoopT α) := []
def spec_l01In_lps {α : Type} : List (LoopT α) := spec_l01In_lpsG
def spec_l01In_XG {α : Type}   (n : Nat) : Ctx α := ⟨spec_l01In_CG n, spec_l01In_M, eqs, lpOf (spec_l01In_lpsG) n⟩
def spec_l01In_X {α : Type} (n : Nat) : Ctx α := spec_l01In_XG n
def spec_l01In_Lt (np : Nat) (lent : List (Bool × Nat × Blk)) : Prop := np = 3 ∧ lent = []
def spec_l01In_body {α : Type}   (k : Nat) (n_ : Int) (low : Int) (high : Int) (r0 : Bool → Option α) : Option α :=
  bif decide (low ≤ n_) then
    r0 (decide (n_ ≤ high))
  else
    r0 false
theorem spec_l01In_gen {α : Type}   (n : Nat) (n_ : Int) (low : Int) (high : Int) (κ : Res → Option α) : evFn Try.prog (spec_l01In_XG n) Try.f59 (((buildDs spec_l01In_sh [.int n_, .int low, .int high]).map Prod.fst).getD []) κ = spec_l01In_body n n_ low high (fun v1 => κ ⟨[.bool v1], []⟩) := by kernel_rfl
theorem spec_l01In_ev {α : Type} (n : Nat) (n_ : Int) (low : Int) (high : Int) (κ : Res → Option α) : evFn Try.prog (spec_l01In_X n) Try.f59 (((buildDs spec_l01In_sh [.int n_, .int low, .int high]).map Prod.fst).getD []) κ = spec_l01In_run n [.int n_, .int low, .int high] κ := (spec_l01In_gen n n_ low high κ).trans (by kernel_rfl)
theorem spec_l01In_en (n_ : Int) (low : Int) (high : Int) : (entry 0 (((buildDs spec_l01In_sh [.int n_, .int low, .int high]).map Prod.fst).getD [])).map (fun x => (x.1.length, x.2.lent)) = some (3, []) := by kernel_rfl
theorem spec_l01In_good {α : Type} : ∀ n, GoodFn (α := α) Try.prog 59 (byShape spec_l01In_sh (spec_l01In_run n)) := by
  refine fn_good' Try.func59 (c := (Try.f59.body.getD .skip)) (by kernel_rfl) (by kernel_rfl) (by kernel_rfl) spec_l01In_C spec_l01In_M eqs spec_l01In_lps (fun n => tabC_good (fun _ h => absurd h List.not_mem_nil)) eqs_ok spec_l01In_Lt ?_ ?_ spec_l01In_sh spec_l01In_run ?_
  · exact (fun _ h => absurd h List.not_mem_nil)
  · exact (fun _ h => absurd h List.not_mem_nil)
  · intro n p κ r ds hd hr
    have hr0 := hr
    unfold spec_l01In_run spec_l01In_runG at hr
    split at hr
    · rw [← ds_of hd]
      exact ⟨en_of (spec_l01In_en _ _ _) ⟨rfl, rfl⟩, (spec_l01In_ev n _ _ _ κ).trans hr0⟩
    · cases hr

/-! loop.example/g01297/spec.l01Fits -/
def spec_l01Fits_sh : List SkD := [.int .i64]
def spec_l01Fits_runG {α : Type} (F : Nat → Int → (Bool → Option α) → Option α) (n : Nat) (p : List P1) (κ : Res → Option α) : Option α := match p with
  | [.int x] => F n x (fun v1 => κ ⟨[.bool v1], []⟩)
  | _ => none
def spec_l01Fits_run {α : Type} (n : Nat) (p : List P1) (κ : Res → Option α) : Option α := spec_l01Fits_runG spec_l01Fits n p κ
def spec_l01Fits_CG {α : Type} (F0 : Nat → Int → Int → Int → (Bool → Option α) → Option α) (n : Nat) : FuncId → List D → (Res → Option α) → Option α := tabC [(59, (byShape spec_l01In_sh (spec_l01In_runG F0 n)))]
def spec_l01Fits_C {α : Type} (n : Nat) : FuncId → List D → (Res → Option α) → Option α := spec_l01Fits_CG spec_l01In n
def spec_l01Fits_M : FuncId → List Nat := tabM []
def spec_l01Fits_lpsG {α : Type}  : List (LoopT α) := []
def spec_l01Fits_lps {α : Type} : List (LoopT α) := spec_l01Fits_lpsG
def spec_l01Fits_XG {α : Type} (F0 : Nat → Int → Int → Int → (Bool → Option α) → Option α)  (n : Nat) : Ctx α := ⟨spec_l01Fits_CG F0 n, spec_l01Fits_M, eqs, lpOf (spec_l01Fits_lpsG) n⟩
def spec_l01Fits_X {α : Type} (n : Nat) : Ctx α := spec_l01Fits_XG spec_l01In n
def spec_l01Fits_Lt (np : Nat) (lent : List (Bool × Nat × Blk)) : Prop := np = 1 ∧ lent = []
def spec_l01Fits_body {α : Type} (F0 : Nat → Int → Int → Int → (Bool → Option α) → Option α)  (k : Nat) (x : Int) (r0 : Bool → Option α) : Option α :=
  F0 k x (-1000000) 1000000 fun v =>
  r0 v
theorem spec_l01Fits_gen {α : Type} (F0 : Nat → Int → Int → Int → (Bool → Option α) → Option α)  (n : Nat) (x : Int) (κ : Res → Option α) : evFn Try.prog (spec_l01Fits_XG F0 n) Try.f87 (((buildDs spec_l01Fits_sh [.int x]).map Prod.fst).getD []) κ = spec_l01Fits_body F0 n x (fun v1 => κ ⟨[.bool v1], []⟩) := by kernel_rfl
theorem spec_l01Fits_ev {α : Type} (n : Nat) (x : Int) (κ : Res → Option α) : evFn Try.prog (spec_l01Fits_X n) Try.f87 (((buildDs spec_l01Fits_sh [.int x]).map Prod.fst).getD []) κ = spec_l01Fits_run n [.int x] κ := (spec_l01Fits_gen spec_l01In n x κ).trans (by kernel_rfl)
theorem spec_l01Fits_en (x : Int) : (entry 0 (((buildDs spec_l01Fits_sh [.int x]).map Prod.fst).getD [])).map (fun x => (x.1.length, x.2.lent)) = some (1, []) := by kernel_rfl
theorem spec_l01Fits_good {α : Type} : ∀ n, GoodFn (α := α) Try.prog 87 (byShape spec_l01Fits_sh (spec_l01Fits_run n)) := by
  refine fn_good' Try.func87 (c := (Try.f87.body.getD .skip)) (by kernel_rfl) (by kernel_rfl) (by kernel_rfl) spec_l01Fits_C spec_l01Fits_M eqs spec_l01Fits_lps (fun n => tabC_good (List.forall_mem_cons.2 ⟨(spec_l01In_good n), (fun _ h => absurd h List.not_mem_nil)⟩)) eqs_ok spec_l01Fits_Lt ?_ ?_ spec_l01Fits_sh spec_l01Fits_run ?_
  · exact (fun _ h => absurd h List.not_mem_nil)
  · exact (fun _ h => absurd h List.not_mem_nil)
  · intro n p κ r ds hd hr
    have hr0 := hr
    unfold spec_l01Fits_run spec_l01Fits_runG at hr
    split at hr
    · rw [← ds_of hd]
      exact ⟨en_of (spec_l01Fits_en _) ⟨rfl, rfl⟩, (spec_l01Fits_ev n _ κ).trans hr0⟩
    · cases hr

/-! loop.example/g01297/spec.l01Is -/
def spec_l01Is_sh : List SkD := [.agg [.int .i64, .int .i64]]
def spec_l01Is_runG {α : Type} (F : Nat → Int → Int → (Bool → Option α) → Option α) (n : Nat) (p : List P1) (κ : Res → Option α) : Option α := match p with
  | [.int a, .int a1] => F n a a1 (fun v1 => κ ⟨[.bool v1], []⟩)
  | _ => none
def spec_l01Is_run {α : Type} (n : Nat) (p : List P1) (κ : Res → Option α) : Option α := spec_l01Is_runG spec_l01Is n p κ
def spec_l01Is_CG {α : Type} (F0 : Nat → Int → (Bool → Option α) → Option α) (n : Nat) : FuncId → List D → (Res → Option α) → Option α := tabC [(87, (byShape spec_l01Fits_sh (spec_l01Fits_runG F0 n)))]
def spec_l01Is_C {α : Type} (n : Nat) : FuncId → List D → (Res → Option α) → Option α := spec_l01Is_CG spec_l01Fits n
def spec_l01Is_M : FuncId → List Nat := tabM []
def spec_l01Is_lpsG {α : Type}  : List (LoopT α) := []
def spec_l01Is_lps {α : Type} : List (LoopT α) := spec_l01Is_lpsG
def spec_l01Is_XG {α : Type} (F0 : Nat → Int → (Bool → Option α) → Option α)  (n : Nat) : Ctx α := ⟨spec_l01Is_CG F0 n, spec_l01Is_M, eqs, lpOf (spec_l01Is_lpsG) n⟩
def spec_l01Is_X {α : Type} (n : Nat) : Ctx α := spec_l01Is_XG spec_l01Fits n
def spec_l01Is_Lt (np : Nat) (lent : List (Bool × Nat × Blk)) : Prop := np = 1 ∧ lent = []
def spec_l01Is_body {α : Type} (F0 : Nat → Int → (Bool → Option α) → Option α)  (k : Nat) (a : Int) (a1 : Int) (r0 : Bool → Option α) : Option α :=
  F0 k a fun v =>
  bif v then
    F0 k a1 fun v1 =>
    r0 v1
  else
    r0 false
theorem spec_l01Is_gen {α : Type} (F0 : Nat → Int → (Bool → Option α) → Option α)  (n : Nat) (a : Int) (a1 : Int) (κ : Res → Option α) : evFn Try.prog (spec_l01Is_XG F0 n) Try.f94 (((buildDs spec_l01Is_sh [.int a, .int a1]).map Prod.fst).getD []) κ = spec_l01Is_body F0 n a a1 (fun v1 => κ ⟨[.bool v1], []⟩) := by kernel_rfl
theorem spec_l01Is_ev {α : Type} (n : Nat) (a : Int) (a1 : Int) (κ : Res → Option α) : evFn Try.prog (spec_l01Is_X n) Try.f94 (((buildDs spec_l01Is_sh [.int a, .int a1]).map Prod.fst).getD []) κ = spec_l01Is_run n [.int a, .int a1] κ := (spec_l01Is_gen spec_l01Fits n a a1 κ).trans (by kernel_rfl)
theorem spec_l01Is_en (a : Int) (a1 : Int) : (entry 0 (((buildDs spec_l01Is_sh [.int a, .int a1]).map Prod.fst).getD [])).map (fun x => (x.1.length, x.2.lent)) = some (1, []) := by kernel_rfl
theorem spec_l01Is_good {α : Type} : ∀ n, GoodFn (α := α) Try.prog 94 (byShape spec_l01Is_sh (spec_l01Is_run n)) := by
  refine fn_good' Try.func94 (c := (Try.f94.body.getD .skip)) (by kernel_rfl) (by kernel_rfl) (by kernel_rfl) spec_l01Is_C spec_l01Is_M eqs spec_l01Is_lps (fun n => tabC_good (List.forall_mem_cons.2 ⟨(spec_l01Fits_good n), (fun _ h => absurd h List.not_mem_nil)⟩)) eqs_ok spec_l01Is_Lt ?_ ?_ spec_l01Is_sh spec_l01Is_run ?_
  · exact (fun _ h => absurd h List.not_mem_nil)
  · exact (fun _ h => absurd h List.not_mem_nil)
  · intro n p κ r ds hd hr
    have hr0 := hr
    unfold spec_l01Is_run spec_l01Is_runG at hr
    split at hr
    · rw [← ds_of hd]
      exact ⟨en_of (spec_l01Is_en _ _) ⟨rfl, rfl⟩, (spec_l01Is_ev n _ _ κ).trans hr0⟩
    · cases hr

/-! loop.example/g01297/spec.l01Det -/
def spec_l01Det_sh : List SkD := [.agg [.int .i64, .int .i64], .agg [.int .i64, .int .i64]]
def spec_l01Det_runG {α : Type} (F : Nat → Int → Int → Int → Int → (Int → Option α) → Option α) (n : Nat) (p : List P1) (κ : Res → Option α) : Option α := match p with
  | [.int a, .int a1, .int b_, .int b_1] => F n a a1 b_ b_1 (fun v1 => κ ⟨[.int .i64 v1], []⟩)
  | _ => none
def spec_l01Det_run {α : Type} (n : Nat) (p : List P1) (κ : Res → Option α) : Option α := spec_l01Det_runG spec_l01Det n p κ
def spec_l01Det_CG {α : Type}  (n : Nat) : FuncId → List D → (Res → Option α) → Option α := tabC []
def spec_l01Det_C {α : Type} (n : Nat) : FuncId → List D → (Res → Option α) → Option α := spec_l01Det_CG n
def spec_l01Det_M : FuncId → List Nat := tabM []
def spec_l01Det_lpsG {α : Type}  : List (LoopT α) := []
def spec_l01Det_lps {α : Type} : List (LoopT α) := spec_l01Det_lpsG
def spec_l01Det_XG {α : Type}   (n : Nat) : Ctx α := ⟨spec_l01Det_CG n, spec_l01Det_M, eqs, lpOf (spec_l01Det_lpsG) n⟩
def spec_l01Det_X {α : Type} (n : Nat) : Ctx α := spec_l01Det_XG n
def spec_l01Det_Lt (np : Nat) (lent : List (Bool × Nat × Blk)) : Prop := np = 2 ∧ lent = []
def spec_l01Det_body {α : Type}   (k : Nat) (a : Int) (a1 : Int) (b_ : Int) (b_1 : Int) (r0 : Int → Option α) : Option α :=
  r0 (w64 ((w64 (a * b_1)) - (w64 (a1 * b_))))
theorem spec_l01Det_gen {α : Type}   (n : Nat) (a : Int) (a1 : Int) (b_ : Int) (b_1 : Int) (κ : Res → Option α) : evFn Try.prog (spec_l01Det_XG n) Try.f95 (((buildDs spec_l01Det_sh [.int a, .int a1, .int b_, .int b_1]).map Prod.fst).getD []) κ = spec_l01Det_body n a a1 b_ b_1 (fun v1 => κ ⟨[.int .i64 v1], []⟩) := by kernel_rfl
theorem spec_l01Det_ev {α : Type} (n : Nat) (a : Int) (a1 : Int) (b_ : Int) (b_1 : Int) (κ : Res → Option α) : evFn Try.prog (spec_l01Det_X n) Try.f95 (((buildDs spec_l01Det_sh [.int a, .int a1, .int b_, .int b_1]).map Prod.fst).getD []) κ = spec_l01Det_run n [.int a, .int a1, .int b_, .int b_1] κ := (spec_l01Det_gen n a a1 b_ b_1 κ).trans (by kernel_rfl)
theorem spec_l01Det_en (a : Int) (a1 : Int) (b_ : Int) (b_1 : Int) : (entry 0 (((buildDs spec_l01Det_sh [.int a, .int a1, .int b_, .int b_1]).map Prod.fst).getD [])).map (fun x => (x.1.length, x.2.lent)) = some (2, []) := by kernel_rfl
theorem spec_l01Det_good {α : Type} : ∀ n, GoodFn (α := α) Try.prog 95 (byShape spec_l01Det_sh (spec_l01Det_run n)) := by
  refine fn_good' Try.func95 (c := (Try.f95.body.getD .skip)) (by kernel_rfl) (by kernel_rfl) (by kernel_rfl) spec_l01Det_C spec_l01Det_M eqs spec_l01Det_lps (fun n => tabC_good (fun _ h => absurd h List.not_mem_nil)) eqs_ok spec_l01Det_Lt ?_ ?_ spec_l01Det_sh spec_l01Det_run ?_
  · exact (fun _ h => absurd h List.not_mem_nil)
  · exact (fun _ h => absurd h List.not_mem_nil)
  · intro n p κ r ds hd hr
    have hr0 := hr
    unfold spec_l01Det_run spec_l01Det_runG at hr
    split at hr
    · rw [← ds_of hd]
      exact ⟨en_of (spec_l01Det_en _ _ _ _) ⟨rfl, rfl⟩, (spec_l01Det_ev n _ _ _ _ κ).trans hr0⟩
    · cases hr

/-! loop.example/g01297/spec.l10Pair -/
def spec_l10Pair_sh : List SkD := [.agg [.int .i64, .int .i64], .agg [.int .i64, .int .i64]]
def spec_l10Pair_runG {α : Type} (F : Nat → Int → Int → Int → Int → (Int → Option α) → Option α) (n : Nat) (p : List P1) (κ : Res → Option α) : Option α := match p with
  | [.int a, .int a1, .int b_, .int b_1] => F n a a1 b_ b_1 (fun v1 => κ ⟨[.int .i64 v1], []⟩)
  | _ => none
def spec_l10Pair_run {α : Type} (n : Nat) (p : List P1) (κ : Res → Option α) : Option α := spec_l10Pair_runG spec_l10Pair n p κ
def spec_l10Pair_CG {α : Type} (F0 : Nat → Int → Int → (Bool → Option α) → Option α) (F1 : Nat → Int → Int → Int → Int → (Int → Option α) → Option α) (n : Nat) : FuncId → List D → (Res → Option α) → Option α := tabC [(94, (byShape spec_l01Is_sh (spec_l01Is_runG F0 n))), (95, (byShape spec_l01Det_sh (spec_l01Det_runG F1 n)))]
def spec_l10Pair_C {α : Type} (n : Nat) : FuncId → List D → (Res → Option α) → Option α := spec_l10Pair_CG spec_l01Is spec_l01Det n
def spec_l10Pair_M : FuncId → List Nat := tabM []
def spec_l10Pair_lpsG {α : Type}  : List (LoopT α) := []
def spec_l10Pair_lps {α : Type} : List (LoopT α) := spec_l10Pair_lpsG
def spec_l10Pair_XG {α : Type} (F0 : Nat → Int → Int → (Bool → Option α) → Option α) (F1 : Nat → Int → Int → Int → Int → (Int → Option α) → Option α)  (n : Nat) : Ctx α := ⟨spec_l10Pair_CG F0 F1 n, spec_l10Pair_M, eqs, lpOf (spec_l10Pair_lpsG) n⟩
def spec_l10Pair_X {α : Type} (n : Nat) : Ctx α := spec_l10Pair_XG spec_l01Is spec_l01Det n
def spec_l10Pair_Lt (np : Nat) (lent : List (Bool × Nat × Blk)) : Prop := np = 2 ∧ lent = []
def spec_l10Pair_body {α : Type} (F0 : Nat → Int → Int → (Bool → Option α) → Option α) (F1 : Nat → Int → Int → Int → Int → (Int → Option α) → Option α)  (k : Nat) (a : Int) (a1 : Int) (b_ : Int) (b_1 : Int) (r0 : Int → Option α) : Option α :=
  F0 k a a1 fun v =>
  bif (!v) then
    r0 1
  else
    F0 k b_ b_1 fun v1 =>
    bif (!v1) then
      r0 1
    else
      F1 k a a1 b_ b_1 fun v2 =>
      bif decide (v2 = 0) then
        r0 5
      else
        r0 0
theorem spec_l10Pair_gen {α : Type} (F0 : Nat → Int → Int → (Bool → Option α) → Option α) (F1 : Nat → Int → Int → Int → Int → (Int → Option α) → Option α)  (n : Nat) (a : Int) (a1 : Int) (b_ : Int) (b_1 : Int) (κ : Res → Option α) : evFn Try.prog (spec_l10Pair_XG F0 F1 n) Try.f54 (((buildDs spec_l10Pair_sh [.int a, .int a1, .int b_, .int b_1]).map Prod.fst).getD []) κ = spec_l10Pair_body F0 F1 n a a1 b_ b_1 (fun v1 => κ ⟨[.int .i64 v1], []⟩) := by kernel_rfl
theorem spec_l10Pair_ev {α : Type} (n : Nat) (a : Int) (a1 : Int) (b_ : Int) (b_1 : Int) (κ : Res → Option α) : evFn Try.prog (spec_l10Pair_X n) Try.f54 (((buildDs spec_l10Pair_sh [.int a, .int a1, .int b_, .int b_1]).map Prod.fst).getD []) κ = spec_l10Pair_run n [.int a, .int a1, .int b_, .int b_1] κ := (spec_l10Pair_gen spec_l01Is spec_l01Det n a a1 b_ b_1 κ).trans (by kernel_rfl)
theorem spec_l10Pair_en (a : Int) (a1 : Int) (b_ : Int) (b_1 : Int) : (entry 0 (((buildDs spec_l10Pair_sh [.int a, .int a1, .int b_, .int b_1]).map Prod.fst).getD [])).map (fun x => (x.1.length, x.2.lent)) = some (2, []) := by kernel_rfl
theorem spec_l10Pair_good {α : Type} : ∀ n, GoodFn (α := α) Try.prog 54 (byShape spec_l10Pair_sh (spec_l10Pair_run n)) := by
  refine fn_good' Try.func54 (c := (Try.f54.body.getD .skip)) (by kernel_rfl) (by kernel_rfl) (by kernel_rfl) spec_l10Pair_C spec_l10Pair_M eqs spec_l10Pair_lps (fun n => tabC_good (List.forall_mem_cons.2 ⟨(spec_l01Is_good n), (List.forall_mem_cons.2 ⟨(spec_l01Det_good n), (fun _ h => absurd h List.not_mem_nil)⟩)⟩)) eqs_ok spec_l10Pair_Lt ?_ ?_ spec_l10Pair_sh spec_l10Pair_run ?_
  · exact (fun _ h => absurd h List.not_mem_nil)
  · exact (fun _ h => absurd h List.not_mem_nil)
  · intro n p κ r ds hd hr
    have hr0 := hr
    unfold spec_l10Pair_run spec_l10Pair_runG at hr
    split at hr
    · rw [← ds_of hd]
      exact ⟨en_of (spec_l10Pair_en _ _ _ _) ⟨rfl, rfl⟩, (spec_l10Pair_ev n _ _ _ _ κ).trans hr0⟩
    · cases hr

/-! loop.example/g01297/spec.l10Dot -/
def spec_l10Dot_sh : List SkD := [.agg [.int .i64, .int .i64], .agg [.int .i64, .int .i64]]
def spec_l10Dot_runG {α : Type} (F : Nat → Int → Int → Int → Int → (Int → Option α) → Option α) (n : Nat) (p : List P1) (κ : Res → Option α) : Option α := match p with
  | [.int a, .int a1, .int b_, .int b_1] => F n a a1 b_ b_1 (fun v1 => κ ⟨[.int .i64 v1], []⟩)
  | _ => none
def spec_l10Dot_run {α : Type} (n : Nat) (p : List P1) (κ : Res → Option α) : Option α := spec_l10Dot_runG spec_l10Dot n p κ
def spec_l10Dot_CG {α : Type}  (n : Nat) : FuncId → List D → (Res → Option α) → Option α := tabC []
def spec_l10Dot_C {α : Type} (n : Nat) : FuncId → List D → (Res → Option α) → Option α := spec_l10Dot_CG n
def spec_l10Dot_M : FuncId → List Nat := tabM []
def spec_l10Dot_lpsG {α : Type}  : List (LoopT α) := []
def spec_l10Dot_lps {α : Type} : List (LoopT α) := spec_l10Dot_lpsG
def spec_l10Dot_XG {α : Type}   (n : Nat) : Ctx α := ⟨spec_l10Dot_CG n, spec_l10Dot_M, eqs, lpOf (spec_l10Dot_lpsG) n⟩
def spec_l10Dot_X {α : Type} (n : Nat) : Ctx α := spec_l10Dot_XG n
def spec_l10Dot_Lt (np : Nat) (lent : List (Bool × Nat × Blk)) : Prop := np = 2 ∧ lent = []
def spec_l10Dot_body {α : Type}   (k : Nat) (a : Int) (a1 : Int) (b_ : Int) (b_1 : Int) (r0 : Int → Option α) : Option α :=
  r0 (w64 ((w64 (a * b_)) + (w64 (a1 * b_1))))
theorem spec_l10Dot_gen {α : Type}   (n : Nat) (a : Int) (a1 : Int) (b_ : Int) (b_1 : Int) (κ : Res → Option α) : evFn Try.prog (spec_l10Dot_XG n) Try.f78 (((buildDs spec_l10Dot_sh [.int a, .int a1, .int b_, .int b_1]).map Prod.fst).getD []) κ = spec_l10Dot_body n a a1 b_ b_1 (fun v1 => κ ⟨[.int .i64 v1], []⟩) := by kernel_rfl
theorem spec_l10Dot_ev {α : Type} (n : Nat) (a : Int) (a1 : Int) (b_ : Int) (b_1 : Int) (κ : Res → Option α) : evFn Try.prog (spec_l10Dot_X n) Try.f78 (((buildDs spec_l10Dot_sh [.int a, .int a1, .int b_, .int b_1]).map Prod.fst).getD []) κ = spec_l10Dot_run n [.int a, .int a1, .int b_, .int b_1] κ := (spec_l10Dot_gen n a a1 b_ b_1 κ).trans (by kernel_rfl)
theorem spec_l10Dot_en (a : Int) (a1 : Int) (b_ : Int) (b_1 : Int) : (entry 0 (((buildDs spec_l10Dot_sh [.int a, .int a1, .int b_, .int b_1]).map Prod.fst).getD [])).map (fun x => (x.1.length, x.2.lent)) = some (2, []) := by kernel_rfl
theorem spec_l10Dot_good {α : Type} : ∀ n, GoodFn (α := α) Try.prog 78 (byShape spec_l10Dot_sh (spec_l10Dot_run n)) := by
  refine fn_good' Try.func78 (c := (Try.f78.body.getD .skip)) (by kernel_rfl) (by kernel_rfl) (by kernel_rfl) spec_l10Dot_C spec_l10Dot_M eqs spec_l10Dot_lps (fun n => tabC_good (fun _ h => absurd h List.not_mem_nil)) eqs_ok spec_l10Dot_Lt ?_ ?_ spec_l10Dot_sh spec_l10Dot_run ?_
  · exact (fun _ h => absurd h List.not_mem_nil)
  · exact (fun _ h => absurd h List.not_mem_nil)
  · intro n p κ r ds hd hr
    have hr0 := hr
    unfold spec_l10Dot_run spec_l10Dot_runG at hr
    split at hr
    · rw [← ds_of hd]
      exact ⟨en_of (spec_l10Dot_en _ _ _ _) ⟨rfl, rfl⟩, (spec_l10Dot_ev n _ _ _ _ κ).trans hr0⟩
    · cases hr

/-! loop.example/g01297/spec.l10Reduced -/
def spec_l10Reduced_sh : List SkD := [.agg [.int .i64, .int .i64], .agg [.int .i64, .int .i64]]
def spec_l10Reduced_runG {α : Type} (F : Nat → Int → Int → Int → Int → (Bool → Option α) → Option α) (n : Nat) (p : List P1) (κ : Res → Option α) : Option α := match p with
  | [.int a, .int a1, .int b_, .int b_1] => F n a a1 b_ b_1 (fun v1 => κ ⟨[.bool v1], []⟩)
  | _ => none
def spec_l10Reduced_run {α : Type} (n : Nat) (p : List P1) (κ : Res → Option α) : Option α := spec_l10Reduced_runG spec_l10Reduced n p κ
def spec_l10Reduced_CG {α : Type} (F0 : Nat → Int → Int → Int → Int → (Int → Option α) → Option α) (n : Nat) : FuncId → List D → (Res → Option α) → Option α := tabC [(78, (byShape spec_l10Dot_sh (spec_l10Dot_runG F0 n)))]
def spec_l10Reduced_C {α : Type} (n : Nat) : FuncId → List D → (Res → Option α) → Option α := spec_l10Reduced_CG spec_l10Dot n
def spec_l10Reduced_M : FuncId → List Nat := tabM []
def spec_l10Reduced_lpsG {α : Type}  : List (LoopT α) := []
def spec_l10Reduced_lps {α : Type} : List (LoopT α) := spec_l10Reduced_lpsG
def spec_l10Reduced_XG {α : Type} (F0 : Nat → Int → Int → Int → Int → (Int → Option α) → Option α)  (n : Nat) : Ctx α := ⟨spec_l10Reduced_CG F0 n, spec_l10Reduced_M, eqs, lpOf (spec_l10Reduced_lpsG) n⟩
def spec_l10Reduced_X {α : Type} (n : Nat) : Ctx α := spec_l10Reduced_XG spec_l10Dot n
def spec_l10Reduced_Lt (np : Nat) (lent : List (Bool × Nat × Blk)) : Prop := np = 2 ∧ lent = []
def spec_l10Reduced_body {α : Type} (F0 : Nat → Int → Int → Int → Int → (Int → Option α) → Option α)  (k : Nat) (a : Int) (a1 : Int) (b_ : Int) (b_1 : Int) (r0 : Bool → Option α) : Option α :=
  F0 k a a1 b_ b_1 fun v =>
  F0 k a a1 a a1 fun v1 =>
  F0 k b_ b_1 b_ b_1 fun v2 =>
  bif decide (v1 ≤ v2) then
    F0 k a a1 a a1 fun v3 =>
    r0 (decide ((max (w64 (2 * v)) (w64 (0 - (w64 (2 * v))))) ≤ v3))
  else
    r0 false
theorem spec_l10Reduced_gen {α : Type} (F0 : Nat → Int → Int → Int → Int → (Int → Option α) → Option α)  (n : Nat) (a : Int) (a1 : Int) (b_ : Int) (b_1 : Int) (κ : Res → Option α) : evFn Try.prog (spec_l10Reduced_XG F0 n) Try.f55 (((buildDs spec_l10Reduced_sh [.int a, .int a1, .int b_, .int b_1]).map Prod.fst).getD []) κ = spec_l10Reduced_body F0 n a a1 b_ b_1 (fun v1 => κ ⟨[.bool v1], []⟩) := by kernel_rfl
theorem spec_l10Reduced_ev {α : Type} (n : Nat) (a : Int) (a1 : Int) (b_ : Int) (b_1 : Int) (κ : Res → Option α) : evFn Try.prog (spec_l10Reduced_X n) Try.f55 (((buildDs spec_l10Reduced_sh [.int a, .int a1, .int b_, .int b_1]).map Prod.fst).getD []) κ = spec_l10Reduced_run n [.int a, .int a1, .int b_, .int b_1] κ := (spec_l10Reduced_gen spec_l10Dot n a a1 b_ b_1 κ).trans (by kernel_rfl)
theorem spec_l10Reduced_en (a : Int) (a1 : Int) (b_ : Int) (b_1 : Int) : (entry 0 (((buildDs spec_l10Reduced_sh [.int a, .int a1, .int b_, .int b_1]).map Prod.fst).getD [])).map (fun x => (x.1.length, x.2.lent)) = some (2, []) := by kernel_rfl
theorem spec_l10Reduced_good {α : Type} : ∀ n, GoodFn (α := α) Try.prog 55 (byShape spec_l10Reduced_sh (spec_l10Reduced_run n)) := by
  refine fn_good' Try.func55 (c := (Try.f55.body.getD .skip)) (by kernel_rfl) (by kernel_rfl) (by kernel_rfl) spec_l10Reduced_C spec_l10Reduced_M eqs spec_l10Reduced_lps (fun n => tabC_good (List.forall_mem_cons.2 ⟨(spec_l10Dot_good n), (fun _ h => absurd h List.not_mem_nil)⟩)) eqs_ok spec_l10Reduced_Lt ?_ ?_ spec_l10Reduced_sh spec_l10Reduced_run ?_
  · exact (fun _ h => absurd h List.not_mem_nil)
  · exact (fun _ h => absurd h List.not_mem_nil)
  · intro n p κ r ds hd hr
    have hr0 := hr
    unfold spec_l10Reduced_run spec_l10Reduced_runG at hr
    split at hr
    · rw [← ds_of hd]
      exact ⟨en_of (spec_l10Reduced_en _ _ _ _) ⟨rfl, rfl⟩, (spec_l10Reduced_ev n _ _ _ _ κ).trans hr0⟩
    · cases hr

/-! loop.example/g01297/spec.l01Floor -/
def spec_l01Floor_sh : List SkD := [.int .i64, .int .i64]
def spec_l01Floor_runG {α : Type} (F : Nat → Int → Int → (Int → Option α) → Option α) (n : Nat) (p : List P1) (κ : Res → Option α) : Option α := match p with
  | [.int p_, .int q_] => F n p_ q_ (fun v1 => κ ⟨[.int .i64 v1], []⟩)
  | _ => none
def spec_l01Floor_run {α : Type} (n : Nat) (p : List P1) (κ : Res → Option α) : Option α := spec_l01Floor_runG spec_l01Floor n p κ
def spec_l01Floor_CG {α : Type}  (n : Nat) : FuncId → List D → (Res → Option α) → Option α := tabC []
def spec_l01Floor_C {α : Type} (n : Nat) : FuncId → List D → (Res → Option α) → Option α := spec_l01Floor_CG n
def spec_l01Floor_M : FuncId → List Nat := tabM []
def spec_l01Floor_lpsG {α : Type}  : List (LoopT α) := []
def spec_l01Floor_lps {α : Type} : List (LoopT α) := spec_l01Floor_lpsG
def spec_l01Floor_XG {α : Type}   (n : Nat) : Ctx α := ⟨spec_l01Floor_CG n, spec_l01Floor_M, eqs, lpOf (spec_l01Floor_lpsG) n⟩
def spec_l01Floor_X {α : Type} (n : Nat) : Ctx α := spec_l01Floor_XG n
def spec_l01Floor_Lt (np : Nat) (lent : List (Bool × Nat × Blk)) : Prop := np = 2 ∧ lent = []
def spec_l01Floor_body {α : Type}   (k : Nat) (p_ : Int) (q_ : Int) (r0 : Int → Option α) : Option α :=
  bif decide (q_ = 0) then
    none
  else
  bif decide (q_ = 0) then
    none
  else
  bif (!decide ((Int.tmod p_ q_) = 0)) then
    bif (!(decide (p_ < 0) == decide (q_ < 0))) then
      r0 (w64 ((w64 (Int.tdiv p_ q_)) - 1))
    else
      r0 (w64 (Int.tdiv p_ q_))
  else
    r0 (w64 (Int.tdiv p_ q_))
theorem spec_l01Floor_gen {α : Type}   (n : Nat) (p_ : Int) (q_ : Int) (κ : Res → Option α) : evFn Try.prog (spec_l01Floor_XG n) Try.f98 (((buildDs spec_l01Floor_sh [.int p_, .int q_]).map Prod.fst).getD []) κ = spec_l01Floor_body n p_ q_ (fun v1 => κ ⟨[.int .i64 v1], []⟩) := by kernel_rfl
theorem spec_l01Floor_ev {α : Type} (n : Nat) (p_ : Int) (q_ : Int) (κ : Res → Option α) : evFn Try.prog (spec_l01Floor_X n) Try.f98 (((buildDs spec_l01Floor_sh [.int p_, .int q_]).map Prod.fst).getD []) κ = spec_l01Floor_run n [.int p_, .int q_] κ := (spec_l01Floor_gen n p_ q_ κ).trans (by kernel_rfl)
theorem spec_l01Floor_en (p_ : Int) (q_ : Int) : (entry 0 (((buildDs spec_l01Floor_sh [.int p_, .int q_]).map Prod.fst).getD [])).map (fun x => (x.1.length, x.2.lent)) = some (2, []) := by kernel_rfl
theorem spec_l01Floor_good {α : Type} : ∀ n, GoodFn (α := α) Try.prog 98 (byShape spec_l01Floor_sh (spec_l01Floor_run n)) := by
  refine fn_good' Try.func98 (c := (Try.f98.body.getD .skip)) (by kernel_rfl) (by kernel_rfl) (by kernel_rfl) spec_l01Floor_C spec_l01Floor_M eqs spec_l01Floor_lps (fun n => tabC_good (fun _ h => absurd h List.not_mem_nil)) eqs_ok spec_l01Floor_Lt ?_ ?_ spec_l01Floor_sh spec_l01Floor_run ?_
  · exact (fun _ h => absurd h List.not_mem_nil)
  · exact (fun _ h => absurd h List.not_mem_nil)
  · intro n p κ r ds hd hr
    have hr0 := hr
    unfold spec_l01Floor_run spec_l01Floor_runG at hr
    split at hr
    · rw [← ds_of hd]
      exact ⟨en_of (spec_l01Floor_en _ _) ⟨rfl, rfl⟩, (spec_l01Floor_ev n _ _ κ).trans hr0⟩
    · cases hr

/-! loop.example/g01297/spec.l01Plus -/
def spec_l01Plus_sh : List SkD := [.agg [.int .i64, .int .i64], .agg [.int .i64, .int .i64], .int .i64]
def spec_l01Plus_runG {α : Type} (F : Nat → Int → Int → Int → Int → Int → (Int → Int → Option α) → Option α) (n : Nat) (p : List P1) (κ : Res → Option α) : Option α := match p with
  | [.int a, .int a1, .int b_, .int b_1, .int k_] => F n a a1 b_ b_1 k_ (fun v1 v2 => κ ⟨[.agg [.int .i64 v1, .int .i64 v2]], []⟩)
  | _ => none
def spec_l01Plus_run {α : Type} (n : Nat) (p : List P1) (κ : Res → Option α) : Option α := spec_l01Plus_runG spec_l01Plus n p κ
def spec_l01Plus_CG {α : Type}  (n : Nat) : FuncId → List D → (Res → Option α) → Option α := tabC []
def spec_l01Plus_C {α : Type} (n : Nat) : FuncId → List D → (Res → Option α) → Option α := spec_l01Plus_CG n
def spec_l01Plus_M : FuncId → List Nat := tabM []
def spec_l01Plus_lpsG {α : Type}  : List (LoopT α) := []
def spec_l01Plus_lps {α : Type} : List (LoopT α) := spec_l01Plus_lpsG
def spec_l01Plus_XG {α : Type}   (n : Nat) : Ctx α := ⟨spec_l01Plus_CG n, spec_l01Plus_M, eqs, lpOf (spec_l01Plus_lpsG) n⟩
def spec_l01Plus_X {α : Type} (n : Nat) : Ctx α := spec_l01Plus_XG n
def spec_l01Plus_Lt (np : Nat) (lent : List (Bool × Nat × Blk)) : Prop := np = 3 ∧ lent = []
def spec_l01Plus_body {α : Type}   (k : Nat) (a : Int) (a1 : Int) (b_ : Int) (b_1 : Int) (k_ : Int) (r0 : Int → Int → Option α) : Option α :=
  r0 (w64 (a + (w64 (k_ * b_)))) (w64 (a1 + (w64 (k_ * b_1))))
theorem spec_l01Plus_gen {α : Type}   (n : Nat) (a : Int) (a1 : Int) (b_ : Int) (b_1 : Int) (k_ : Int) (κ : Res → Option α) : evFn Try.prog (spec_l01Plus_XG n) Try.f113 (((buildDs spec_l01Plus_sh [.int a, .int a1, .int b_, .int b_1, .int k_]).map Prod.fst).getD []) κ = spec_l01Plus_body n a a1 b_ b_1 k_ (fun v1 v2 => κ ⟨[.agg [.int .i64 v1, .int .i64 v2]], []⟩) := by kernel_rfl
theorem spec_l01Plus_ev {α : Type} (n : Nat) (a : Int) (a1 : Int) (b_ : Int) (b_1 : Int) (k_ : Int) (κ : Res → Option α) : evFn Try.prog (spec_l01Plus_X n) Try.f113 (((buildDs spec_l01Plus_sh [.int a, .int a1, .int b_, .int b_1, .int k_]).map Prod.fst).getD []) κ = spec_l01Plus_run n [.int a, .int a1, .int b_, .int b_1, .int k_] κ := (spec_l01Plus_gen n a a1 b_ b_1 k_ κ).trans (by kernel_rfl)
theorem spec_l01Plus_en (a : Int) (a1 : Int) (b_ : Int) (b_1 : Int) (k_ : Int) : (entry 0 (((buildDs spec_l01Plus_sh [.int a, .int a1, .int b_, .int b_1, .int k_]).map Prod.fst).getD [])).map (fun x => (x.1.length, x.2.lent)) = some (3, []) := by kernel_rfl
theorem spec_l01Plus_good {α : Type} : ∀ n, GoodFn (α := α) Try.prog 113 (byShape spec_l01Plus_sh (spec_l01Plus_run n)) := by
  refine fn_good' Try.func113 (c := (Try.f113.body.getD .skip)) (by kernel_rfl) (by kernel_rfl) (by kernel_rfl) spec_l01Plus_C spec_l01Plus_M eqs spec_l01Plus_lps (fun n => tabC_good (fun _ h => absurd h List.not_mem_nil)) eqs_ok spec_l01Plus_Lt ?_ ?_ spec_l01Plus_sh spec_l01Plus_run ?_
  · exact (fun _ h => absurd h List.not_mem_nil)
  · exact (fun _ h => absurd h List.not_mem_nil)
  · intro n p κ r ds hd hr
    have hr0 := hr
    unfold spec_l01Plus_run spec_l01Plus_runG at hr
    split at hr
    · rw [← ds_of hd]
      exact ⟨en_of (spec_l01Plus_en _ _ _ _ _) ⟨rfl, rfl⟩, (spec_l01Plus_ev n _ _ _ _ _ κ).trans hr0⟩
    · cases hr

/-! loop.example/g01297/spec.l10Reduce -/
def spec_l10Reduce_sh : List SkD := [.agg [.int .i64, .int .i64], .agg [.int .i64, .int .i64]]
def spec_l10Reduce_runG {α : Type} (F : Nat → Int → Int → Int → Int → (Int → Int → Int → Int → Option α) → Option α) (n : Nat) (p : List P1) (κ : Res → Option α) : Option α := match p with
  | [.int a, .int a1, .int b_, .int b_1] => F n a a1 b_ b_1 (fun v1 v2 v3 v4 => κ ⟨[.agg [.int .i64 v1, .int .i64 v2], .agg [.int .i64 v3, .int .i64 v4]], []⟩)
  | _ => none
def spec_l10Reduce_run {α : Type} (n : Nat) (p : List P1) (κ : Res → Option α) : Option α := spec_l10Reduce_runG spec_l10Reduce n p κ
def spec_l10Reduce_CG {α : Type} (F0 : Nat → Int → Int → Int → Int → (Bool → Option α) → Option α) (F1 : Nat → Int → Int → Int → Int → (Int → Option α) → Option α) (F2 : Nat → Int → Int → (Int → Option α) → Option α) (F3 : Nat → Int → Int → Int → Int → Int → (Int → Int → Option α) → Option α) (n : Nat) : FuncId → List D → (Res → Option α) → Option α := tabC [(55, (byShape spec_l10Reduced_sh (spec_l10Reduced_runG F0 n))), (78, (byShape spec_l10Dot_sh (spec_l10Dot_runG F1 n))), (98, (byShape spec_l01Floor_sh (spec_l01Floor_runG F2 n))), (113, (byShape spec_l01Plus_sh (spec_l01Plus_runG F3 n)))]
def spec_l10Reduce_C {α : Type} (n : Nat) : FuncId → List D → (Res → Option α) → Option α := spec_l10Reduce_CG spec_l10Reduced spec_l10Dot spec_l01Floor spec_l01Plus n
def spec_l10Reduce_M : FuncId → List Nat := tabM []
def spec_l10Reduce_t1 : Tpl := ⟨[.any, .any, .ptr 128 0 0, .ptr 192 0 0, .ptr 256 0 0, .ptr 320 0 0, .any, .any, .any, .any, .any, .any, .any, .any, .any, .any, .any, .any, .any, .any, .any, .any, .any, .any, .any, .any, .any, .any, .any, .any, .any, .any, .any, .any, .any, .any, .any, .any, .any, .any], [(128, .ints 2 31 .i64 2), (192, .ints 2 31 .i64 2), (256, .ints 2 31 .i64 2), (320, .ints 2 31 .i64 2)], []⟩
def spec_l10Reduce_uG1 {α : Type} (G : Nat → Int → Int → Int → Int → Int → Int → Int → Int → (Int → Int → Int → Int → Int → Int → Int → Int → Option α) → (Int → Int → Int → Int → Option α) → Option α) (n : Nat) (p : List P1) (brk : Nat → List P1 → Option α) (ret : Res → Option α) : Option α := match p with
  | [.int a2, .int a3, .int b_2, .int b_3, .int x, .int x1, .int x2, .int x3] => G n a2 a3 b_2 b_3 x x1 x2 x3 (fun a2 a3 b_2 b_3 x x1 x2 x3 => brk 0 [.int a2, .int a3, .int b_2, .int b_3, .int x, .int x1, .int x2, .int x3]) (fun v1 v2 v3 v4 => ret ⟨[.agg [.int .i64 v1, .int .i64 v2], .agg [.int .i64 v3, .int .i64 v4]], []⟩)
  | _ => none
def spec_l10Reduce_u1 {α : Type} (n : Nat) (p : List P1) (brk : Nat → List P1 → Option α) (ret : Res → Option α) : Option α := spec_l10Reduce_uG1 spec_l10Reduce_l1 n p brk ret
def spec_l10Reduce_lpsG {α : Type} (G1 : Nat → Int → Int → Int → Int → Int → Int → Int → Int → (Int → Int → Int → Int → Int → Int → Int → Int → Option α) → (Int → Int → Int → Int → Option α) → Option α) : List (LoopT α) := [⟨1, spec_l10Reduce_t1, spec_l10Reduce_uG1 G1⟩]
def spec_l10Reduce_lps {α : Type} : List (LoopT α) := spec_l10Reduce_lpsG spec_l10Reduce_l1
def spec_l10Reduce_XG {α : Type} (F0 : Nat → Int → Int → Int → Int → (Bool → Option α) → Option α) (F1 : Nat → Int → Int → Int → Int → (Int → Option α) → Option α) (F2 : Nat → Int → Int → (Int → Option α) → Option α) (F3 : Nat → Int → Int → Int → Int → Int → (Int → Int → Option α) → Option α) (G1 : Nat → Int → Int → Int → Int → Int → Int → Int → Int → (Int → Int → Int → Int → Int → Int → Int → Int → Option α) → (Int → Int → Int → Int → Option α) → Option α) (n : Nat) : Ctx α := ⟨spec_l10Reduce_CG F0 F1 F2 F3 n, spec_l10Reduce_M, eqs, lpOf (spec_l10Reduce_lpsG G1) n⟩
def spec_l10Reduce_X {α : Type} (n : Nat) : Ctx α := spec_l10Reduce_XG spec_l10Reduced spec_l10Dot spec_l01Floor spec_l01Plus spec_l10Reduce_l1 n
def spec_l10Reduce_Lt (np : Nat) (lent : List (Bool × Nat × Blk)) : Prop := np = 2 ∧ lent = []
def spec_l10Reduce_lb1 {α : Type} (F0 : Nat → Int → Int → Int → Int → (Bool → Option α) → Option α) (F1 : Nat → Int → Int → Int → Int → (Int → Option α) → Option α) (F2 : Nat → Int → Int → (Int → Option α) → Option α) (F3 : Nat → Int → Int → Int → Int → Int → (Int → Int → Option α) → Option α) (G1 : Nat → Int → Int → Int → Int → Int → Int → Int → Int → (Int → Int → Int → Int → Int → Int → Int → Int → Option α) → (Int → Int → Int → Int → Option α) → Option α) (k : Nat) (a2 : Int) (a3 : Int) (b_2 : Int) (b_3 : Int) (x : Int) (x1 : Int) (x2 : Int) (x3 : Int) (b0 : Int → Int → Int → Int → Int → Int → Int → Int → Option α) (r0 : Int → Int → Int → Int → Option α) : Option α :=
  F0 k a2 a3 b_2 b_3 fun v =>
  bif (!v) then
    F1 k a2 a3 a2 a3 fun v1 =>
    F1 k b_2 b_3 b_2 b_3 fun v2 =>
    bif decide (v2 < v1) then
      G1 k b_2 b_3 a2 a3 x x1 x2 x3 b0 r0
    else
      F1 k a2 a3 a2 a3 fun v3 =>
      F1 k a2 a3 b_2 b_3 fun v4 =>
      F2 k (w64 ((w64 (2 * v4)) + v3)) (w64 (2 * v3)) fun v5 =>
      F3 k b_2 b_3 a2 a3 (w64 (0 - v5)) fun v6 v7 =>
      G1 k a2 a3 v6 v7 x x1 x2 x3 b0 r0
  else
    b0 a2 a3 b_2 b_3 x x1 x2 x3
theorem spec_l10Reduce_l1_gen {α : Type} (F0 : Nat → Int → Int → Int → Int → (Bool → Option α) → Option α) (F1 : Nat → Int → Int → Int → Int → (Int → Option α) → Option α) (F2 : Nat → Int → Int → (Int → Option α) → Option α) (F3 : Nat → Int → Int → Int → Int → Int → (Int → Int → Option α) → Option α) (G1 : Nat → Int → Int → Int → Int → Int → Int → Int → Int → (Int → Int → Int → Int → Int → Int → Int → Int → Option α) → (Int → Int → Int → Int → Option α) → Option α) (n : Nat) (a2 : Int) (a3 : Int) (b_2 : Int) (b_3 : Int) (x : Int) (x1 : Int) (x2 : Int) (x3 : Int) (brk : Nat → List P1 → Option α) (ret : Res → Option α) : ev ((spec_l10Reduce_XG F0 F1 F2 F3 G1 n).env Try.prog Try.f77 2 []) (findLoop (loopsIn (Try.f77.body.getD .skip)) 1) ((spec_l10Reduce_t1.build [.int a2, .int a3, .int b_2, .int b_3, .int x, .int x1, .int x2, .int x3]).getD ⟨[], []⟩) (roundK (2 * 64) spec_l10Reduce_t1 (fun q => spec_l10Reduce_uG1 G1 n q brk ret) brk ret) = spec_l10Reduce_lb1 F0 F1 F2 F3 G1 n a2 a3 b_2 b_3 x x1 x2 x3 (fun a2 a3 b_2 b_3 x x1 x2 x3 => brk 0 [.int a2, .int a3, .int b_2, .int b_3, .int x, .int x1, .int x2, .int x3]) (fun v1 v2 v3 v4 => ret ⟨[.agg [.int .i64 v1, .int .i64 v2], .agg [.int .i64 v3, .int .i64 v4]], []⟩) := by kernel_rfl
theorem spec_l10Reduce_l1_ev {α : Type} (n : Nat) (a2 : Int) (a3 : Int) (b_2 : Int) (b_3 : Int) (x : Int) (x1 : Int) (x2 : Int) (x3 : Int) (brk : Nat → List P1 → Option α) (ret : Res → Option α) : ev ((spec_l10Reduce_X n).env Try.prog Try.f77 2 []) (findLoop (loopsIn (Try.f77.body.getD .skip)) 1) ((spec_l10Reduce_t1.build [.int a2, .int a3, .int b_2, .int b_3, .int x, .int x1, .int x2, .int x3]).getD ⟨[], []⟩) (roundK (2 * 64) spec_l10Reduce_t1 (fun q => spec_l10Reduce_u1 n q brk ret) brk ret) = spec_l10Reduce_u1 (n + 1) [.int a2, .int a3, .int b_2, .int b_3, .int x, .int x1, .int x2, .int x3] brk ret := (spec_l10Reduce_l1_gen spec_l10Reduced spec_l10Dot spec_l01Floor spec_l01Plus spec_l10Reduce_l1 n a2 a3 b_2 b_3 x x1 x2 x3 brk ret).trans (by kernel_rfl)
def spec_l10Reduce_body {α : Type} (F0 : Nat → Int → Int → Int → Int → (Bool → Option α) → Option α) (F1 : Nat → Int → Int → Int → Int → (Int → Option α) → Option α) (F2 : Nat → Int → Int → (Int → Option α) → Option α) (F3 : Nat → Int → Int → Int → Int → Int → (Int → Int → Option α) → Option α) (G1 : Nat → Int → Int → Int → Int → Int → Int → Int → Int → (Int → Int → Int → Int → Int → Int → Int → Int → Option α) → (Int → Int → Int → Int → Option α) → Option α) (k : Nat) (a : Int) (a1 : Int) (b_ : Int) (b_1 : Int) (r0 : Int → Int → Int → Int → Option α) : Option α :=
  G1 k a a1 b_ b_1 0 0 0 0
    (fun a4 a5 b_4 b_5 x4 x5 x6 x7 =>
      r0 a4 a5 b_4 b_5)
    r0
theorem spec_l10Reduce_gen {α : Type} (F0 : Nat → Int → Int → Int → Int → (Bool → Option α) → Option α) (F1 : Nat → Int → Int → Int → Int → (Int → Option α) → Option α) (F2 : Nat → Int → Int → (Int → Option α) → Option α) (F3 : Nat → Int → Int → Int → Int → Int → (Int → Int → Option α) → Option α) (G1 : Nat → Int → Int → Int → Int → Int → Int → Int → Int → (Int → Int → Int → Int → Int → Int → Int → Int → Option α) → (Int → Int → Int → Int → Option α) → Option α) (n : Nat) (a : Int) (a1 : Int) (b_ : Int) (b_1 : Int) (κ : Res → Option α) : evFn Try.prog (spec_l10Reduce_XG F0 F1 F2 F3 G1 n) Try.f77 (((buildDs spec_l10Reduce_sh [.int a, .int a1, .int b_, .int b_1]).map Prod.fst).getD []) κ = spec_l10Reduce_body F0 F1 F2 F3 G1 n a a1 b_ b_1 (fun v1 v2 v3 v4 => κ ⟨[.agg [.int .i64 v1, .int .i64 v2], .agg [.int .i64 v3, .int .i64 v4]], []⟩) := by kernel_rfl
theorem spec_l10Reduce_ev {α : Type} (n : Nat) (a : Int) (a1 : Int) (b_ : Int) (b_1 : Int) (κ : Res → Option α) : evFn Try.prog (spec_l10Reduce_X n) Try.f77 (((buildDs spec_l10Reduce_sh [.int a, .int a1, .int b_, .int b_1]).map Prod.fst).getD []) κ = spec_l10Reduce_run n [.int a, .int a1, .int b_, .int b_1] κ := (spec_l10Reduce_gen spec_l10Reduced spec_l10Dot spec_l01Floor spec_l01Plus spec_l10Reduce_l1 n a a1 b_ b_1 κ).trans (by kernel_rfl)
theorem spec_l10Reduce_en (a : Int) (a1 : Int) (b_ : Int) (b_1 : Int) : (entry 0 (((buildDs spec_l10Reduce_sh [.int a, .int a1, .int b_, .int b_1]).map Prod.fst).getD [])).map (fun x => (x.1.length, x.2.lent)) = some (2, []) := by kernel_rfl
theorem spec_l10Reduce_good {α : Type} : ∀ n, GoodFn (α := α) Try.prog 77 (byShape spec_l10Reduce_sh (spec_l10Reduce_run n)) := by
  refine fn_good' Try.func77 (c := (Try.f77.body.getD .skip)) (by kernel_rfl) (by kernel_rfl) (by kernel_rfl) spec_l10Reduce_C spec_l10Reduce_M eqs spec_l10Reduce_lps (fun n => tabC_good (List.forall_mem_cons.2 ⟨(spec_l10Reduced_good n), (List.forall_mem_cons.2 ⟨(spec_l10Dot_good n), (List.forall_mem_cons.2 ⟨(spec_l01Floor_good n), (List.forall_mem_cons.2 ⟨(spec_l01Plus_good n), (fun _ h => absurd h List.not_mem_nil)⟩)⟩)⟩)⟩)) eqs_ok spec_l10Reduce_Lt ?_ ?_ spec_l10Reduce_sh spec_l10Reduce_run ?_
  · refine List.forall_mem_cons.2 ⟨?_, (fun _ h => absurd h List.not_mem_nil)⟩
    · intro p brk ret; show spec_l10Reduce_u1 0 p brk ret = none; unfold spec_l10Reduce_u1 spec_l10Reduce_uG1; split <;> rfl
  · refine List.forall_mem_cons.2 ⟨?_, (fun _ h => absurd h List.not_mem_nil)⟩
    · intro np lent hL n p brk ret st r hb hr
      obtain ⟨rfl, rfl⟩ := hL
      rw [← tpl_of hb]
      change spec_l10Reduce_u1 (n + 1) p brk ret = some r at hr
      have hr0 := hr
      unfold spec_l10Reduce_u1 spec_l10Reduce_uG1 at hr
      split at hr
      · exact (spec_l10Reduce_l1_ev n _ _ _ _ _ _ _ _ brk ret).trans hr0
      · cases hr
  · intro n p κ r ds hd hr
    have hr0 := hr
    unfold spec_l10Reduce_run spec_l10Reduce_runG at hr
    split at hr
    · rw [← ds_of hd]
      exact ⟨en_of (spec_l10Reduce_en _ _ _ _) ⟨rfl, rfl⟩, (spec_l10Reduce_ev n _ _ _ _ κ).trans hr0⟩
    · cases hr

/-! loop.example/g01297/spec.ShortestNorm -/
def spec_ShortestNorm_sh : List SkD := [.agg [.int .i64, .int .i64], .agg [.int .i64, .int .i64]]
def spec_ShortestNorm_runG {α : Type} (F : Nat → Int → Int → Int → Int → (Int → Int → Option α) → Option α) (n : Nat) (p : List P1) (κ : Res → Option α) : Option α := match p with
  | [.int a, .int a1, .int b_, .int b_1] => F n a a1 b_ b_1 (fun v1 v2 => κ ⟨[.int .i64 v1, .int .i64 v2], []⟩)
  | _ => none
def spec_ShortestNorm_run {α : Type} (n : Nat) (p : List P1) (κ : Res → Option α) : Option α := spec_ShortestNorm_runG spec_ShortestNorm n p κ
def spec_ShortestNorm_CG {α : Type} (F0 : Nat → Int → Int → Int → Int → (Int → Option α) → Option α) (F1 : Nat → Int → Int → Int → Int → (Int → Int → Int → Int → Option α) → Option α) (F2 : Nat → Int → Int → Int → Int → (Int → Option α) → Option α) (n : Nat) : FuncId → List D → (Res → Option α) → Option α := tabC [(54, (byShape spec_l10Pair_sh (spec_l10Pair_runG F0 n))), (77, (byShape spec_l10Reduce_sh (spec_l10Reduce_runG F1 n))), (78, (byShape spec_l10Dot_sh (spec_l10Dot_runG F2 n)))]
def spec_ShortestNorm_C {α : Type} (n : Nat) : FuncId → List D → (Res → Option α) → Option α := spec_ShortestNorm_CG spec_l10Pair spec_l10Reduce spec_l10Dot n
def spec_ShortestNorm_M : FuncId → List Nat := tabM []
def spec_ShortestNorm_lpsG {α : Type}  : List (LoopT α) := []
def spec_ShortestNorm_lps {α : Type} : List (LoopT α) := spec_ShortestNorm_lpsG
def spec_ShortestNorm_XG {α : Type} (F0 : Nat → Int → Int → Int → Int → (Int → Option α) → Option α) (F1 : Nat → Int → Int → Int → Int → (Int → Int → Int → Int → Option α) → Option α) (F2 : Nat → Int → Int → Int → Int → (Int → Option α) → Option α)  (n : Nat) : Ctx α := ⟨spec_ShortestNorm_CG F0 F1 F2 n, spec_ShortestNorm_M, eqs, lpOf (spec_ShortestNorm_lpsG) n⟩
def spec_ShortestNorm_X {α : Type} (n : Nat) : Ctx α := spec_ShortestNorm_XG spec_l10Pair spec_l10Reduce spec_l10Dot n
def spec_ShortestNorm_Lt (np : Nat) (lent : List (Bool × Nat × Blk)) : Prop := np = 2 ∧ lent = []
def spec_ShortestNorm_body {α : Type} (F0 : Nat → Int → Int → Int → Int → (Int → Option α) → Option α) (F1 : Nat → Int → Int → Int → Int → (Int → Int → Int → Int → Option α) → Option α) (F2 : Nat → Int → Int → Int → Int → (Int → Option α) → Option α)  (k : Nat) (a : Int) (a1 : Int) (b_ : Int) (b_1 : Int) (r0 : Int → Int → Option α) : Option α :=
  F0 k a a1 b_ b_1 fun v =>
  bif (!decide (v = 0)) then
    r0 0 v
  else
    F1 k a a1 b_ b_1 fun v1 v2 v3 v4 =>
    F2 k v1 v2 v1 v2 fun v5 =>
    r0 v5 0
theorem spec_ShortestNorm_gen {α : Type} (F0 : Nat → Int → Int → Int → Int → (Int → Option α) → Option α) (F1 : Nat → Int → Int → Int → Int → (Int → Int → Int → Int → Option α) → Option α) (F2 : Nat → Int → Int → Int → Int → (Int → Option α) → Option α)  (n : Nat) (a : Int) (a1 : Int) (b_ : Int) (b_1 : Int) (κ : Res → Option α) : evFn Try.prog (spec_ShortestNorm_XG F0 F1 F2 n) Try.f41 (((buildDs spec_ShortestNorm_sh [.int a, .int a1, .int b_, .int b_1]).map Prod.fst).getD []) κ = spec_ShortestNorm_body F0 F1 F2 n a a1 b_ b_1 (fun v1 v2 => κ ⟨[.int .i64 v1, .int .i64 v2], []⟩) := by kernel_rfl
theorem spec_ShortestNorm_ev {α : Type} (n : Nat) (a : Int) (a1 : Int) (b_ : Int) (b_1 : Int) (κ : Res → Option α) : evFn Try.prog (spec_ShortestNorm_X n) Try.f41 (((buildDs spec_ShortestNorm_sh [.int a, .int a1, .int b_, .int b_1]).map Prod.fst).getD []) κ = spec_ShortestNorm_run n [.int a, .int a1, .int b_, .int b_1] κ := (spec_ShortestNorm_gen spec_l10Pair spec_l10Reduce spec_l10Dot n a a1 b_ b_1 κ).trans (by kernel_rfl)
theorem spec_ShortestNorm_en (a : Int) (a1 : Int) (b_ : Int) (b_1 : Int) : (entry 0 (((buildDs spec_ShortestNorm_sh [.int a, .int a1, .int b_, .int b_1]).map Prod.fst).getD [])).map (fun x => (x.1.length, x.2.lent)) = some (2, []) := by kernel_rfl
theorem spec_ShortestNorm_good {α : Type} : ∀ n, GoodFn (α := α) Try.prog 41 (byShape spec_ShortestNorm_sh (spec_ShortestNorm_run n)) := by
  refine fn_good' Try.func41 (c := (Try.f41.body.getD .skip)) (by kernel_rfl) (by kernel_rfl) (by kernel_rfl) spec_ShortestNorm_C spec_ShortestNorm_M eqs spec_ShortestNorm_lps (fun n => tabC_good (List.forall_mem_cons.2 ⟨(spec_l10Pair_good n), (List.forall_mem_cons.2 ⟨(spec_l10Reduce_good n), (List.forall_mem_cons.2 ⟨(spec_l10Dot_good n), (fun _ h => absurd h List.not_mem_nil)⟩)⟩)⟩)) eqs_ok spec_ShortestNorm_Lt ?_ ?_ spec_ShortestNorm_sh spec_ShortestNorm_run ?_
  · exact (fun _ h => absurd h List.not_mem_nil)
  · exact (fun _ h => absurd h List.not_mem_nil)
  · intro n p κ r ds hd hr
    have hr0 := hr
    unfold spec_ShortestNorm_run spec_ShortestNorm_runG at hr
    split at hr
    · rw [← ds_of hd]
      exact ⟨en_of (spec_ShortestNorm_en _ _ _ _) ⟨rfl, rfl⟩, (spec_ShortestNorm_ev n _ _ _ _ κ).trans hr0⟩
    · cases hr

/-! loop.example/g01297/impl.in -/
def impl_in_sh : List SkD := [.int .i64, .int .i64, .int .i64]
def impl_in_runG {α : Type} (F : Nat → Int → Int → Int → (Bool → Option α) → Option α) (n : Nat) (p : List P1) (κ : Res → Option α) : Option α := match p with
  | [.int n_, .int low, .int high] => F n n_ low high (fun v1 => κ ⟨[.bool v1], []⟩)
  | _ => none
def impl_in_run {α : Type} (n : Nat) (p : List P1) (κ : Res → Option α) : Option α := impl_in_runG impl_in n p κ
def impl_in_CG {α : Type}  (n : Nat) : FuncId → List D → (Res → Option α) → Option α := tabC []
def impl_in_C {α : Type} (n : Nat) : FuncId → List D → (Res → Option α) → Option α := impl_in_CG n
def impl_in_M : FuncId → List Nat := tabM []
def impl_in_lpsG {α : Type}  : List (LoopT α) := []
def impl_in_lps {α : Type} : List (LoopT α) := impl_in_lpsG
def impl_in_XG {α : Type}   (n : Nat) : Ctx α := ⟨impl_in_CG n, impl_in_M, eqs, lpOf (impl_in_lpsG) n⟩
def impl_in_X {α : Type} (n : Nat) : Ctx α := impl_in_XG n
def impl_in_Lt (np : Nat) (lent : List (Bool × Nat × Blk)) : Prop := np = 3 ∧ lent = []
def impl_in_body {α : Type}   (k : Nat) (n_ : Int) (low : Int) (high : Int) (r0 : Bool → Option α) : Option α :=
  bif decide (low ≤ n_) then
    r0 (decide (n_ ≤ high))
  else
    r0 false
theorem impl_in_gen {α : Type}   (n : Nat) (n_ : Int) (low : Int) (high : Int) (κ : Res → Option α) : evFn Try.prog (impl_in_XG n) Try.f92 (((buildDs impl_in_sh [.int n_, .int low, .int high]).map Prod.fst).getD []) κ = impl_in_body n n_ low high (fun v1 => κ ⟨[.bool v1], []⟩) := by kernel_rfl
theorem impl_in_ev {α : Type} (n : Nat) (n_ : Int) (low : Int) (high : Int) (κ : Res → Option α) : evFn Try.prog (impl_in_X n) Try.f92 (((buildDs impl_in_sh [.int n_, .int low, .int high]).map Prod.fst).getD []) κ = impl_in_run n [.int n_, .int low, .int high] κ := (impl_in_gen n n_ low high κ).trans (by kernel_rfl)
theorem impl_in_en (n_ : Int) (low : Int) (high : Int) : (entry 0 (((buildDs impl_in_sh [.int n_, .int low, .int high]).map Prod.fst).getD [])).map (fun x => (x.1.length, x.2.lent)) = some (3, []) := by kernel_rfl
theorem impl_in_good {α : Type} : ∀ n, GoodFn (α := α) Try.prog 92 (byShape impl_in_sh (impl_in_run n)) := by
  refine fn_good' Try.func92 (c := (Try.f92.body.getD .skip)) (by kernel_rfl) (by kernel_rfl) (by kernel_rfl) impl_in_C impl_in_M eqs impl_in_lps (fun n => tabC_good (fun _ h => absurd h List.not_mem_nil)) eqs_ok impl_in_Lt ?_ ?_ impl_in_sh impl_in_run ?_
  · exact (fun _ h => absurd h List.not_mem_nil)
  · exact (fun _ h => absurd h List.not_mem_nil)
  · intro n p κ r ds hd hr
    have hr0 := hr
    unfold impl_in_run impl_in_runG at hr
    split at hr
    · rw [← ds_of hd]
      exact ⟨en_of (impl_in_en _ _ _) ⟨rfl, rfl⟩, (impl_in_ev n _ _ _ κ).trans hr0⟩
    · cases hr

/-! loop.example/g01297/impl.isCoord -/
def impl_isCoord_sh : List SkD := [.int .i64]
def impl_isCoord_runG {α : Type} (F : Nat → Int → (Bool → Option α) → Option α) (n : Nat) (p : List P1) (κ : Res → Option α) : Option α := match p with
  | [.int n_] => F n n_ (fun v1 => κ ⟨[.bool v1], []⟩)
  | _ => none
def impl_isCoord_run {α : Type} (n : Nat) (p : List P1) (κ : Res → Option α) : Option α := impl_isCoord_runG impl_isCoord n p κ
def impl_isCoord_CG {α : Type} (F0 : Nat → Int → Int → Int → (Bool → Option α) → Option α) (n : Nat) : FuncId → List D → (Res → Option α) → Option α := tabC [(92, (byShape impl_in_sh (impl_in_runG F0 n)))]
def impl_isCoord_C {α : Type} (n : Nat) : FuncId → List D → (Res → Option α) → Option α := impl_isCoord_CG impl_in n
def impl_isCoord_M : FuncId → List Nat := tabM []
def impl_isCoord_lpsG {α : Type}  : List (LoopT α) := []
def impl_isCoord_lps {α : Type} : List (LoopT α) := impl_isCoord_lpsG
def impl_isCoord_XG {α : Type} (F0 : Nat → Int → Int → Int → (Bool → Option α) → Option α)  (n : Nat) : Ctx α := ⟨impl_isCoord_CG F0 n, impl_isCoord_M, eqs, lpOf (impl_isCoord_lpsG) n⟩
def impl_isCoord_X {α : Type} (n : Nat) : Ctx α := impl_isCoord_XG impl_in n
def impl_isCoord_Lt (np : Nat) (lent : List (Bool × Nat × Blk)) : Prop := np = 1 ∧ lent = []
def impl_isCoord_body {α : Type} (F0 : Nat → Int → Int → Int → (Bool → Option α) → Option α)  (k : Nat) (n_ : Int) (r0 : Bool → Option α) : Option α :=
  F0 k n_ (-1000000) 1000000 fun v =>
  r0 v
theorem impl_isCoord_gen {α : Type} (F0 : Nat → Int → Int → Int → (Bool → Option α) → Option α)  (n : Nat) (n_ : Int) (κ : Res → Option α) : evFn Try.prog (impl_isCoord_XG F0 n) Try.f88 (((buildDs impl_isCoord_sh [.int n_]).map Prod.fst).getD []) κ = impl_isCoord_body F0 n n_ (fun v1 => κ ⟨[.bool v1], []⟩) := by kernel_rfl
theorem impl_isCoord_ev {α : Type} (n : Nat) (n_ : Int) (κ : Res → Option α) : evFn Try.prog (impl_isCoord_X n) Try.f88 (((buildDs impl_isCoord_sh [.int n_]).map Prod.fst).getD []) κ = impl_isCoord_run n [.int n_] κ := (impl_isCoord_gen impl_in n n_ κ).trans (by kernel_rfl)
theorem impl_isCoord_en (n_ : Int) : (entry 0 (((buildDs impl_isCoord_sh [.int n_]).map Prod.fst).getD [])).map (fun x => (x.1.length, x.2.lent)) = some (1, []) := by kernel_rfl
theorem impl_isCoord_good {α : Type} : ∀ n, GoodFn (α := α) Try.prog 88 (byShape impl_isCoord_sh (impl_isCoord_run n)) := by
  refine fn_good' Try.func88 (c := (Try.f88.body.getD .skip)) (by kernel_rfl) (by kernel_rfl) (by kernel_rfl) impl_isCoord_C impl_isCoord_M eqs impl_isCoord_lps (fun n => tabC_good (List.forall_mem_cons.2 ⟨(impl_in_good n), (fun _ h => absurd h List.not_mem_nil)⟩)) eqs_ok impl_isCoord_Lt ?_ ?_ impl_isCoord_sh impl_isCoord_run ?_
  · exact (fun _ h => absurd h List.not_mem_nil)
  · exact (fun _ h => absurd h List.not_mem_nil)
  · intro n p κ r ds hd hr
    have hr0 := hr
    unfold impl_isCoord_run impl_isCoord_runG at hr
    split at hr
    · rw [← ds_of hd]
      exact ⟨en_of (impl_isCoord_en _) ⟨rfl, rfl⟩, (impl_isCoord_ev n _ κ).trans hr0⟩
    · cases hr

/-! loop.example/g01297/impl.IsPoint -/
def impl_IsPoint_sh : List SkD := [.agg [.int .i64, .int .i64]]
def impl_IsPoint_runG {α : Type} (F : Nat → Int → Int → (Bool → Option α) → Option α) (n : Nat) (p : List P1) (κ : Res → Option α) : Option α := match p with
  | [.int a, .int a1] => F n a a1 (fun v1 => κ ⟨[.bool v1], []⟩)
  | _ => none
def impl_IsPoint_run {α : Type} (n : Nat) (p : List P1) (κ : Res → Option α) : Option α := impl_IsPoint_runG impl_IsPoint n p κ
def impl_IsPoint_CG {α : Type} (F0 : Nat → Int → (Bool → Option α) → Option α) (n : Nat) : FuncId → List D → (Res → Option α) → Option α := tabC [(88, (byShape impl_isCoord_sh (impl_isCoord_runG F0 n)))]
def impl_IsPoint_C {α : Type} (n : Nat) : FuncId → List D → (Res → Option α) → Option α := impl_IsPoint_CG impl_isCoord n
def impl_IsPoint_M : FuncId → List Nat := tabM []
def impl_IsPoint_lpsG {α : Type}  : List (LoopT α) := []
def impl_IsPoint_lps {α : Type} : List (LoopT α) := impl_IsPoint_lpsG
def impl_IsPoint_XG {α : Type} (F0 : Nat → Int → (Bool → Option α) → Option α)  (n : Nat) : Ctx α := ⟨impl_IsPoint_CG F0 n, impl_IsPoint_M, eqs, lpOf (impl_IsPoint_lpsG) n⟩
def impl_IsPoint_X {α : Type} (n : Nat) : Ctx α := impl_IsPoint_XG impl_isCoord n
def impl_IsPoint_Lt (np : Nat) (lent : List (Bool × Nat × Blk)) : Prop := np = 1 ∧ lent = []
def impl_IsPoint_body {α : Type} (F0 : Nat → Int → (Bool → Option α) → Option α)  (k : Nat) (a : Int) (a1 : Int) (r0 : Bool → Option α) : Option α :=
  F0 k a fun v =>
  bif v then
    F0 k a1 fun v1 =>
    r0 v1
  else
    r0 false
theorem impl_IsPoint_gen {α : Type} (F0 : Nat → Int → (Bool → Option α) → Option α)  (n : Nat) (a : Int) (a1 : Int) (κ : Res → Option α) : evFn Try.prog (impl_IsPoint_XG F0 n) Try.f105 (((buildDs impl_IsPoint_sh [.int a, .int a1]).map Prod.fst).getD []) κ = impl_IsPoint_body F0 n a a1 (fun v1 => κ ⟨[.bool v1], []⟩) := by kernel_rfl
theorem impl_IsPoint_ev {α : Type} (n : Nat) (a : Int) (a1 : Int) (κ : Res → Option α) : evFn Try.prog (impl_IsPoint_X n) Try.f105 (((buildDs impl_IsPoint_sh [.int a, .int a1]).map Prod.fst).getD []) κ = impl_IsPoint_run n [.int a, .int a1] κ := (impl_IsPoint_gen impl_isCoord n a a1 κ).trans (by kernel_rfl)
theorem impl_IsPoint_en (a : Int) (a1 : Int) : (entry 0 (((buildDs impl_IsPoint_sh [.int a, .int a1]).map Prod.fst).getD [])).map (fun x => (x.1.length, x.2.lent)) = some (1, []) := by kernel_rfl
theorem impl_IsPoint_good {α : Type} : ∀ n, GoodFn (α := α) Try.prog 105 (byShape impl_IsPoint_sh (impl_IsPoint_run n)) := by
  refine fn_good' Try.func105 (c := (Try.f105.body.getD .skip)) (by kernel_rfl) (by kernel_rfl) (by kernel_rfl) impl_IsPoint_C impl_IsPoint_M eqs impl_IsPoint_lps (fun n => tabC_good (List.forall_mem_cons.2 ⟨(impl_isCoord_good n), (fun _ h => absurd h List.not_mem_nil)⟩)) eqs_ok impl_IsPoint_Lt ?_ ?_ impl_IsPoint_sh impl_IsPoint_run ?_
  · exact (fun _ h => absurd h List.not_mem_nil)
  · exact (fun _ h => absurd h List.not_mem_nil)
  · intro n p κ r ds hd hr
    have hr0 := hr
    unfold impl_IsPoint_run impl_IsPoint_runG at hr
    split at hr
    · rw [← ds_of hd]
      exact ⟨en_of (impl_IsPoint_en _ _) ⟨rfl, rfl⟩, (impl_IsPoint_ev n _ _ κ).trans hr0⟩
    · cases hr

/-! loop.example/g01297/impl.points$1 -/
def impl_points_1_sh : List SkD := [.agg [.int .i64, .int .i64]]
def impl_points_1_runG {α : Type} (F : Nat → Int → Int → (Bool → Option α) → Option α) (n : Nat) (p : List P1) (κ : Res → Option α) : Option α := match p with
  | [.int a, .int a1] => F n a a1 (fun v1 => κ ⟨[.bool v1], []⟩)
  | _ => none
def impl_points_1_run {α : Type} (n : Nat) (p : List P1) (κ : Res → Option α) : Option α := impl_points_1_runG impl_points_1 n p κ
def impl_points_1_CG {α : Type} (F0 : Nat → Int → Int → (Bool → Option α) → Option α) (n : Nat) : FuncId → List D → (Res → Option α) → Option α := tabC [(105, (byShape impl_IsPoint_sh (impl_IsPoint_runG F0 n)))]
def impl_points_1_C {α : Type} (n : Nat) : FuncId → List D → (Res → Option α) → Option α := impl_points_1_CG impl_IsPoint n
def impl_points_1_M : FuncId → List Nat := tabM []
def impl_points_1_lpsG {α : Type}  : List (LoopT α) := []
def impl_points_1_lps {α : Type} : List (LoopT α) := impl_points_1_lpsG
def impl_points_1_XG {α : Type} (F0 : Nat → Int → Int → (Bool → Option α) → Option α)  (n : Nat) : Ctx α := ⟨impl_points_1_CG F0 n, impl_points_1_M, eqs, lpOf (impl_points_1_lpsG) n⟩
def impl_points_1_X {α : Type} (n : Nat) : Ctx α := impl_points_1_XG impl_IsPoint n
def impl_points_1_Lt (np : Nat) (lent : List (Bool × Nat × Blk)) : Prop := np = 1 ∧ lent = []
def impl_points_1_body {α : Type} (F0 : Nat → Int → Int → (Bool → Option α) → Option α)  (k : Nat) (a : Int) (a1 : Int) (r0 : Bool → Option α) : Option α :=
  F0 k a a1 fun v =>
  r0 (!v)
theorem impl_points_1_gen {α : Type} (F0 : Nat → Int → Int → (Bool → Option α) → Option α)  (n : Nat) (a : Int) (a1 : Int) (κ : Res → Option α) : evFn Try.prog (impl_points_1_XG F0 n) Try.f104 (((buildDs impl_points_1_sh [.int a, .int a1]).map Prod.fst).getD []) κ = impl_points_1_body F0 n a a1 (fun v1 => κ ⟨[.bool v1], []⟩) := by kernel_rfl
theorem impl_points_1_ev {α : Type} (n : Nat) (a : Int) (a1 : Int) (κ : Res → Option α) : evFn Try.prog (impl_points_1_X n) Try.f104 (((buildDs impl_points_1_sh [.int a, .int a1]).map Prod.fst).getD []) κ = impl_points_1_run n [.int a, .int a1] κ := (impl_points_1_gen impl_IsPoint n a a1 κ).trans (by kernel_rfl)
theorem impl_points_1_en (a : Int) (a1 : Int) : (entry 0 (((buildDs impl_points_1_sh [.int a, .int a1]).map Prod.fst).getD [])).map (fun x => (x.1.length, x.2.lent)) = some (1, []) := by kernel_rfl
theorem impl_points_1_good {α : Type} : ∀ n, GoodFn (α := α) Try.prog 104 (byShape impl_points_1_sh (impl_points_1_run n)) := by
  refine fn_good' Try.func104 (c := (Try.f104.body.getD .skip)) (by kernel_rfl) (by kernel_rfl) (by kernel_rfl) impl_points_1_C impl_points_1_M eqs impl_points_1_lps (fun n => tabC_good (List.forall_mem_cons.2 ⟨(impl_IsPoint_good n), (fun _ h => absurd h List.not_mem_nil)⟩)) eqs_ok impl_points_1_Lt ?_ ?_ impl_points_1_sh impl_points_1_run ?_
  · exact (fun _ h => absurd h List.not_mem_nil)
  · exact (fun _ h => absurd h List.not_mem_nil)
  · intro n p κ r ds hd hr
    have hr0 := hr
    unfold impl_points_1_run impl_points_1_runG at hr
    split at hr
    · rw [← ds_of hd]
      exact ⟨en_of (impl_points_1_en _ _) ⟨rfl, rfl⟩, (impl_points_1_ev n _ _ κ).trans hr0⟩
    · cases hr

/-! slices.IndexFunc[[]loop.example/g01297/impl.Point,loop.example/g01297/impl.Point] -/
def slices_IndexFunc_impl_Point_impl_Point_1F_impl_points_1_sh : List SkD := [.sl 31 .pt, .fn 104 []]
def slices_IndexFunc_impl_Point_impl_Point_1F_impl_points_1_runG {α : Type} (F : Nat → (List (Int × Int)) → (Int → Option α) → Option α) (n : Nat) (p : List P1) (κ : Res → Option α) : Option α := match p with
  | [.rows .pt s] => F n s (fun v1 => κ ⟨[.int .i64 v1], []⟩)
  | _ => none
def slices_IndexFunc_impl_Point_impl_Point_1F_impl_points_1_run {α : Type} (n : Nat) (p : List P1) (κ : Res → Option α) : Option α := slices_IndexFunc_impl_Point_impl_Point_1F_impl_points_1_runG slices_IndexFunc_impl_Point_impl_Point_1F_impl_points_1 n p κ
def slices_IndexFunc_impl_Point_impl_Point_1F_impl_points_1_CG {α : Type} (F0 : Nat → Int → Int → (Bool → Option α) → Option α) (n : Nat) : FuncId → List D → (Res → Option α) → Option α := tabC [(104, (byShape impl_points_1_sh (impl_points_1_runG F0 n)))]
def slices_IndexFunc_impl_Point_impl_Point_1F_impl_points_1_C {α : Type} (n : Nat) : FuncId → List D → (Res → Option α) → Option α := slices_IndexFunc_impl_Point_impl_Point_1F_impl_points_1_CG impl_points_1 n
def slices_IndexFunc_impl_Point_impl_Point_1F_impl_points_1_M : FuncId → List Nat := tabM []
def slices_IndexFunc_impl_Point_impl_Point_1F_impl_points_1_t2 : Tpl := ⟨[.sl 0, .fn 104 [], .any, .any, .any, .any, .any, .int .i64, .int .i64, .any, .any, .any, .any, .any, .any, .any, .any, .any, .any], [(0, .rows 0 31 .pt)], []⟩
def slices_IndexFunc_impl_Point_impl_Point_1F_impl_points_1_uG2 {α : Type} (G : Nat → Int → Int → (List (Int × Int)) → (Int → Int → (List (Int × Int)) → Option α) → (Int → Option α) → Option α) (n : Nat) (p : List P1) (brk : Nat → List P1 → Option α) (ret : Res → Option α) : Option α := match p with
  | [.int x, .int x1, .rows .pt s1] => G n x x1 s1 (fun x x1 s1 => brk 0 [.int x, .int x1, .rows .pt s1]) (fun v1 => ret ⟨[.int .i64 v1], []⟩)
  | _ => none
def slices_IndexFunc_impl_Point_impl_Point_1F_impl_points_1_u2 {α : Type} (n : Nat) (p : List P1) (brk : Nat → List P1 → Option α) (ret : Res → Option α) : Option α := slices_IndexFunc_impl_Point_impl_Point_1F_impl_points_1_uG2 slices_IndexFunc_impl_Point_impl_Point_1F_impl_points_1_l2 n p brk ret
def slices_IndexFunc_impl_Point_impl_Point_1F_impl_points_1_lpsG {α : Type} (G2 : Nat → Int → Int → (List (Int × Int)) → (Int → Int → (List (Int × Int)) → Option α) → (Int → Option α) → Option α) : List (LoopT α) := [⟨2, slices_IndexFunc_impl_Point_impl_Point_1F_impl_points_1_t2, slices_IndexFunc_impl_Point_impl_Point_1F_impl_points_1_uG2 G2⟩]
def slices_IndexFunc_impl_Point_impl_Point_1F_impl_points_1_lps {α : Type} : List (LoopT α) := slices_IndexFunc_impl_Point_impl_Point_1F_impl_points_1_lpsG slices_IndexFunc_impl_Point_impl_Point_1F_impl_points_1_l2
def slices_IndexFunc_impl_Point_impl_Point_1F_impl_points_1_XG {α : Type} (F0 : Nat → Int → Int → (Bool → Option α) → Option α) (G2 : Nat → Int → Int → (List (Int × Int)) → (Int → Int → (List (Int × Int)) → Option α) → (Int → Option α) → Option α) (n : Nat) : Ctx α := ⟨slices_IndexFunc_impl_Point_impl_Point_1F_impl_points_1_CG F0 n, slices_IndexFunc_impl_Point_impl_Point_1F_impl_points_1_M, eqs, lpOf (slices_IndexFunc_impl_Point_impl_Point_1F_impl_points_1_lpsG G2) n⟩
def slices_IndexFunc_impl_Point_impl_Point_1F_impl_points_1_X {α : Type} (n : Nat) : Ctx α := slices_IndexFunc_impl_Point_impl_Point_1F_impl_points_1_XG impl_points_1 slices_IndexFunc_impl_Point_impl_Point_1F_impl_points_1_l2 n
def slices_IndexFunc_impl_Point_impl_Point_1F_impl_points_1_Lt (np : Nat) (lent : List (Bool × Nat × Blk)) : Prop := np = 2 ∧ lent = []
def slices_IndexFunc_impl_Point_impl_Point_1F_impl_points_1_lb2 {α : Type} (F0 : Nat → Int → Int → (Bool → Option α) → Option α) (G2 : Nat → Int → Int → (List (Int × Int)) → (Int → Int → (List (Int × Int)) → Option α) → (Int → Option α) → Option α) (k : Nat) (x : Int) (x1 : Int) (s1 : List (Int × Int)) (b0 : Int → Int → (List (Int × Int)) → Option α) (r0 : Int → Option α) : Option α :=
  bif decide (x1 < x) then
    bif (decide (0 ≤ x1) && decide (x1 < (((List.length s1) : Nat) : Int))) then
      (s1[x1.toNat]?).bind fun e_ =>
      F0 k e_.1 e_.2 fun v =>
      bif v then
        r0 x1
      else
        G2 k x (w64 (x1 + 1)) s1 b0 r0
    else
      none
  else
    b0 x x1 s1
theorem slices_IndexFunc_impl_Point_impl_Point_1F_impl_points_1_l2_gen {α : Type} (F0 : Nat → Int → Int → (Bool → Option α) → Option α) (G2 : Nat → Int → Int → (List (Int × Int)) → (Int → Int → (List (Int × Int)) → Option α) → (Int → Option α) → Option α) (n : Nat) (x : Int) (x1 : Int) (s1 : List (Int × Int)) (brk : Nat → List P1 → Option α) (ret : Res → Option α) : ev ((slices_IndexFunc_impl_Point_impl_Point_1F_impl_points_1_XG F0 G2 n).env Try.prog Try.f120 2 []) (findLoop (loopsIn (Try.f120.body.getD .skip)) 2) ((slices_IndexFunc_impl_Point_impl_Point_1F_impl_points_1_t2.build [.int x, .int x1, .rows .pt s1]).getD ⟨[], []⟩) (roundK (2 * 64) slices_IndexFunc_impl_Point_impl_Point_1F_impl_points_1_t2 (fun q => slices_IndexFunc_impl_Point_impl_Point_1F_impl_points_1_uG2 G2 n q brk ret) brk ret) = slices_IndexFunc_impl_Point_impl_Point_1F_impl_points_1_lb2 F0 G2 n x x1 s1 (fun x x1 s1 => brk 0 [.int x, .int x1, .rows .pt s1]) (fun v1 => ret ⟨[.int .i64 v1], []⟩) := by kernel_rfl
theorem slices_IndexFunc_impl_Point_impl_Point_1F_impl_points_1_l2_ev {α : Type} (n : Nat) (x : Int) (x1 : Int) (s1 : List (Int × Int)) (brk : Nat → List P1 → Option α) (ret : Res → Option α) : ev ((slices_IndexFunc_impl_Point_impl_Point_1F_impl_points_1_X n).env Try.prog Try.f120 2 []) (findLoop (loopsIn (Try.f120.body.getD .skip)) 2) ((slices_IndexFunc_impl_Point_impl_Point_1F_impl_points_1_t2.build [.int x, .int x1, .rows .pt s1]).getD ⟨[], []⟩) (roundK (2 * 64) slices_IndexFunc_impl_Point_impl_Point_1F_impl_points_1_t2 (fun q => slices_IndexFunc_impl_Point_impl_Point_1F_impl_points_1_u2 n q brk ret) brk ret) = slices_IndexFunc_impl_Point_impl_Point_1F_impl_points_1_u2 (n + 1) [.int x, .int x1, .rows .pt s1] brk ret := (slices_IndexFunc_impl_Point_impl_Point_1F_impl_points_1_l2_gen impl_points_1 slices_IndexFunc_impl_Point_impl_Point_1F_impl_points_1_l2 n x x1 s1 brk ret).trans (by kernel_rfl)
def slices_IndexFunc_impl_Point_impl_Point_1F_impl_points_1_body {α : Type} (F0 : Nat → Int → Int → (Bool → Option α) → Option α) (G2 : Nat → Int → Int → (List (Int × Int)) → (Int → Int → (List (Int × Int)) → Option α) → (Int → Option α) → Option α) (k : Nat) (s : List (Int × Int)) (r0 : Int → Option α) : Option α :=
  G2 k (((List.length s) : Nat) : Int) 0 s
    (fun x2 x3 s2 =>
      r0 (-1))
    r0
theorem slices_IndexFunc_impl_Point_impl_Point_1F_impl_points_1_gen {α : Type} (F0 : Nat → Int → Int → (Bool → Option α) → Option α) (G2 : Nat → Int → Int → (List (Int × Int)) → (Int → Int → (List (Int × Int)) → Option α) → (Int → Option α) → Option α) (n : Nat) (s : List (Int × Int)) (κ : Res → Option α) : evFn Try.prog (slices_IndexFunc_impl_Point_impl_Point_1F_impl_points_1_XG F0 G2 n) Try.f120 (((buildDs slices_IndexFunc_impl_Point_impl_Point_1F_impl_points_1_sh [.rows .pt s]).map Prod.fst).getD []) κ = slices_IndexFunc_impl_Point_impl_Point_1F_impl_points_1_body F0 G2 n s (fun v1 => κ ⟨[.int .i64 v1], []⟩) := by kernel_rfl
theorem slices_IndexFunc_impl_Point_impl_Point_1F_impl_points_1_ev {α : Type} (n : Nat) (s : List (Int × Int)) (κ : Res → Option α) : evFn Try.prog (slices_IndexFunc_impl_Point_impl_Point_1F_impl_points_1_X n) Try.f120 (((buildDs slices_IndexFunc_impl_Point_impl_Point_1F_impl_points_1_sh [.rows .pt s]).map Prod.fst).getD []) κ = slices_IndexFunc_impl_Point_impl_Point_1F_impl_points_1_run n [.rows .pt s] κ := (slices_IndexFunc_impl_Point_impl_Point_1F_impl_points_1_gen impl_points_1 slices_IndexFunc_impl_Point_impl_Point_1F_impl_points_1_l2 n s κ).trans (by kernel_rfl)
theorem slices_IndexFunc_impl_Point_impl_Point_1F_impl_points_1_en (s : List (Int × Int)) : (entry 0 (((buildDs slices_IndexFunc_impl_Point_impl_Point_1F_impl_points_1_sh [.rows .pt s]).map Prod.fst).getD [])).map (fun x => (x.1.length, x.2.lent)) = some (2, []) := by kernel_rfl
theorem slices_IndexFunc_impl_Point_impl_Point_1F_impl_points_1_good {α : Type} : ∀ n, GoodFn (α := α) Try.prog 120 (byShape slices_IndexFunc_impl_Point_impl_Point_1F_impl_points_1_sh (slices_IndexFunc_impl_Point_impl_Point_1F_impl_points_1_run n)) := by
  refine fn_good' Try.func120 (c := (Try.f120.body.getD .skip)) (by kernel_rfl) (by kernel_rfl) (by kernel_rfl) slices_IndexFunc_impl_Point_impl_Point_1F_impl_points_1_C slices_IndexFunc_impl_Point_impl_Point_1F_impl_points_1_M eqs slices_IndexFunc_impl_Point_impl_Point_1F_impl_points_1_lps (fun n => tabC_good (List.forall_mem_cons.2 ⟨(impl_points_1_good n), (fun _ h => absurd h List.not_mem_nil)⟩)) eqs_ok slices_IndexFunc_impl_Point_impl_Point_1F_impl_points_1_Lt ?_ ?_ slices_IndexFunc_impl_Point_impl_Point_1F_impl_points_1_sh slices_IndexFunc_impl_Point_impl_Point_1F_impl_points_1_run ?_
  · refine List.forall_mem_cons.2 ⟨?_, (fun _ h => absurd h List.not_mem_nil)⟩
    · intro p brk ret; show slices_IndexFunc_impl_Point_impl_Point_1F_impl_points_1_u2 0 p brk ret = none; unfold slices_IndexFunc_impl_Point_impl_Point_1F_impl_points_1_u2 slices_IndexFunc_impl_Point_impl_Point_1F_impl_points_1_uG2; split <;> rfl
  · refine List.forall_mem_cons.2 ⟨?_, (fun _ h => absurd h List.not_mem_nil)⟩
    · intro np lent hL n p brk ret st r hb hr
      obtain ⟨rfl, rfl⟩ := hL
      rw [← tpl_of hb]
      change slices_IndexFunc_impl_Point_impl_Point_1F_impl_points_1_u2 (n + 1) p brk ret = some r at hr
      have hr0 := hr
      unfold slices_IndexFunc_impl_Point_impl_Point_1F_impl_points_1_u2 slices_IndexFunc_impl_Point_impl_Point_1F_impl_points_1_uG2 at hr
      split at hr
      · exact (slices_IndexFunc_impl_Point_impl_Point_1F_impl_points_1_l2_ev n _ _ _ brk ret).trans hr0
      · cases hr
  · intro n p κ r ds hd hr
    have hr0 := hr
    unfold slices_IndexFunc_impl_Point_impl_Point_1F_impl_points_1_run slices_IndexFunc_impl_Point_impl_Point_1F_impl_points_1_runG at hr
    split at hr
    · rw [← ds_of hd]
      exact ⟨en_of (slices_IndexFunc_impl_Point_impl_Point_1F_impl_points_1_en _) ⟨rfl, rfl⟩, (slices_IndexFunc_impl_Point_impl_Point_1F_impl_points_1_ev n _ κ).trans hr0⟩
    · cases hr

/-! slices.ContainsFunc[[]loop.example/g01297/impl.Point,loop.example/g01297/impl.Point] -/
def slices_ContainsFunc_impl_Point_impl_Point_1F_impl_points_1_sh : List SkD := [.sl 31 .pt, .fn 104 []]
def slices_ContainsFunc_impl_Point_impl_Point_1F_impl_points_1_runG {α : Type} (F : Nat → (List (Int × Int)) → (Bool → Option α) → Option α) (n : Nat) (p : List P1) (κ : Res → Option α) : Option α := match p with
  | [.rows .pt s] => F n s (fun v1 => κ ⟨[.bool v1], []⟩)
  | _ => none
def slices_ContainsFunc_impl_Point_impl_Point_1F_impl_points_1_run {α : Type} (n : Nat) (p : List P1) (κ : Res → Option α) : Option α := slices_ContainsFunc_impl_Point_impl_Point_1F_impl_points_1_runG slices_ContainsFunc_impl_Point_impl_Point_1F_impl_points_1 n p κ
def slices_ContainsFunc_impl_Point_impl_Point_1F_impl_points_1_CG {α : Type} (F0 : Nat → (List (Int × Int)) → (Int → Option α) → Option α) (n : Nat) : FuncId → List D → (Res → Option α) → Option α := tabC [(120, (byShape slices_IndexFunc_impl_Point_impl_Point_1F_impl_points_1_sh (slices_IndexFunc_impl_Point_impl_Point_1F_impl_points_1_runG F0 n)))]
def slices_ContainsFunc_impl_Point_impl_Point_1F_impl_points_1_C {α : Type} (n : Nat) : FuncId → List D → (Res → Option α) → Option α := slices_ContainsFunc_impl_Point_impl_Point_1F_impl_points_1_CG slices_IndexFunc_impl_Point_impl_Point_1F_impl_points_1 n
def slices_ContainsFunc_impl_Point_impl_Point_1F_impl_points_1_M : FuncId → List Nat := tabM []
def slices_ContainsFunc_impl_Point_impl_Point_1F_impl_points_1_lpsG {α : Type}  : List (LoopT α) := []
def slices_ContainsFunc_impl_Point_impl_Point_1F_impl_points_1_lps {α : Type} : List (LoopT α) := slices_ContainsFunc_impl_Point_impl_Point_1F_impl_points_1_lpsG
def slices_ContainsFunc_impl_Point_impl_Point_1F_impl_points_1_XG {α : Type} (F0 : Nat → (List (Int × Int)) → (Int → Option α) → Option α)  (n : Nat) : Ctx α := ⟨slices_ContainsFunc_impl_Point_impl_Point_1F_impl_points_1_CG F0 n, slices_ContainsFunc_impl_Point_impl_Point_1F_impl_points_1_M, eqs, lpOf (slices_ContainsFunc_impl_Point_impl_Point_1F_impl_points_1_lpsG) n⟩
def slices_ContainsFunc_impl_Point_impl_Point_1F_impl_points_1_X {α : Type} (n : Nat) : Ctx α := slices_ContainsFunc_impl_Point_impl_Point_1F_impl_points_1_XG slices_IndexFunc_impl_Point_impl_Point_1F_impl_points_1 n
def slices_ContainsFunc_impl_Point_impl_Point_1F_impl_points_1_Lt (np : Nat) (lent : List (Bool × Nat × Blk)) : Prop := np = 2 ∧ lent = []
def slices_ContainsFunc_impl_Point_impl_Point_1F_impl_points_1_body {α : Type} (F0 : Nat → (List (Int × Int)) → (Int → Option α) → Option α)  (k : Nat) (s : List (Int × Int)) (r0 : Bool → Option α) : Option α :=
  F0 k s fun v =>
  r0 (decide (0 ≤ v))
theorem slices_ContainsFunc_impl_Point_impl_Point_1F_impl_points_1_gen {α : Type} (F0 : Nat → (List (Int × Int)) → (Int → Option α) → Option α)  (n : Nat) (s : List (Int × Int)) (κ : Res → Option α) : evFn Try.prog (slices_ContainsFunc_impl_Point_impl_Point_1F_impl_points_1_XG F0 n) Try.f103 (((buildDs slices_ContainsFunc_impl_Point_impl_Point_1F_impl_points_1_sh [.rows .pt s]).map Prod.fst).getD []) κ = slices_ContainsFunc_impl_Point_impl_Point_1F_impl_points_1_body F0 n s (fun v1 => κ ⟨[.bool v1], []⟩) := by kernel_rfl
theorem slices_ContainsFunc_impl_Point_impl_Point_1F_impl_points_1_ev {α : Type} (n : Nat) (s : List (Int × Int)) (κ : Res → Option α) : evFn Try.prog (slices_ContainsFunc_impl_Point_impl_Point_1F_impl_points_1_X n) Try.f103 (((buildDs slices_ContainsFunc_impl_Point_impl_Point_1F_impl_points_1_sh [.rows .pt s]).map Prod.fst).getD []) κ = slices_ContainsFunc_impl_Point_impl_Point_1F_impl_points_1_run n [.rows .pt s] κ := (slices_ContainsFunc_impl_Point_impl_Point_1F_impl_points_1_gen slices_IndexFunc_impl_Point_impl_Point_1F_impl_points_1 n s κ).trans (by kernel_rfl)
theorem slices_ContainsFunc_impl_Point_impl_Point_1F_impl_points_1_en (s : List (Int × Int)) : (entry 0 (((buildDs slices_ContainsFunc_impl_Point_impl_Point_1F_impl_points_1_sh [.rows .pt s]).map Prod.fst).getD [])).map (fun x => (x.1.length, x.2.lent)) = some (2, []) := by kernel_rfl
theorem slices_ContainsFunc_impl_Point_impl_Point_1F_impl_points_1_good {α : Type} : ∀ n, GoodFn (α := α) Try.prog 103 (byShape slices_ContainsFunc_impl_Point_impl_Point_1F_impl_points_1_sh (slices_ContainsFunc_impl_Point_impl_Point_1F_impl_points_1_run n)) := by
  refine fn_good' Try.func103 (c := (Try.f103.body.getD .skip)) (by kernel_rfl) (by kernel_rfl) (by kernel_rfl) slices_ContainsFunc_impl_Point_impl_Point_1F_impl_points_1_C slices_ContainsFunc_impl_Point_impl_Point_1F_impl_points_1_M eqs slices_ContainsFunc_impl_Point_impl_Point_1F_impl_points_1_lps (fun n => tabC_good (List.forall_mem_cons.2 ⟨(slices_IndexFunc_impl_Point_impl_Point_1F_impl_points_1_good n), (fun _ h => absurd h List.not_mem_nil)⟩)) eqs_ok slices_ContainsFunc_impl_Point_impl_Point_1F_impl_points_1_Lt ?_ ?_ slices_ContainsFunc_impl_Point_impl_Point_1F_impl_points_1_sh slices_ContainsFunc_impl_Point_impl_Point_1F_impl_points_1_run ?_
  · exact (fun _ h => absurd h List.not_mem_nil)
  · exact (fun _ h => absurd h List.not_mem_nil)
  · intro n p κ r ds hd hr
    have hr0 := hr
    unfold slices_ContainsFunc_impl_Point_impl_Point_1F_impl_points_1_run slices_ContainsFunc_impl_Point_impl_Point_1F_impl_points_1_runG at hr
    split at hr
    · rw [← ds_of hd]
      exact ⟨en_of (slices_ContainsFunc_impl_Point_impl_Point_1F_impl_points_1_en _) ⟨rfl, rfl⟩, (slices_ContainsFunc_impl_Point_impl_Point_1F_impl_points_1_ev n _ κ).trans hr0⟩
    · cases hr

/-! loop.example/g01297/impl.points -/
def impl_points_sh : List SkD := [.sl 31 .pt]
def impl_points_runG {α : Type} (F : Nat → (List (Int × Int)) → (Bool → Option α) → Option α) (n : Nat) (p : List P1) (κ : Res → Option α) : Option α := match p with
  | [.rows .pt list] => F n list (fun v1 => κ ⟨[.bool v1], []⟩)
  | _ => none
def impl_points_run {α : Type} (n : Nat) (p : List P1) (κ : Res → Option α) : Option α := impl_points_runG impl_points n p κ
def impl_points_CG {α : Type} (F0 : Nat → (List (Int × Int)) → (Bool → Option α) → Option α) (n : Nat) : FuncId → List D → (Res → Option α) → Option α := tabC [(103, (byShape slices_ContainsFunc_impl_Point_impl_Point_1F_impl_points_1_sh (slices_ContainsFunc_impl_Point_impl_Point_1F_impl_points_1_runG F0 n)))]
def impl_points_C {α : Type} (n : Nat) : FuncId → List D → (Res → Option α) → Option α := impl_points_CG slices_ContainsFunc_impl_Point_impl_Point_1F_impl_points_1 n
def impl_points_M : FuncId → List Nat := tabM []
def impl_points_lpsG {α : Type}  : List (LoopT α) := []
def impl_points_lps {α : Type} : List (LoopT α) := impl_points_lpsG
def impl_points_XG {α : Type} (F0 : Nat → (List (Int × Int)) → (Bool → Option α) → Option α)  (n : Nat) : Ctx α := ⟨impl_points_CG F0 n, impl_points_M, eqs, lpOf (impl_points_lpsG) n⟩
def impl_points_X {α : Type} (n : Nat) : Ctx α := impl_points_XG slices_ContainsFunc_impl_Point_impl_Point_1F_impl_points_1 n
def impl_points_Lt (np : Nat) (lent : List (Bool × Nat × Blk)) : Prop := np = 1 ∧ lent = []
def impl_points_body {α : Type} (F0 : Nat → (List (Int × Int)) → (Bool → Option α) → Option α)  (k : Nat) (list : List (Int × Int)) (r0 : Bool → Option α) : Option α :=
  F0 k list fun v =>
  r0 (!v)
theorem impl_points_gen {α : Type} (F0 : Nat → (List (Int × Int)) → (Bool → Option α) → Option α)  (n : Nat) (list : List (Int × Int)) (κ : Res → Option α) : evFn Try.prog (impl_points_XG F0 n) Try.f68 (((buildDs impl_points_sh [.rows .pt list]).map Prod.fst).getD []) κ = impl_points_body F0 n list (fun v1 => κ ⟨[.bool v1], []⟩) := by kernel_rfl
theorem impl_points_ev {α : Type} (n : Nat) (list : List (Int × Int)) (κ : Res → Option α) : evFn Try.prog (impl_points_X n) Try.f68 (((buildDs impl_points_sh [.rows .pt list]).map Prod.fst).getD []) κ = impl_points_run n [.rows .pt list] κ := (impl_points_gen slices_ContainsFunc_impl_Point_impl_Point_1F_impl_points_1 n list κ).trans (by kernel_rfl)
theorem impl_points_en (list : List (Int × Int)) : (entry 0 (((buildDs impl_points_sh [.rows .pt list]).map Prod.fst).getD [])).map (fun x => (x.1.length, x.2.lent)) = some (1, []) := by kernel_rfl
theorem impl_points_good {α : Type} : ∀ n, GoodFn (α := α) Try.prog 68 (byShape impl_points_sh (impl_points_run n)) := by
  refine fn_good' Try.func68 (c := (Try.f68.body.getD .skip)) (by kernel_rfl) (by kernel_rfl) (by kernel_rfl) impl_points_C impl_points_M eqs impl_points_lps (fun n => tabC_good (List.forall_mem_cons.2 ⟨(slices_ContainsFunc_impl_Point_impl_Point_1F_impl_points_1_good n), (fun _ h => absurd h List.not_mem_nil)⟩)) eqs_ok impl_points_Lt ?_ ?_ impl_points_sh impl_points_run ?_
  · exact (fun _ h => absurd h List.not_mem_nil)
  · exact (fun _ h => absurd h List.not_mem_nil)
  · intro n p κ r ds hd hr
    have hr0 := hr
    unfold impl_points_run impl_points_runG at hr
    split at hr
    · rw [← ds_of hd]
      exact ⟨en_of (impl_points_en _) ⟨rfl, rfl⟩, (impl_points_ev n _ κ).trans hr0⟩
    · cases hr

/-! loop.example/g01297/impl.det -/
def impl_det_sh : List SkD := [.agg [.int .i64, .int .i64], .agg [.int .i64, .int .i64]]
def impl_det_runG {α : Type} (F : Nat → Int → Int → Int → Int → (Int → Option α) → Option α) (n : Nat) (p : List P1) (κ : Res → Option α) : Option α := match p with
  | [.int a, .int a1, .int b_, .int b_1] => F n a a1 b_ b_1 (fun v1 => κ ⟨[.int .i64 v1], []⟩)
  | _ => none
def impl_det_run {α : Type} (n : Nat) (p : List P1) (κ : Res → Option α) : Option α := impl_det_runG impl_det n p κ
def impl_det_CG {α : Type}  (n : Nat) : FuncId → List D → (Res → Option α) → Option α := tabC []
def impl_det_C {α : Type} (n : Nat) : FuncId → List D → (Res → Option α) → Option α := impl_det_CG n
def impl_det_M : FuncId → List Nat := tabM []
def impl_det_lpsG {α : Type}  : List (LoopT α) := []
def impl_det_lps {α : Type} : List (LoopT α) := impl_det_lpsG
def impl_det_XG {α : Type}   (n : Nat) : Ctx α := ⟨impl_det_CG n, impl_det_M, eqs, lpOf (impl_det_lpsG) n⟩
def impl_det_X {α : Type} (n : Nat) : Ctx α := impl_det_XG n
def impl_det_Lt (np : Nat) (lent : List (Bool × Nat × Blk)) : Prop := np = 2 ∧ lent = []
def impl_det_body {α : Type}   (k : Nat) (a : Int) (a1 : Int) (b_ : Int) (b_1 : Int) (r0 : Int → Option α) : Option α :=
  r0 (w64 ((w64 (a * b_1)) - (w64 (a1 * b_))))
theorem impl_det_gen {α : Type}   (n : Nat) (a : Int) (a1 : Int) (b_ : Int) (b_1 : Int) (κ : Res → Option α) : evFn Try.prog (impl_det_XG n) Try.f96 (((buildDs impl_det_sh [.int a, .int a1, .int b_, .int b_1]).map Prod.fst).getD []) κ = impl_det_body n a a1 b_ b_1 (fun v1 => κ ⟨[.int .i64 v1], []⟩) := by kernel_rfl
theorem impl_det_ev {α : Type} (n : Nat) (a : Int) (a1 : Int) (b_ : Int) (b_1 : Int) (κ : Res → Option α) : evFn Try.prog (impl_det_X n) Try.f96 (((buildDs impl_det_sh [.int a, .int a1, .int b_, .int b_1]).map Prod.fst).getD []) κ = impl_det_run n [.int a, .int a1, .int b_, .int b_1] κ := (impl_det_gen n a a1 b_ b_1 κ).trans (by kernel_rfl)
theorem impl_det_en (a : Int) (a1 : Int) (b_ : Int) (b_1 : Int) : (entry 0 (((buildDs impl_det_sh [.int a, .int a1, .int b_, .int b_1]).map Prod.fst).getD [])).map (fun x => (x.1.length, x.2.lent)) = some (2, []) := by kernel_rfl
theorem impl_det_good {α : Type} : ∀ n, GoodFn (α := α) Try.prog 96 (byShape impl_det_sh (impl_det_run n)) := by
  refine fn_good' Try.func96 (c := (Try.f96.body.getD .skip)) (by kernel_rfl) (by kernel_rfl) (by kernel_rfl) impl_det_C impl_det_M eqs impl_det_lps (fun n => tabC_good (fun _ h => absurd h List.not_mem_nil)) eqs_ok impl_det_Lt ?_ ?_ impl_det_sh impl_det_run ?_
  · exact (fun _ h => absurd h List.not_mem_nil)
  · exact (fun _ h => absurd h List.not_mem_nil)
  · intro n p κ r ds hd hr
    have hr0 := hr
    unfold impl_det_run impl_det_runG at hr
    split at hr
    · rw [← ds_of hd]
      exact ⟨en_of (impl_det_en _ _ _ _) ⟨rfl, rfl⟩, (impl_det_ev n _ _ _ _ κ).trans hr0⟩
    · cases hr

/-! loop.example/g01297/impl.pairFault -/
def impl_pairFault_sh : List SkD := [.agg [.int .i64, .int .i64], .agg [.int .i64, .int .i64]]
def impl_pairFault_runG {α : Type} (F : Nat → Int → Int → Int → Int → (Int → Option α) → Option α) (n : Nat) (p : List P1) (κ : Res → Option α) : Option α := match p with
  | [.int a, .int a1, .int b_, .int b_1] => F n a a1 b_ b_1 (fun v1 => κ ⟨[.int .i64 v1], []⟩)
  | _ => none
def impl_pairFault_run {α : Type} (n : Nat) (p : List P1) (κ : Res → Option α) : Option α := impl_pairFault_runG impl_pairFault n p κ
def impl_pairFault_CG {α : Type} (F0 : Nat → (List (Int × Int)) → (Bool → Option α) → Option α) (F1 : Nat → Int → Int → Int → Int → (Int → Option α) → Option α) (n : Nat) : FuncId → List D → (Res → Option α) → Option α := tabC [(68, (byShape impl_points_sh (impl_points_runG F0 n))), (96, (byShape impl_det_sh (impl_det_runG F1 n)))]
def impl_pairFault_C {α : Type} (n : Nat) : FuncId → List D → (Res → Option α) → Option α := impl_pairFault_CG impl_points impl_det n
def impl_pairFault_M : FuncId → List Nat := tabM []
def impl_pairFault_lpsG {α : Type}  : List (LoopT α) := []
def impl_pairFault_lps {α : Type} : List (LoopT α) := impl_pairFault_lpsG
def impl_pairFault_XG {α : Type} (F0 : Nat → (List (Int × Int)) → (Bool → Option α) → Option α) (F1 : Nat → Int → Int → Int → Int → (Int → Option α) → Option α)  (n : Nat) : Ctx α := ⟨impl_pairFault_CG F0 F1 n, impl_pairFault_M, eqs, lpOf (impl_pairFault_lpsG) n⟩
def impl_pairFault_X {α : Type} (n : Nat) : Ctx α := impl_pairFault_XG impl_points impl_det n
def impl_pairFault_Lt (np : Nat) (lent : List (Bool × Nat × Blk)) : Prop := np = 2 ∧ lent = []
def impl_pairFault_body {α : Type} (F0 : Nat → (List (Int × Int)) → (Bool → Option α) → Option α) (F1 : Nat → Int → Int → Int → Int → (Int → Option α) → Option α)  (k : Nat) (a : Int) (a1 : Int) (b_ : Int) (b_1 : Int) (r0 : Int → Option α) : Option α :=
  F0 k [(a, a1), (b_, b_1)] fun v =>
  bif (!v) then
    r0 1
  else
    F1 k a a1 b_ b_1 fun v1 =>
    bif decide (v1 = 0) then
      r0 5
    else
      r0 0
theorem impl_pairFault_gen {α : Type} (F0 : Nat → (List (Int × Int)) → (Bool → Option α) → Option α) (F1 : Nat → Int → Int → Int → Int → (Int → Option α) → Option α)  (n : Nat) (a : Int) (a1 : Int) (b_ : Int) (b_1 : Int) (κ : Res → Option α) : evFn Try.prog (impl_pairFault_XG F0 F1 n) Try.f56 (((buildDs impl_pairFault_sh [.int a, .int a1, .int b_, .int b_1]).map Prod.fst).getD []) κ = impl_pairFault_body F0 F1 n a a1 b_ b_1 (fun v1 => κ ⟨[.int .i64 v1], []⟩) := by kernel_rfl
theorem impl_pairFault_ev {α : Type} (n : Nat) (a : Int) (a1 : Int) (b_ : Int) (b_1 : Int) (κ : Res → Option α) : evFn Try.prog (impl_pairFault_X n) Try.f56 (((buildDs impl_pairFault_sh [.int a, .int a1, .int b_, .int b_1]).map Prod.fst).getD []) κ = impl_pairFault_run n [.int a, .int a1, .int b_, .int b_1] κ := (impl_pairFault_gen impl_points impl_det n a a1 b_ b_1 κ).trans (by kernel_rfl)
theorem impl_pairFault_en (a : Int) (a1 : Int) (b_ : Int) (b_1 : Int) : (entry 0 (((buildDs impl_pairFault_sh [.int a, .int a1, .int b_, .int b_1]).map Prod.fst).getD [])).map (fun x => (x.1.length, x.2.lent)) = some (2, []) := by kernel_rfl
theorem impl_pairFault_good {α : Type} : ∀ n, GoodFn (α := α) Try.prog 56 (byShape impl_pairFault_sh (impl_pairFault_run n)) := by
  refine fn_good' Try.func56 (c := (Try.f56.body.getD .skip)) (by kernel_rfl) (by kernel_rfl) (by kernel_rfl) impl_pairFault_C impl_pairFault_M eqs impl_pairFault_lps (fun n => tabC_good (List.forall_mem_cons.2 ⟨(impl_points_good n), (List.forall_mem_cons.2 ⟨(impl_det_good n), (fun _ h => absurd h List.not_mem_nil)⟩)⟩)) eqs_ok impl_pairFault_Lt ?_ ?_ impl_pairFault_sh impl_pairFault_run ?_
  · exact (fun _ h => absurd h List.not_mem_nil)
  · exact (fun _ h => absurd h List.not_mem_nil)
  · intro n p κ r ds hd hr
    have hr0 := hr
    unfold impl_pairFault_run impl_pairFault_runG at hr
    split at hr
    · rw [← ds_of hd]
      exact ⟨en_of (impl_pairFault_en _ _ _ _) ⟨rfl, rfl⟩, (impl_pairFault_ev n _ _ _ _ κ).trans hr0⟩
    · cases hr

/-! loop.example/g01297/impl.dot -/
def impl_dot_sh : List SkD := [.agg [.int .i64, .int .i64], .agg [.int .i64, .int .i64]]
def impl_dot_runG {α : Type} (F : Nat → Int → Int → Int → Int → (Int → Option α) → Option α) (n : Nat) (p : List P1) (κ : Res → Option α) : Option α := match p with
  | [.int a, .int a1, .int b_, .int b_1] => F n a a1 b_ b_1 (fun v1 => κ ⟨[.int .i64 v1], []⟩)
  | _ => none
def impl_dot_run {α : Type} (n : Nat) (p : List P1) (κ : Res → Option α) : Option α := impl_dot_runG impl_dot n p κ
def impl_dot_CG {α : Type}  (n : Nat) : FuncId → List D → (Res → Option α) → Option α := tabC []
def impl_dot_C {α : Type} (n : Nat) : FuncId → List D → (Res → Option α) → Option α := impl_dot_CG n
def impl_dot_M : FuncId → List Nat := tabM []
def impl_dot_lpsG {α : Type}  : List (LoopT α) := []
def impl_dot_lps {α : Type} : List (LoopT α) := impl_dot_lpsG
def impl_dot_XG {α : Type}   (n : Nat) : Ctx α := ⟨impl_dot_CG n, impl_dot_M, eqs, lpOf (impl_dot_lpsG) n⟩
def impl_dot_X {α : Type} (n : Nat) : Ctx α := impl_dot_XG n
def impl_dot_Lt (np : Nat) (lent : List (Bool × Nat × Blk)) : Prop := np = 2 ∧ lent = []
def impl_dot_body {α : Type}   (k : Nat) (a : Int) (a1 : Int) (b_ : Int) (b_1 : Int) (r0 : Int → Option α) : Option α :=
  r0 (w64 ((w64 (a * b_)) + (w64 (a1 * b_1))))
theorem impl_dot_gen {α : Type}   (n : Nat) (a : Int) (a1 : Int) (b_ : Int) (b_1 : Int) (κ : Res → Option α) : evFn Try.prog (impl_dot_XG n) Try.f97 (((buildDs impl_dot_sh [.int a, .int a1, .int b_, .int b_1]).map Prod.fst).getD []) κ = impl_dot_body n a a1 b_ b_1 (fun v1 => κ ⟨[.int .i64 v1], []⟩) := by kernel_rfl
theorem impl_dot_ev {α : Type} (n : Nat) (a : Int) (a1 : Int) (b_ : Int) (b_1 : Int) (κ : Res → Option α) : evFn Try.prog (impl_dot_X n) Try.f97 (((buildDs impl_dot_sh [.int a, .int a1, .int b_, .int b_1]).map Prod.fst).getD []) κ = impl_dot_run n [.int a, .int a1, .int b_, .int b_1] κ := (impl_dot_gen n a a1 b_ b_1 κ).trans (by kernel_rfl)
theorem impl_dot_en (a : Int) (a1 : Int) (b_ : Int) (b_1 : Int) : (entry 0 (((buildDs impl_dot_sh [.int a, .int a1, .int b_, .int b_1]).map Prod.fst).getD [])).map (fun x => (x.1.length, x.2.lent)) = some (2, []) := by kernel_rfl
theorem impl_dot_good {α : Type} : ∀ n, GoodFn (α := α) Try.prog 97 (byShape impl_dot_sh (impl_dot_run n)) := by
  refine fn_good' Try.func97 (c := (Try.f97.body.getD .skip)) (by kernel_rfl) (by kernel_rfl) (by kernel_rfl) impl_dot_C impl_dot_M eqs impl_dot_lps (fun n => tabC_good (fun _ h => absurd h List.not_mem_nil)) eqs_ok impl_dot_Lt ?_ ?_ impl_dot_sh impl_dot_run ?_
  · exact (fun _ h => absurd h List.not_mem_nil)
  · exact (fun _ h => absurd h List.not_mem_nil)
  · intro n p κ r ds hd hr
    have hr0 := hr
    unfold impl_dot_run impl_dot_runG at hr
    split at hr
    · rw [← ds_of hd]
      exact ⟨en_of (impl_dot_en _ _ _ _) ⟨rfl, rfl⟩, (impl_dot_ev n _ _ _ _ κ).trans hr0⟩
    · cases hr

/-! (loop.example/g01297/impl.Point).norm -/
def impl_Point_norm_sh : List SkD := [.agg [.int .i64, .int .i64]]
def impl_Point_norm_runG {α : Type} (F : Nat → Int → Int → (Int → Option α) → Option α) (n : Nat) (p : List P1) (κ : Res → Option α) : Option α := match p with
  | [.int a, .int a1] => F n a a1 (fun v1 => κ ⟨[.int .i64 v1], []⟩)
  | _ => none
def impl_Point_norm_run {α : Type} (n : Nat) (p : List P1) (κ : Res → Option α) : Option α := impl_Point_norm_runG impl_Point_norm n p κ
def impl_Point_norm_CG {α : Type} (F0 : Nat → Int → Int → Int → Int → (Int → Option α) → Option α) (n : Nat) : FuncId → List D → (Res → Option α) → Option α := tabC [(97, (byShape impl_dot_sh (impl_dot_runG F0 n)))]
def impl_Point_norm_C {α : Type} (n : Nat) : FuncId → List D → (Res → Option α) → Option α := impl_Point_norm_CG impl_dot n
def impl_Point_norm_M : FuncId → List Nat := tabM []
def impl_Point_norm_lpsG {α : Type}  : List (LoopT α) := []
def impl_Point_norm_lps {α : Type} : List (LoopT α) := impl_Point_norm_lpsG
def impl_Point_norm_XG {α : Type} (F0 : Nat → Int → Int → Int → Int → (Int → Option α) → Option α)  (n : Nat) : Ctx α := ⟨impl_Point_norm_CG F0 n, impl_Point_norm_M, eqs, lpOf (impl_Point_norm_lpsG) n⟩
def impl_Point_norm_X {α : Type} (n : Nat) : Ctx α := impl_Point_norm_XG impl_dot n
def impl_Point_norm_Lt (np : Nat) (lent : List (Bool × Nat × Blk)) : Prop := np = 1 ∧ lent = []
def impl_Point_norm_body {α : Type} (F0 : Nat → Int → Int → Int → Int → (Int → Option α) → Option α)  (k : Nat) (a : Int) (a1 : Int) (r0 : Int → Option α) : Option α :=
  F0 k a a1 a a1 fun v =>
  r0 v
theorem impl_Point_norm_gen {α : Type} (F0 : Nat → Int → Int → Int → Int → (Int → Option α) → Option α)  (n : Nat) (a : Int) (a1 : Int) (κ : Res → Option α) : evFn Try.prog (impl_Point_norm_XG F0 n) Try.f80 (((buildDs impl_Point_norm_sh [.int a, .int a1]).map Prod.fst).getD []) κ = impl_Point_norm_body F0 n a a1 (fun v1 => κ ⟨[.int .i64 v1], []⟩) := by kernel_rfl
theorem impl_Point_norm_ev {α : Type} (n : Nat) (a : Int) (a1 : Int) (κ : Res → Option α) : evFn Try.prog (impl_Point_norm_X n) Try.f80 (((buildDs impl_Point_norm_sh [.int a, .int a1]).map Prod.fst).getD []) κ = impl_Point_norm_run n [.int a, .int a1] κ := (impl_Point_norm_gen impl_dot n a a1 κ).trans (by kernel_rfl)
theorem impl_Point_norm_en (a : Int) (a1 : Int) : (entry 0 (((buildDs impl_Point_norm_sh [.int a, .int a1]).map Prod.fst).getD [])).map (fun x => (x.1.length, x.2.lent)) = some (1, []) := by kernel_rfl
theorem impl_Point_norm_good {α : Type} : ∀ n, GoodFn (α := α) Try.prog 80 (byShape impl_Point_norm_sh (impl_Point_norm_run n)) := by
  refine fn_good' Try.func80 (c := (Try.f80.body.getD .skip)) (by kernel_rfl) (by kernel_rfl) (by kernel_rfl) impl_Point_norm_C impl_Point_norm_M eqs impl_Point_norm_lps (fun n => tabC_good (List.forall_mem_cons.2 ⟨(impl_dot_good n), (fun _ h => absurd h List.not_mem_nil)⟩)) eqs_ok impl_Point_norm_Lt ?_ ?_ impl_Point_norm_sh impl_Point_norm_run ?_
  · exact (fun _ h => absurd h List.not_mem_nil)
  · exact (fun _ h => absurd h List.not_mem_nil)
  · intro n p κ r ds hd hr
    have hr0 := hr
    unfold impl_Point_norm_run impl_Point_norm_runG at hr
    split at hr
    · rw [← ds_of hd]
      exact ⟨en_of (impl_Point_norm_en _ _) ⟨rfl, rfl⟩, (impl_Point_norm_ev n _ _ κ).trans hr0⟩
    · cases hr

/-! loop.example/g01297/impl.size -/
def impl_size_sh : List SkD := [.int .i64]
def impl_size_runG {α : Type} (F : Nat → Int → (Int → Option α) → Option α) (n : Nat) (p : List P1) (κ : Res → Option α) : Option α := match p with
  | [.int n_] => F n n_ (fun v1 => κ ⟨[.int .i64 v1], []⟩)
  | _ => none
def impl_size_run {α : Type} (n : Nat) (p : List P1) (κ : Res → Option α) : Option α := impl_size_runG impl_size n p κ
def impl_size_CG {α : Type}  (n : Nat) : FuncId → List D → (Res → Option α) → Option α := tabC []
def impl_size_C {α : Type} (n : Nat) : FuncId → List D → (Res → Option α) → Option α := impl_size_CG n
def impl_size_M : FuncId → List Nat := tabM []
def impl_size_lpsG {α : Type}  : List (LoopT α) := []
def impl_size_lps {α : Type} : List (LoopT α) := impl_size_lpsG
def impl_size_XG {α : Type}   (n : Nat) : Ctx α := ⟨impl_size_CG n, impl_size_M, eqs, lpOf (impl_size_lpsG) n⟩
def impl_size_X {α : Type} (n : Nat) : Ctx α := impl_size_XG n
def impl_size_Lt (np : Nat) (lent : List (Bool × Nat × Blk)) : Prop := np = 1 ∧ lent = []
def impl_size_body {α : Type}   (k : Nat) (n_ : Int) (r0 : Int → Option α) : Option α :=
  r0 (max n_ (w64 (0 - n_)))
theorem impl_size_gen {α : Type}   (n : Nat) (n_ : Int) (κ : Res → Option α) : evFn Try.prog (impl_size_XG n) Try.f93 (((buildDs impl_size_sh [.int n_]).map Prod.fst).getD []) κ = impl_size_body n n_ (fun v1 => κ ⟨[.int .i64 v1], []⟩) := by kernel_rfl
theorem impl_size_ev {α : Type} (n : Nat) (n_ : Int) (κ : Res → Option α) : evFn Try.prog (impl_size_X n) Try.f93 (((buildDs impl_size_sh [.int n_]).map Prod.fst).getD []) κ = impl_size_run n [.int n_] κ := (impl_size_gen n n_ κ).trans (by kernel_rfl)
theorem impl_size_en (n_ : Int) : (entry 0 (((buildDs impl_size_sh [.int n_]).map Prod.fst).getD [])).map (fun x => (x.1.length, x.2.lent)) = some (1, []) := by kernel_rfl
theorem impl_size_good {α : Type} : ∀ n, GoodFn (α := α) Try.prog 93 (byShape impl_size_sh (impl_size_run n)) := by
  refine fn_good' Try.func93 (c := (Try.f93.body.getD .skip)) (by kernel_rfl) (by kernel_rfl) (by kernel_rfl) impl_size_C impl_size_M eqs impl_size_lps (fun n => tabC_good (fun _ h => absurd h List.not_mem_nil)) eqs_ok impl_size_Lt ?_ ?_ impl_size_sh impl_size_run ?_
  · exact (fun _ h => absurd h List.not_mem_nil)
  · exact (fun _ h => absurd h List.not_mem_nil)
  · intro n p κ r ds hd hr
    have hr0 := hr
    unfold impl_size_run impl_size_runG at hr
    split at hr
    · rw [← ds_of hd]
      exact ⟨en_of (impl_size_en _) ⟨rfl, rfl⟩, (impl_size_ev n _ κ).trans hr0⟩
    · cases hr

/-! loop.example/g01297/impl.isReduced -/
def impl_isReduced_sh : List SkD := [.agg [.int .i64, .int .i64], .agg [.int .i64, .int .i64]]
def impl_isReduced_runG {α : Type} (F : Nat → Int → Int → Int → Int → (Bool → Option α) → Option α) (n : Nat) (p : List P1) (κ : Res → Option α) : Option α := match p with
  | [.int a, .int a1, .int b_, .int b_1] => F n a a1 b_ b_1 (fun v1 => κ ⟨[.bool v1], []⟩)
  | _ => none
def impl_isReduced_run {α : Type} (n : Nat) (p : List P1) (κ : Res → Option α) : Option α := impl_isReduced_runG impl_isReduced n p κ
def impl_isReduced_CG {α : Type} (F0 : Nat → Int → Int → (Int → Option α) → Option α) (F1 : Nat → Int → Int → Int → Int → (Int → Option α) → Option α) (F2 : Nat → Int → (Int → Option α) → Option α) (n : Nat) : FuncId → List D → (Res → Option α) → Option α := tabC [(80, (byShape impl_Point_norm_sh (impl_Point_norm_runG F0 n))), (97, (byShape impl_dot_sh (impl_dot_runG F1 n))), (93, (byShape impl_size_sh (impl_size_runG F2 n)))]
def impl_isReduced_C {α : Type} (n : Nat) : FuncId → List D → (Res → Option α) → Option α := impl_isReduced_CG impl_Point_norm impl_dot impl_size n
def impl_isReduced_M : FuncId → List Nat := tabM []
def impl_isReduced_lpsG {α : Type}  : List (LoopT α) := []
def impl_isReduced_lps {α : Type} : List (LoopT α) := impl_isReduced_lpsG
def impl_isReduced_XG {α : Type} (F0 : Nat → Int → Int → (Int → Option α) → Option α) (F1 : Nat → Int → Int → Int → Int → (Int → Option α) → Option α) (F2 : Nat → Int → (Int → Option α) → Option α)  (n : Nat) : Ctx α := ⟨impl_isReduced_CG F0 F1 F2 n, impl_isReduced_M, eqs, lpOf (impl_isReduced_lpsG) n⟩
def impl_isReduced_X {α : Type} (n : Nat) : Ctx α := impl_isReduced_XG impl_Point_norm impl_dot impl_size n
def impl_isReduced_Lt (np : Nat) (lent : List (Bool × Nat × Blk)) : Prop := np = 2 ∧ lent = []
def impl_isReduced_body {α : Type} (F0 : Nat → Int → Int → (Int → Option α) → Option α) (F1 : Nat → Int → Int → Int → Int → (Int → Option α) → Option α) (F2 : Nat → Int → (Int → Option α) → Option α)  (k : Nat) (a : Int) (a1 : Int) (b_ : Int) (b_1 : Int) (r0 : Bool → Option α) : Option α :=
  F0 k a a1 fun v =>
  F0 k b_ b_1 fun v1 =>
  bif decide (v ≤ v1) then
    F1 k a a1 b_ b_1 fun v2 =>
    F2 k v2 fun v3 =>
    F0 k a a1 fun v4 =>
    r0 (decide ((w64 (2 * v3)) ≤ v4))
  else
    r0 false
theorem impl_isReduced_gen {α : Type} (F0 : Nat → Int → Int → (Int → Option α) → Option α) (F1 : Nat → Int → Int → Int → Int → (Int → Option α) → Option α) (F2 : Nat → Int → (Int → Option α) → Option α)  (n : Nat) (a : Int) (a1 : Int) (b_ : Int) (b_1 : Int) (κ : Res → Option α) : evFn Try.prog (impl_isReduced_XG F0 F1 F2 n) Try.f57 (((buildDs impl_isReduced_sh [.int a, .int a1, .int b_, .int b_1]).map Prod.fst).getD []) κ = impl_isReduced_body F0 F1 F2 n a a1 b_ b_1 (fun v1 => κ ⟨[.bool v1], []⟩) := by kernel_rfl
theorem impl_isReduced_ev {α : Type} (n : Nat) (a : Int) (a1 : Int) (b_ : Int) (b_1 : Int) (κ : Res → Option α) : evFn Try.prog (impl_isReduced_X n) Try.f57 (((buildDs impl_isReduced_sh [.int a, .int a1, .int b_, .int b_1]).map Prod.fst).getD []) κ = impl_isReduced_run n [.int a, .int a1, .int b_, .int b_1] κ := (impl_isReduced_gen impl_Point_norm impl_dot impl_size n a a1 b_ b_1 κ).trans (by kernel_rfl)
theorem impl_isReduced_en (a : Int) (a1 : Int) (b_ : Int) (b_1 : Int) : (entry 0 (((buildDs impl_isReduced_sh [.int a, .int a1, .int b_, .int b_1]).map Prod.fst).getD [])).map (fun x => (x.1.length, x.2.lent)) = some (2, []) := by kernel_rfl
theorem impl_isReduced_good {α : Type} : ∀ n, GoodFn (α := α) Try.prog 57 (byShape impl_isReduced_sh (impl_isReduced_run n)) := by
  refine fn_good' Try.func57 (c := (Try.f57.body.getD .skip)) (by kernel_rfl) (by kernel_rfl) (by kernel_rfl) impl_isReduced_C impl_isReduced_M eqs impl_isReduced_lps (fun n => tabC_good (List.forall_mem_cons.2 ⟨(impl_Point_norm_good n), (List.forall_mem_cons.2 ⟨(impl_dot_good n), (List.forall_mem_cons.2 ⟨(impl_size_good n), (fun _ h => absurd h List.not_mem_nil)⟩)⟩)⟩)) eqs_ok impl_isReduced_Lt ?_ ?_ impl_isReduced_sh impl_isReduced_run ?_
  · exact (fun _ h => absurd h List.not_mem_nil)
  · exact (fun _ h => absurd h List.not_mem_nil)
  · intro n p κ r ds hd hr
    have hr0 := hr
    unfold impl_isReduced_run impl_isReduced_runG at hr
    split at hr
    · rw [← ds_of hd]
      exact ⟨en_of (impl_isReduced_en _ _ _ _) ⟨rfl, rfl⟩, (impl_isReduced_ev n _ _ _ _ κ).trans hr0⟩
    · cases hr

/-! loop.example/g01297/impl.floor -/
def impl_floor_sh : List SkD := [.int .i64, .int .i64]
def impl_floor_runG {α : Type} (F : Nat → Int → Int → (Int → Option α) → Option α) (n : Nat) (p : List P1) (κ : Res → Option α) : Option α := match p with
  | [.int a, .int b_] => F n a b_ (fun v1 => κ ⟨[.int .i64 v1], []⟩)
  | _ => none
def impl_floor_run {α : Type} (n : Nat) (p : List P1) (κ : Res → Option α) : Option α := impl_floor_runG impl_floor n p κ
def impl_floor_CG {α : Type}  (n : Nat) : FuncId → List D → (Res → Option α) → Option α := tabC []
def impl_floor_C {α : Type} (n : Nat) : FuncId → List D → (Res → Option α) → Option α := impl_floor_CG n
def impl_floor_M : FuncId → List Nat := tabM []
def impl_floor_lpsG {α : Type}  : List (LoopT α) := []
def impl_floor_lps {α : Type} : List (LoopT α) := impl_floor_lpsG
def impl_floor_XG {α : Type}   (n : Nat) : Ctx α := ⟨impl_floor_CG n, impl_floor_M, eqs, lpOf (impl_floor_lpsG) n⟩
def impl_floor_X {α : Type} (n : Nat) : Ctx α := impl_floor_XG n
def impl_floor_Lt (np : Nat) (lent : List (Bool × Nat × Blk)) : Prop := np = 2 ∧ lent = []
def impl_floor_body {α : Type}   (k : Nat) (a : Int) (b_ : Int) (r0 : Int → Option α) : Option α :=
  bif decide (b_ = 0) then
    none
  else
  bif decide (b_ = 0) then
    none
  else
  bif (!decide ((Int.tmod a b_) = 0)) then
    bif (!(decide (a < 0) == decide (b_ < 0))) then
      r0 (w64 ((w64 (Int.tdiv a b_)) - 1))
    else
      r0 (w64 (Int.tdiv a b_))
  else
    r0 (w64 (Int.tdiv a b_))
theorem impl_floor_gen {α : Type}   (n : Nat) (a : Int) (b_ : Int) (κ : Res → Option α) : evFn Try.prog (impl_floor_XG n) Try.f112 (((buildDs impl_floor_sh [.int a, .int b_]).map Prod.fst).getD []) κ = impl_floor_body n a b_ (fun v1 => κ ⟨[.int .i64 v1], []⟩) := by kernel_rfl
theorem impl_floor_ev {α : Type} (n : Nat) (a : Int) (b_ : Int) (κ : Res → Option α) : evFn Try.prog (impl_floor_X n) Try.f112 (((buildDs impl_floor_sh [.int a, .int b_]).map Prod.fst).getD []) κ = impl_floor_run n [.int a, .int b_] κ := (impl_floor_gen n a b_ κ).trans (by kernel_rfl)
theorem impl_floor_en (a : Int) (b_ : Int) : (entry 0 (((buildDs impl_floor_sh [.int a, .int b_]).map Prod.fst).getD [])).map (fun x => (x.1.length, x.2.lent)) = some (2, []) := by kernel_rfl
theorem impl_floor_good {α : Type} : ∀ n, GoodFn (α := α) Try.prog 112 (byShape impl_floor_sh (impl_floor_run n)) := by
  refine fn_good' Try.func112 (c := (Try.f112.body.getD .skip)) (by kernel_rfl) (by kernel_rfl) (by kernel_rfl) impl_floor_C impl_floor_M eqs impl_floor_lps (fun n => tabC_good (fun _ h => absurd h List.not_mem_nil)) eqs_ok impl_floor_Lt ?_ ?_ impl_floor_sh impl_floor_run ?_
  · exact (fun _ h => absurd h List.not_mem_nil)
  · exact (fun _ h => absurd h List.not_mem_nil)
  · intro n p κ r ds hd hr
    have hr0 := hr
    unfold impl_floor_run impl_floor_runG at hr
    split at hr
    · rw [← ds_of hd]
      exact ⟨en_of (impl_floor_en _ _) ⟨rfl, rfl⟩, (impl_floor_ev n _ _ κ).trans hr0⟩
    · cases hr

/-! (loop.example/g01297/impl.Point).plus -/
def impl_Point_plus_sh : List SkD := [.agg [.int .i64, .int .i64], .agg [.int .i64, .int .i64], .int .i64]
def impl_Point_plus_runG {α : Type} (F : Nat → Int → Int → Int → Int → Int → (Int → Int → Option α) → Option α) (n : Nat) (p : List P1) (κ : Res → Option α) : Option α := match p with
  | [.int a, .int a1, .int b_, .int b_1, .int k_] => F n a a1 b_ b_1 k_ (fun v1 v2 => κ ⟨[.agg [.int .i64 v1, .int .i64 v2]], []⟩)
  | _ => none
def impl_Point_plus_run {α : Type} (n : Nat) (p : List P1) (κ : Res → Option α) : Option α := impl_Point_plus_runG impl_Point_plus n p κ
def impl_Point_plus_CG {α : Type}  (n : Nat) : FuncId → List D → (Res → Option α) → Option α := tabC []
def impl_Point_plus_C {α : Type} (n : Nat) : FuncId → List D → (Res → Option α) → Option α := impl_Point_plus_CG n
def impl_Point_plus_M : FuncId → List Nat := tabM []
def impl_Point_plus_lpsG {α : Type}  : List (LoopT α) := []
def impl_Point_plus_lps {α : Type} : List (LoopT α) := impl_Point_plus_lpsG
def impl_Point_plus_XG {α : Type}   (n : Nat) : Ctx α := ⟨impl_Point_plus_CG n, impl_Point_plus_M, eqs, lpOf (impl_Point_plus_lpsG) n⟩
def impl_Point_plus_X {α : Type} (n : Nat) : Ctx α := impl_Point_plus_XG n
def impl_Point_plus_Lt (np : Nat) (lent : List (Bool × Nat × Blk)) : Prop := np = 3 ∧ lent = []
def impl_Point_plus_body {α : Type}   (k : Nat) (a : Int) (a1 : Int) (b_ : Int) (b_1 : Int) (k_ : Int) (r0 : Int → Int → Option α) : Option α :=
  r0 (w64 (a + (w64 (k_ * b_)))) (w64 (a1 + (w64 (k_ * b_1))))
theorem impl_Point_plus_gen {α : Type}   (n : Nat) (a : Int) (a1 : Int) (b_ : Int) (b_1 : Int) (k_ : Int) (κ : Res → Option α) : evFn Try.prog (impl_Point_plus_XG n) Try.f111 (((buildDs impl_Point_plus_sh [.int a, .int a1, .int b_, .int b_1, .int k_]).map Prod.fst).getD []) κ = impl_Point_plus_body n a a1 b_ b_1 k_ (fun v1 v2 => κ ⟨[.agg [.int .i64 v1, .int .i64 v2]], []⟩) := by kernel_rfl
theorem impl_Point_plus_ev {α : Type} (n : Nat) (a : Int) (a1 : Int) (b_ : Int) (b_1 : Int) (k_ : Int) (κ : Res → Option α) : evFn Try.prog (impl_Point_plus_X n) Try.f111 (((buildDs impl_Point_plus_sh [.int a, .int a1, .int b_, .int b_1, .int k_]).map Prod.fst).getD []) κ = impl_Point_plus_run n [.int a, .int a1, .int b_, .int b_1, .int k_] κ := (impl_Point_plus_gen n a a1 b_ b_1 k_ κ).trans (by kernel_rfl)
theorem impl_Point_plus_en (a : Int) (a1 : Int) (b_ : Int) (b_1 : Int) (k_ : Int) : (entry 0 (((buildDs impl_Point_plus_sh [.int a, .int a1, .int b_, .int b_1, .int k_]).map Prod.fst).getD [])).map (fun x => (x.1.length, x.2.lent)) = some (3, []) := by kernel_rfl
theorem impl_Point_plus_good {α : Type} : ∀ n, GoodFn (α := α) Try.prog 111 (byShape impl_Point_plus_sh (impl_Point_plus_run n)) := by
  refine fn_good' Try.func111 (c := (Try.f111.body.getD .skip)) (by kernel_rfl) (by kernel_rfl) (by kernel_rfl) impl_Point_plus_C impl_Point_plus_M eqs impl_Point_plus_lps (fun n => tabC_good (fun _ h => absurd h List.not_mem_nil)) eqs_ok impl_Point_plus_Lt ?_ ?_ impl_Point_plus_sh impl_Point_plus_run ?_
  · exact (fun _ h => absurd h List.not_mem_nil)
  · exact (fun _ h => absurd h List.not_mem_nil)
  · intro n p κ r ds hd hr
    have hr0 := hr
    unfold impl_Point_plus_run impl_Point_plus_runG at hr
    split at hr
    · rw [← ds_of hd]
      exact ⟨en_of (impl_Point_plus_en _ _ _ _ _) ⟨rfl, rfl⟩, (impl_Point_plus_ev n _ _ _ _ _ κ).trans hr0⟩
    · cases hr

/-! loop.example/g01297/impl.ReducePair -/
def impl_ReducePair_sh : List SkD := [.agg [.int .i64, .int .i64], .agg [.int .i64, .int .i64]]
def impl_ReducePair_runG {α : Type} (F : Nat → Int → Int → Int → Int → (Int → Option α) → ((List (Int × Int)) → Int → Option α) → Option α) (n : Nat) (p : List P1) (κ : Res → Option α) : Option α := match p with
  | [.int a, .int a1, .int b_, .int b_1] => F n a a1 b_ b_1 (fun v1 => κ ⟨[.nilsl, .int .i64 v1], []⟩) (fun v1 v2 => κ ⟨[.sl 31 .pt v1, .int .i64 v2], []⟩)
  | _ => none
def impl_ReducePair_run {α : Type} (n : Nat) (p : List P1) (κ : Res → Option α) : Option α := impl_ReducePair_runG impl_ReducePair n p κ
def impl_ReducePair_CG {α : Type} (F0 : Nat → Int → Int → Int → Int → (Int → Option α) → Option α) (F1 : Nat → Int → Int → Int → Int → (Bool → Option α) → Option α) (F2 : Nat → Int → Int → (Int → Option α) → Option α) (F3 : Nat → Int → Int → Int → Int → (Int → Option α) → Option α) (F4 : Nat → Int → Int → (Int → Option α) → Option α) (F5 : Nat → Int → Int → Int → Int → Int → (Int → Int → Option α) → Option α) (n : Nat) : FuncId → List D → (Res → Option α) → Option α := tabC [(56, (byShape impl_pairFault_sh (impl_pairFault_runG F0 n))), (57, (byShape impl_isReduced_sh (impl_isReduced_runG F1 n))), (80, (byShape impl_Point_norm_sh (impl_Point_norm_runG F2 n))), (97, (byShape impl_dot_sh (impl_dot_runG F3 n))), (112, (byShape impl_floor_sh (impl_floor_runG F4 n))), (111, (byShape impl_Point_plus_sh (impl_Point_plus_runG F5 n)))]
def impl_ReducePair_C {α : Type} (n : Nat) : FuncId → List D → (Res → Option α) → Option α := impl_ReducePair_CG impl_pairFault impl_isReduced impl_Point_norm impl_dot impl_floor impl_Point_plus n
def impl_ReducePair_M : FuncId → List Nat := tabM []
def impl_ReducePair_t4 : Tpl := ⟨[.any, .any, .ptr 128 0 0, .ptr 192 0 0, .any, .any, .any, .any, .any, .any, .any, .any, .any, .any, .any, .any, .any, .any, .any, .any, .any, .any, .any, .any, .any, .any, .any, .any, .any, .any, .any, .any, .any, .any, .any, .any, .any, .any, .any, .any, .any, .any], [(128, .ints 2 31 .i64 2), (192, .ints 2 31 .i64 2)], []⟩
def impl_ReducePair_uG4 {α : Type} (G : Nat → Int → Int → Int → Int → (Int → Int → Int → Int → Option α) → (Int → Option α) → ((List (Int × Int)) → Int → Option α) → Option α) (n : Nat) (p : List P1) (brk : Nat → List P1 → Option α) (ret : Res → Option α) : Option α := match p with
  | [.int a2, .int a3, .int b_2, .int b_3] => G n a2 a3 b_2 b_3 (fun a2 a3 b_2 b_3 => brk 0 [.int a2, .int a3, .int b_2, .int b_3]) (fun v1 => ret ⟨[.nilsl, .int .i64 v1], []⟩) (fun v1 v2 => ret ⟨[.sl 31 .pt v1, .int .i64 v2], []⟩)
  | _ => none
def impl_ReducePair_u4 {α : Type} (n : Nat) (p : List P1) (brk : Nat → List P1 → Option α) (ret : Res → Option α) : Option α := impl_ReducePair_uG4 impl_ReducePair_l4 n p brk ret
def impl_ReducePair_lpsG {α : Type} (G4 : Nat → Int → Int → Int → Int → (Int → Int → Int → Int → Option α) → (Int → Option α) → ((List (Int × Int)) → Int → Option α) → Option α) : List (LoopT α) := [⟨4, impl_ReducePair_t4, impl_ReducePair_uG4 G4⟩]
def impl_ReducePair_lps {α : Type} : List (LoopT α) := impl_ReducePair_lpsG impl_ReducePair_l4
def impl_ReducePair_XG {α : Type} (F0 : Nat → Int → Int → Int → Int → (Int → Option α) → Option α) (F1 : Nat → Int → Int → Int → Int → (Bool → Option α) → Option α) (F2 : Nat → Int → Int → (Int → Option α) → Option α) (F3 : Nat → Int → Int → Int → Int → (Int → Option α) → Option α) (F4 : Nat → Int → Int → (Int → Option α) → Option α) (F5 : Nat → Int → Int → Int → Int → Int → (Int → Int → Option α) → Option α) (G4 : Nat → Int → Int → Int → Int → (Int → Int → Int → Int → Option α) → (Int → Option α) → ((List (Int × Int)) → Int → Option α) → Option α) (n : Nat) : Ctx α := ⟨impl_ReducePair_CG F0 F1 F2 F3 F4 F5 n, impl_ReducePair_M, eqs, lpOf (impl_ReducePair_lpsG G4) n⟩
def impl_ReducePair_X {α : Type} (n : Nat) : Ctx α := impl_ReducePair_XG impl_pairFault impl_isReduced impl_Point_norm impl_dot impl_floor impl_Point_plus impl_ReducePair_l4 n
def impl_ReducePair_Lt (np : Nat) (lent : List (Bool × Nat × Blk)) : Prop := np = 2 ∧ lent = []
def impl_ReducePair_lb4 {α : Type} (F0 : Nat → Int → Int → Int → Int → (Int → Option α) → Option α) (F1 : Nat → Int → Int → Int → Int → (Bool → Option α) → Option α) (F2 : Nat → Int → Int → (Int → Option α) → Option α) (F3 : Nat → Int → Int → Int → Int → (Int → Option α) → Option α) (F4 : Nat → Int → Int → (Int → Option α) → Option α) (F5 : Nat → Int → Int → Int → Int → Int → (Int → Int → Option α) → Option α) (G4 : Nat → Int → Int → Int → Int → (Int → Int → Int → Int → Option α) → (Int → Option α) → ((List (Int × Int)) → Int → Option α) → Option α) (k : Nat) (a2 : Int) (a3 : Int) (b_2 : Int) (b_3 : Int) (b0 : Int → Int → Int → Int → Option α) (r0 : Int → Option α) (r1 : (List (Int × Int)) → Int → Option α) : Option α :=
  F1 k a2 a3 b_2 b_3 fun v1 =>
  bif (!v1) then
    F2 k a2 a3 fun v2 =>
    F2 k b_2 b_3 fun v3 =>
    bif decide (v3 < v2) then
      G4 k b_2 b_3 a2 a3 b0 r0 r1
    else
      F3 k a2 a3 b_2 b_3 fun v4 =>
      F2 k a2 a3 fun v5 =>
      F2 k a2 a3 fun v6 =>
      F4 k (w64 ((w64 (2 * v4)) + v5)) (w64 (2 * v6)) fun v7 =>
      F5 k b_2 b_3 a2 a3 (w64 (0 - v7)) fun v8 v9 =>
      G4 k a2 a3 v8 v9 b0 r0 r1
  else
    b0 a2 a3 b_2 b_3
theorem impl_ReducePair_l4_gen {α : Type} (F0 : Nat → Int → Int → Int → Int → (Int → Option α) → Option α) (F1 : Nat → Int → Int → Int → Int → (Bool → Option α) → Option α) (F2 : Nat → Int → Int → (Int → Option α) → Option α) (F3 : Nat → Int → Int → Int → Int → (Int → Option α) → Option α) (F4 : Nat → Int → Int → (Int → Option α) → Option α) (F5 : Nat → Int → Int → Int → Int → Int → (Int → Int → Option α) → Option α) (G4 : Nat → Int → Int → Int → Int → (Int → Int → Int → Int → Option α) → (Int → Option α) → ((List (Int × Int)) → Int → Option α) → Option α) (n : Nat) (a2 : Int) (a3 : Int) (b_2 : Int) (b_3 : Int) (brk : Nat → List P1 → Option α) (ret : Res → Option α) : ev ((impl_ReducePair_XG F0 F1 F2 F3 F4 F5 G4 n).env Try.prog Try.f79 2 []) (findLoop (loopsIn (Try.f79.body.getD .skip)) 4) ((impl_ReducePair_t4.build [.int a2, .int a3, .int b_2, .int b_3]).getD ⟨[], []⟩) (roundK (2 * 64) impl_ReducePair_t4 (fun q => impl_ReducePair_uG4 G4 n q brk ret) brk ret) = impl_ReducePair_lb4 F0 F1 F2 F3 F4 F5 G4 n a2 a3 b_2 b_3 (fun a2 a3 b_2 b_3 => brk 0 [.int a2, .int a3, .int b_2, .int b_3]) (fun v1 => ret ⟨[.nilsl, .int .i64 v1], []⟩) (fun v1 v2 => ret ⟨[.sl 31 .pt v1, .int .i64 v2], []⟩) := by kernel_rfl
theorem impl_ReducePair_l4_ev {α : Type} (n : Nat) (a2 : Int) (a3 : Int) (b_2 : Int) (b_3 : Int) (brk : Nat → List P1 → Option α) (ret : Res → Option α) : ev ((impl_ReducePair_X n).env Try.prog Try.f79 2 []) (findLoop (loopsIn (Try.f79.body.getD .skip)) 4) ((impl_ReducePair_t4.build [.int a2, .int a3, .int b_2, .int b_3]).getD ⟨[], []⟩) (roundK (2 * 64) impl_ReducePair_t4 (fun q => impl_ReducePair_u4 n q brk ret) brk ret) = impl_ReducePair_u4 (n + 1) [.int a2, .int a3, .int b_2, .int b_3] brk ret := (impl_ReducePair_l4_gen impl_pairFault impl_isReduced impl_Point_norm impl_dot impl_floor impl_Point_plus impl_ReducePair_l4 n a2 a3 b_2 b_3 brk ret).trans (by kernel_rfl)
def impl_ReducePair_body {α : Type} (F0 : Nat → Int → Int → Int → Int → (Int → Option α) → Option α) (F1 : Nat → Int → Int → Int → Int → (Bool → Option α) → Option α) (F2 : Nat → Int → Int → (Int → Option α) → Option α) (F3 : Nat → Int → Int → Int → Int → (Int → Option α) → Option α) (F4 : Nat → Int → Int → (Int → Option α) → Option α) (F5 : Nat → Int → Int → Int → Int → Int → (Int → Int → Option α) → Option α) (G4 : Nat → Int → Int → Int → Int → (Int → Int → Int → Int → Option α) → (Int → Option α) → ((List (Int × Int)) → Int → Option α) → Option α) (k : Nat) (a : Int) (a1 : Int) (b_ : Int) (b_1 : Int) (r0 : Int → Option α) (r1 : (List (Int × Int)) → Int → Option α) : Option α :=
  F0 k a a1 b_ b_1 fun v =>
  bif (!decide (v = 0)) then
    r0 v
  else
    G4 k a a1 b_ b_1
      (fun a4 a5 b_4 b_5 =>
        r1 [(a4, a5), (b_4, b_5)] 0)
      r0 r1
theorem impl_ReducePair_gen {α : Type} (F0 : Nat → Int → Int → Int → Int → (Int → Option α) → Option α) (F1 : Nat → Int → Int → Int → Int → (Bool → Option α) → Option α) (F2 : Nat → Int → Int → (Int → Option α) → Option α) (F3 : Nat → Int → Int → Int → Int → (Int → Option α) → Option α) (F4 : Nat → Int → Int → (Int → Option α) → Option α) (F5 : Nat → Int → Int → Int → Int → Int → (Int → Int → Option α) → Option α) (G4 : Nat → Int → Int → Int → Int → (Int → Int → Int → Int → Option α) → (Int → Option α) → ((List (Int × Int)) → Int → Option α) → Option α) (n : Nat) (a : Int) (a1 : Int) (b_ : Int) (b_1 : Int) (κ : Res → Option α) : evFn Try.prog (impl_ReducePair_XG F0 F1 F2 F3 F4 F5 G4 n) Try.f79 (((buildDs impl_ReducePair_sh [.int a, .int a1, .int b_, .int b_1]).map Prod.fst).getD []) κ = impl_ReducePair_body F0 F1 F2 F3 F4 F5 G4 n a a1 b_ b_1 (fun v1 => κ ⟨[.nilsl, .int .i64 v1], []⟩) (fun v1 v2 => κ ⟨[.sl 31 .pt v1, .int .i64 v2], []⟩) := by kernel_rfl
theorem impl_ReducePair_ev {α : Type} (n : Nat) (a : Int) (a1 : Int) (b_ : Int) (b_1 : Int) (κ : Res → Option α) : evFn Try.prog (impl_ReducePair_X n) Try.f79 (((buildDs impl_ReducePair_sh [.int a, .int a1, .int b_, .int b_1]).map Prod.fst).getD []) κ = impl_ReducePair_run n [.int a, .int a1, .int b_, .int b_1] κ := (impl_ReducePair_gen impl_pairFault impl_isReduced impl_Point_norm impl_dot impl_floor impl_Point_plus impl_ReducePair_l4 n a a1 b_ b_1 κ).trans (by kernel_rfl)
theorem impl_ReducePair_en (a : Int) (a1 : Int) (b_ : Int) (b_1 : Int) : (entry 0 (((buildDs impl_ReducePair_sh [.int a, .int a1, .int b_, .int b_1]).map Prod.fst).getD [])).map (fun x => (x.1.length, x.2.lent)) = some (2, []) := by kernel_rfl
theorem impl_ReducePair_good {α : Type} : ∀ n, GoodFn (α := α) Try.prog 79 (byShape impl_ReducePair_sh (impl_ReducePair_run n)) := by
  refine fn_good' Try.func79 (c := (Try.f79.body.getD .skip)) (by kernel_rfl) (by kernel_rfl) (by kernel_rfl) impl_ReducePair_C impl_ReducePair_M eqs impl_ReducePair_lps (fun n => tabC_good (List.forall_mem_cons.2 ⟨(impl_pairFault_good n), (List.forall_mem_cons.2 ⟨(impl_isReduced_good n), (List.forall_mem_cons.2 ⟨(impl_Point_norm_good n), (List.forall_mem_cons.2 ⟨(impl_dot_good n), (List.forall_mem_cons.2 ⟨(impl_floor_good n), (List.forall_mem_cons.2 ⟨(impl_Point_plus_good n), (fun _ h => absurd h List.not_mem_nil)⟩)⟩)⟩)⟩)⟩)⟩)) eqs_ok impl_ReducePair_Lt ?_ ?_ impl_ReducePair_sh impl_ReducePair_run ?_
  · refine List.forall_mem_cons.2 ⟨?_, (fun _ h => absurd h List.not_mem_nil)⟩
    · intro p brk ret; show impl_ReducePair_u4 0 p brk ret = none; unfold impl_ReducePair_u4 impl_ReducePair_uG4; split <;> rfl
  · refine List.forall_mem_cons.2 ⟨?_, (fun _ h => absurd h List.not_mem_nil)⟩
    · intro np lent hL n p brk ret st r hb hr
      obtain ⟨rfl, rfl⟩ := hL
      rw [← tpl_of hb]
      change impl_ReducePair_u4 (n + 1) p brk ret = some r at hr
      have hr0 := hr
      unfold impl_ReducePair_u4 impl_ReducePair_uG4 at hr
      split at hr
      · exact (impl_ReducePair_l4_ev n _ _ _ _ brk ret).trans hr0
      · cases hr
  · intro n p κ r ds hd hr
    have hr0 := hr
    unfold impl_ReducePair_run impl_ReducePair_runG at hr
    split at hr
    · rw [← ds_of hd]
      exact ⟨en_of (impl_ReducePair_en _ _ _ _) ⟨rfl, rfl⟩, (impl_ReducePair_ev n _ _ _ _ κ).trans hr0⟩
    · cases hr

/-! loop.example/g01297/impl.ShortestNorm -/
def impl_ShortestNorm_sh : List SkD := [.agg [.int .i64, .int .i64], .agg [.int .i64, .int .i64]]
def impl_ShortestNorm_runG {α : Type} (F : Nat → Int → Int → Int → Int → (Int → Int → Option α) → Option α) (n : Nat) (p : List P1) (κ : Res → Option α) : Option α := match p with
  | [.int a, .int a1, .int b_, .int b_1] => F n a a1 b_ b_1 (fun v1 v2 => κ ⟨[.int .i64 v1, .int .i64 v2], []⟩)
  | _ => none
def impl_ShortestNorm_run {α : Type} (n : Nat) (p : List P1) (κ : Res → Option α) : Option α := impl_ShortestNorm_runG impl_ShortestNorm n p κ
def impl_ShortestNorm_CG {α : Type} (F0 : Nat → Int → Int → Int → Int → (Int → Option α) → ((List (Int × Int)) → Int → Option α) → Option α) (F1 : Nat → Int → Int → (Int → Option α) → Option α) (n : Nat) : FuncId → List D → (Res → Option α) → Option α := tabC [(79, (byShape impl_ReducePair_sh (impl_ReducePair_runG F0 n))), (80, (byShape impl_Point_norm_sh (impl_Point_norm_runG F1 n)))]
def impl_ShortestNorm_C {α : Type} (n : Nat) : FuncId → List D → (Res → Option α) → Option α := impl_ShortestNorm_CG impl_ReducePair impl_Point_norm n
def impl_ShortestNorm_M : FuncId → List Nat := tabM []
def impl_ShortestNorm_lpsG {α : Type}  : List (LoopT α) := []
def impl_ShortestNorm_lps {α : Type} : List (LoopT α) := impl_ShortestNorm_lpsG
def impl_ShortestNorm_XG {α : Type} (F0 : Nat → Int → Int → Int → Int → (Int → Option α) → ((List (Int × Int)) → Int → Option α) → Option α) (F1 : Nat → Int → Int → (Int → Option α) → Option α)  (n : Nat) : Ctx α := ⟨impl_ShortestNorm_CG F0 F1 n, impl_ShortestNorm_M, eqs, lpOf (impl_ShortestNorm_lpsG) n⟩
def impl_ShortestNorm_X {α : Type} (n : Nat) : Ctx α := impl_ShortestNorm_XG impl_ReducePair impl_Point_norm n
def impl_ShortestNorm_Lt (np : Nat) (lent : List (Bool × Nat × Blk)) : Prop := np = 2 ∧ lent = []
def impl_ShortestNorm_body {α : Type} (F0 : Nat → Int → Int → Int → Int → (Int → Option α) → ((List (Int × Int)) → Int → Option α) → Option α) (F1 : Nat → Int → Int → (Int → Option α) → Option α)  (k : Nat) (a : Int) (a1 : Int) (b_ : Int) (b_1 : Int) (r0 : Int → Int → Option α) : Option α :=
  F0 k a a1 b_ b_1
    (fun v =>
      bif (!decide (v = 0)) then
        r0 0 v
      else
        none)
    (fun v1 v2 =>
      bif (!decide (v2 = 0)) then
        r0 0 v2
      else
      bif (true && decide (0 < (((List.length v1) : Nat) : Int))) then
        (v1[0]?).bind fun e_ =>
        F1 k e_.1 e_.2 fun v3 =>
        r0 v3 0
      else
        none)
theorem impl_ShortestNorm_gen {α : Type} (F0 : Nat → Int → Int → Int → Int → (Int → Option α) → ((List (Int × Int)) → Int → Option α) → Option α) (F1 : Nat → Int → Int → (Int → Option α) → Option α)  (n : Nat) (a : Int) (a1 : Int) (b_ : Int) (b_1 : Int) (κ : Res → Option α) : evFn Try.prog (impl_ShortestNorm_XG F0 F1 n) Try.f42 (((buildDs impl_ShortestNorm_sh [.int a, .int a1, .int b_, .int b_1]).map Prod.fst).getD []) κ = impl_ShortestNorm_body F0 F1 n a a1 b_ b_1 (fun v1 v2 => κ ⟨[.int .i64 v1, .int .i64 v2], []⟩) := by kernel_rfl
theorem impl_ShortestNorm_ev {α : Type} (n : Nat) (a : Int) (a1 : Int) (b_ : Int) (b_1 : Int) (κ : Res → Option α) : evFn Try.prog (impl_ShortestNorm_X n) Try.f42 (((buildDs impl_ShortestNorm_sh [.int a, .int a1, .int b_, .int b_1]).map Prod.fst).getD []) κ = impl_ShortestNorm_run n [.int a, .int a1, .int b_, .int b_1] κ := (impl_ShortestNorm_gen impl_ReducePair impl_Point_norm n a a1 b_ b_1 κ).trans (by kernel_rfl)
theorem impl_ShortestNorm_en (a : Int) (a1 : Int) (b_ : Int) (b_1 : Int) : (entry 0 (((buildDs impl_ShortestNorm_sh [.int a, .int a1, .int b_, .int b_1]).map Prod.fst).getD [])).map (fun x => (x.1.length, x.2.lent)) = some (2, []) := by kernel_rfl
theorem impl_ShortestNorm_good {α : Type} : ∀ n, GoodFn (α := α) Try.prog 42 (byShape impl_ShortestNorm_sh (impl_ShortestNorm_run n)) := by
  refine fn_good' Try.func42 (c := (Try.f42.body.getD .skip)) (by kernel_rfl) (by kernel_rfl) (by kernel_rfl) impl_ShortestNorm_C impl_ShortestNorm_M eqs impl_ShortestNorm_lps (fun n => tabC_good (List.forall_mem_cons.2 ⟨(impl_ReducePair_good n), (List.forall_mem_cons.2 ⟨(impl_Point_norm_good n), (fun _ h => absurd h List.not_mem_nil)⟩)⟩)) eqs_ok impl_ShortestNorm_Lt ?_ ?_ impl_ShortestNorm_sh impl_ShortestNorm_run ?_
  · exact (fun _ h => absurd h List.not_mem_nil)
  · exact (fun _ h => absurd h List.not_mem_nil)
  · intro n p κ r ds hd hr
    have hr0 := hr
    unfold impl_ShortestNorm_run impl_ShortestNorm_runG at hr
    split at hr
    · rw [← ds_of hd]
      exact ⟨en_of (impl_ShortestNorm_en _ _ _ _) ⟨rfl, rfl⟩, (impl_ShortestNorm_ev n _ _ _ _ κ).trans hr0⟩
    · cases hr

end Go.Proofs.Ytegnnbhphgeocaa
