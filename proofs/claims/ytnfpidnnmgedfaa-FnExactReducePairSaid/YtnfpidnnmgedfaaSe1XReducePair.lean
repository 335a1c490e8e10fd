/- The program's functions hold to their readings without memory: printed by a program of ours. -/
import Derived.Test.YtnfpidnnmgedfaaSeXReducePair
namespace Go.Proofs.Ytnfpidnnmgedfaa
open Go Go.Ev Go.Sh Go.Proofs

/-! loop.example/g01297/laws.toPoint -/
def laws_toPoint_sh : List SkD := [.agg [.int .i64, .int .i64]]
def laws_toPoint_runG {α : Type} (F : Nat → Int → Int → (Int → Int → Option α) → Option α) (n : Nat) (p : List P1) (κ : Res → Option α) : Option α := match p with
  | [.int a, .int a1] => F n a a1 (fun v1 v2 => κ ⟨[.agg [.int .i64 v1, .int .i64 v2]], []⟩)
  | _ => none
def laws_toPoint_run {α : Type} (n : Nat) (p : List P1) (κ : Res → Option α) : Option α := laws_toPoint_runG laws_toPoint n p κ
def laws_toPoint_CG {α : Type}  (n : Nat) : FuncId → List D → (Res → Option α) → Option α := tabC []
def laws_toPoint_C {α : Type} (n : Nat) : FuncId → List D → (Res → Option α) → Option α := laws_toPoint_CG n
def laws_toPoint_M : FuncId → List Nat := tabM []
def laws_toPoint_lpsG {α : Type}  : List (LoopT α) := []
def laws_toPoint_lps {α : Type} : List (LoopT α) := laws_toPoint_lpsG
def laws_toPoint_XG {α : Type}   (n : Nat) : Ctx α := ⟨laws_toPoint_CG n, laws_toPoint_M, eqs, lpOf (laws_toPoint_lpsG) n⟩
def laws_toPoint_X {α : Type} (n : Nat) : Ctx α := laws_toPoint_XG n
def laws_toPoint_Lt (np : Nat) (lent : List (Bool × Nat × Blk)) : Prop := np = 1 ∧ lent = []
def laws_toPoint_body {α : Type}   (k : Nat) (a : Int) (a1 : Int) (r0 : Int → Int → Option α) : Option α :=
  r0 a a1
theorem laws_toPoint_gen {α : Type}   (n : Nat) (a : Int) (a1 : Int) (κ : Res → Option α) : evFn Try.prog (laws_toPoint_XG n) Try.f19 (((buildDs laws_toPoint_sh [.int a, .int a1]).map Prod.fst).getD []) κ = laws_toPoint_body n a a1 (fun v1 v2 => κ ⟨[.agg [.int .i64 v1, .int .i64 v2]], []⟩) := by kernel_rfl
theorem laws_toPoint_ev {α : Type} (n : Nat) (a : Int) (a1 : Int) (κ : Res → Option α) : evFn Try.prog (laws_toPoint_X n) Try.f19 (((buildDs laws_toPoint_sh [.int a, .int a1]).map Prod.fst).getD []) κ = laws_toPoint_run n [.int a, .int a1] κ := (laws_toPoint_gen n a a1 κ).trans (by kernel_rfl)
theorem laws_toPoint_en (a : Int) (a1 : Int) : (entry 0 (((buildDs laws_toPoint_sh [.int a, .int a1]).map Prod.fst).getD [])).map (fun x => (x.1.length, x.2.lent)) = some (1, []) := by kernel_rfl
theorem laws_toPoint_good {α : Type} : ∀ n, GoodFn (α := α) Try.prog 19 (byShape laws_toPoint_sh (laws_toPoint_run n)) := by
  refine fn_good' Try.func19 (c := (Try.f19.body.getD .skip)) (by kernel_rfl) (by kernel_rfl) (by kernel_rfl) laws_toPoint_C laws_toPoint_M eqs laws_toPoint_lps (fun n => tabC_good (fun _ h => absurd h List.not_mem_nil)) eqs_ok laws_toPoint_Lt ?_ ?_ laws_toPoint_sh laws_toPoint_run ?_
  · exact (fun _ h => absurd h List.not_mem_nil)
  · exact (fun _ h => absurd h List.not_mem_nil)
  · intro n p κ r ds hd hr
    have hr0 := hr
    unfold laws_toPoint_run laws_toPoint_runG at hr
    split at hr
    · rw [← ds_of hd]
      exact ⟨en_of (laws_toPoint_en _ _) ⟨rfl, rfl⟩, (laws_toPoint_ev n _ _ κ).trans hr0⟩
    · cases hr

/-! loop.example/g01297/spec.l01In -/
def spec_l01In_sh : List SkD := [.int .i64, .int .i64, .int .i64]
def spec_l01In_runG {α : Type} (F : Nat → Int → Int → Int → (Bool → Option α) → Option α) (n : Nat) (p : List P1) (κ : Res → Option α) : Option α := match p with
  | [.int n_, .int low, .int high] => F n n_ low high (fun v1 => κ ⟨[.bool v1], []⟩)
  | _ => none
def spec_l01In_run {α : Type} (n : Nat) (p : List P1) (κ : Res → Option α) : Option α := spec_l01In_runG spec_l01In n p κ
def spec_l01In_CG {α : Type}  (n : Nat) : FuncId → List D → (Res → Option α) → Option α := tabC []
def spec_l01In_C {α : Type} (n : Nat) : FuncId → List D → (Res → Option α) → Option α := spec_l01In_CG n
def spec_l01In_M : FuncId → List Nat := tabM []
def spec_l01In_lpsG {α : Type}  : List (LoopT α) := []
def spec_l01In_lps {α : Type} : List (LoopT α) := spec_l01In_lpsG
def spec_l01In_XG {α : Type}   (n : Nat) : Ctx α := ⟨spec_l01In_CG n, spec_l01In_M, eqs, lpOf (spec_l01In_lpsG) n⟩
def spec_l01In_X {α : Type} (n : Nat) : Ctx α := spec_l01In_XG n
def spec_l01In_Lt (np : Nat) (lent : List (Bool × Nat × Blk)) : Prop := np = 3 ∧ lent = []
def spec_l01In_body {α : Type}   (k : Nat) (n_ : Int) (low : Int) (high : Int) (r0 : Bool → Option α) : Option α :=
  bif decide (low ≤ n_) then
    r0 (decide (n_ ≤ high))
  else
    r0 false
theorem spec_l01In_gen {α : Type}   (n : Nat) (n_ : Int) (low : Int) (high : Int) (κ : Res → Option α) : evFn Try.prog (spec_l01In_XG n) Try.f73 (((buildDs spec_l01In_sh [.int n_, .int low, .int high]).map Prod.fst).getD []) κ = spec_l01In_body n n_ low high (fun v1 => κ ⟨[.bool v1], []⟩) := by kernel_rfl
theorem spec_l01In_ev {α : Type} (n : Nat) (n_ : Int) (low : Int) (high : Int) (κ : Res → Option α) : evFn Try.prog (spec_l01In_X n) Try.f73 (((buildDs spec_l01In_sh [.int n_, .int low, .int high]).map Prod.fst).getD []) κ = spec_l01In_run n [.int n_, .int low, .int high] κ := (spec_l01In_gen n n_ low high κ).trans (by kernel_rfl)
theorem spec_l01In_en (n_ : Int) (low : Int) (high : Int) : (entry 0 (((buildDs spec_l01In_sh [.int n_, .int low, .int high]).map Prod.fst).getD [])).map (fun x => (x.1.length, x.2.lent)) = some (3, []) := by kernel_rfl
theorem spec_l01In_good {α : Type} : ∀ n, GoodFn (α := α) Try.prog 73 (byShape spec_l01In_sh (spec_l01In_run n)) := by
  refine fn_good' Try.func73 (c := (Try.f73.body.getD .skip)) (by kernel_rfl) (by kernel_rfl) (by kernel_rfl) spec_l01In_C spec_l01In_M eqs spec_l01In_lps (fun n => tabC_good (fun _ h => absurd h List.not_mem_nil)) eqs_ok spec_l01In_Lt ?_ ?_ spec_l01In_sh spec_l01In_run ?_
  · exact (fun _ h => absurd h List.not_mem_nil)
  · exact (fun _ h => absurd h List.not_mem_nil)
  · intro n p κ r ds hd hr
    have hr0 := hr
    unfold spec_l01In_run spec_l01In_runG at hr
    split at hr
    · rw [← ds_of hd]
      exact ⟨en_of (spec_l01In_en _ _ _) ⟨rfl, rfl⟩, (spec_l01In_ev n _ _ _ κ).trans hr0⟩
    · cases hr

/-! loop.example/g01297/spec.l01Fits -/
def spec_l01Fits_sh : List SkD := [.int .i64]
def spec_l01Fits_runG {α : Type} (F : Nat → Int → (Bool → Option α) → Option α) (n : Nat) (p : List P1) (κ : Res → Option α) : Option α := match p with
  | [.int x] => F n x (fun v1 => κ ⟨[.bool v1], []⟩)
  | _ => none
def spec_l01Fits_run {α : Type} (n : Nat) (p : List P1) (κ : Res → Option α) : Option α := spec_l01Fits_runG spec_l01Fits n p κ
def spec_l01Fits_CG {α : Type} (F0 : Nat → Int → Int → Int → (Bool → Option α) → Option α) (n : Nat) : FuncId → List D → (Res → Option α) → Option α := tabC [(73, (byShape spec_l01In_sh (spec_l01In_runG F0 n)))]
def spec_l01Fits_C {α : Type} (n : Nat) : FuncId → List D → (Res → Option α) → Option α := spec_l01Fits_CG spec_l01In n
def spec_l01Fits_M : FuncId → List Nat := tabM []
def spec_l01Fits_lpsG {α : Type}  : List (LoopT α) := []
def spec_l01Fits_lps {α : Type} : List (LoopT α) := spec_l01Fits_lpsG
def spec_l01Fits_XG {α : Type} (F0 : Nat → Int → Int → Int → (Bool → Option α) → Option α)  (n : Nat) : Ctx α := ⟨spec_l01Fits_CG F0 n, spec_l01Fits_M, eqs, lpOf (spec_l01Fits_lpsG) n⟩
def spec_l01Fits_X {α : Type} (n : Nat) : Ctx α := spec_l01Fits_XG spec_l01In n
def spec_l01Fits_Lt (np : Nat) (lent : List (Bool × Nat × Blk)) : Prop := np = 1 ∧ lent = []
def spec_l01Fits_body {α : Type} (F0 : Nat → Int → Int → Int → (Bool → Option α) → Option α)  (k : Nat) (x : Int) (r0 : Bool → Option α) : Option α :=
  F0 k x (-1000000) 1000000 fun v =>
  r0 v
theorem spec_l01Fits_gen {α : Type} (F0 : Nat → Int → Int → Int → (Bool → Option α) → Option α)  (n : Nat) (x : Int) (κ : Res → Option α) : evFn Try.prog (spec_l01Fits_XG F0 n) Try.f100 (((buildDs spec_l01Fits_sh [.int x]).map Prod.fst).getD []) κ = spec_l01Fits_body F0 n x (fun v1 => κ ⟨[.bool v1], []⟩) := by kernel_rfl
theorem spec_l01Fits_ev {α : Type} (n : Nat) (x : Int) (κ : Res → Option α) : evFn Try.prog (spec_l01Fits_X n) Try.f100 (((buildDs spec_l01Fits_sh [.int x]).map Prod.fst).getD []) κ = spec_l01Fits_run n [.int x] κ := (spec_l01Fits_gen spec_l01In n x κ).trans (by kernel_rfl)
theorem spec_l01Fits_en (x : Int) : (entry 0 (((buildDs spec_l01Fits_sh [.int x]).map Prod.fst).getD [])).map (fun x => (x.1.length, x.2.lent)) = some (1, []) := by kernel_rfl
theorem spec_l01Fits_good {α : Type} : ∀ n, GoodFn (α := α) Try.prog 100 (byShape spec_l01Fits_sh (spec_l01Fits_run n)) := by
  refine fn_good' Try.func100 (c := (Try.f100.body.getD .skip)) (by kernel_rfl) (by kernel_rfl) (by kernel_rfl) spec_l01Fits_C spec_l01Fits_M eqs spec_l01Fits_lps (fun n => tabC_good (List.forall_mem_cons.2 ⟨(spec_l01In_good n), (fun _ h => absurd h List.not_mem_nil)⟩)) eqs_ok spec_l01Fits_Lt ?_ ?_ spec_l01Fits_sh spec_l01Fits_run ?_
  · exact (fun _ h => absurd h List.not_mem_nil)
  · exact (fun _ h => absurd h List.not_mem_nil)
  · intro n p κ r ds hd hr
    have hr0 := hr
    unfold spec_l01Fits_run spec_l01Fits_runG at hr
    split at hr
    · rw [← ds_of hd]
      exact ⟨en_of (spec_l01Fits_en _) ⟨rfl, rfl⟩, (spec_l01Fits_ev n _ κ).trans hr0⟩
    · cases hr

/-! loop.example/g01297/spec.l01Is -/
def spec_l01Is_sh : List SkD := [.agg [.int .i64, .int .i64]]
def spec_l01Is_runG {α : Type} (F : Nat → Int → Int → (Bool → Option α) → Option α) (n : Nat) (p : List P1) (κ : Res → Option α) : Option α := match p with
  | [.int a, .int a1] => F n a a1 (fun v1 => κ ⟨[.bool v1], []⟩)
  | _ => none
def spec_l01Is_run {α : Type} (n : Nat) (p : List P1) (κ : Res → Option α) : Option α := spec_l01Is_runG spec_l01Is n p κ
def spec_l01Is_CG {α : Type} (F0 : Nat → Int → (Bool → Option α) → Option α) (n : Nat) : FuncId → List D → (Res → Option α) → Option α := tabC [(100, (byShape spec_l01Fits_sh (spec_l01Fits_runG F0 n)))]
def spec_l01Is_C {α : Type} (n : Nat) : FuncId → List D → (Res → Option α) → Option α := spec_l01Is_CG spec_l01Fits n
def spec_l01Is_M : FuncId → List Nat := tabM []
def spec_l01Is_lpsG {α : Type}  : List (LoopT α) := []
def spec_l01Is_lps {α : Type} : List (LoopT α) := spec_l01Is_lpsG
def spec_l01Is_XG {α : Type} (F0 : Nat → Int → (Bool → Option α) → Option α)  (n : Nat) : Ctx α := ⟨spec_l01Is_CG F0 n, spec_l01Is_M, eqs, lpOf (spec_l01Is_lpsG) n⟩
def spec_l01Is_X {α : Type} (n : Nat) : Ctx α := spec_l01Is_XG spec_l01Fits n
def spec_l01Is_Lt (np : Nat) (lent : List (Bool × Nat × Blk)) : Prop := np = 1 ∧ lent = []
def spec_l01Is_body {α : Type} (F0 : Nat → Int → (Bool → Option α) → Option α)  (k : Nat) (a : Int) (a1 : Int) (r0 : Bool → Option α) : Option α :=
  F0 k a fun v =>
  bif v then
    F0 k a1 fun v1 =>
    r0 v1
  else
    r0 false
theorem spec_l01Is_gen {α : Type} (F0 : Nat → Int → (Bool → Option α) → Option α)  (n : Nat) (a : Int) (a1 : Int) (κ : Res → Option α) : evFn Try.prog (spec_l01Is_XG F0 n) Try.f85 (((buildDs spec_l01Is_sh [.int a, .int a1]).map Prod.fst).getD []) κ = spec_l01Is_body F0 n a a1 (fun v1 => κ ⟨[.bool v1], []⟩) := by kernel_rfl
theorem spec_l01Is_ev {α : Type} (n : Nat) (a : Int) (a1 : Int) (κ : Res → Option α) : evFn Try.prog (spec_l01Is_X n) Try.f85 (((buildDs spec_l01Is_sh [.int a, .int a1]).map Prod.fst).getD []) κ = spec_l01Is_run n [.int a, .int a1] κ := (spec_l01Is_gen spec_l01Fits n a a1 κ).trans (by kernel_rfl)
theorem spec_l01Is_en (a : Int) (a1 : Int) : (entry 0 (((buildDs spec_l01Is_sh [.int a, .int a1]).map Prod.fst).getD [])).map (fun x => (x.1.length, x.2.lent)) = some (1, []) := by kernel_rfl
theorem spec_l01Is_good {α : Type} : ∀ n, GoodFn (α := α) Try.prog 85 (byShape spec_l01Is_sh (spec_l01Is_run n)) := by
  refine fn_good' Try.func85 (c := (Try.f85.body.getD .skip)) (by kernel_rfl) (by kernel_rfl) (by kernel_rfl) spec_l01Is_C spec_l01Is_M eqs spec_l01Is_lps (fun n => tabC_good (List.forall_mem_cons.2 ⟨(spec_l01Fits_good n), (fun _ h => absurd h List.not_mem_nil)⟩)) eqs_ok spec_l01Is_Lt ?_ ?_ spec_l01Is_sh spec_l01Is_run ?_
  · exact (fun _ h => absurd h List.not_mem_nil)
  · exact (fun _ h => absurd h List.not_mem_nil)
  · intro n p κ r ds hd hr
    have hr0 := hr
    unfold spec_l01Is_run spec_l01Is_runG at hr
    split at hr
    · rw [← ds_of hd]
      exact ⟨en_of (spec_l01Is_en _ _) ⟨rfl, rfl⟩, (spec_l01Is_ev n _ _ κ).trans hr0⟩
    · cases hr

/-! loop.example/g01297/spec.l01Det -/
def spec_l01Det_sh : List SkD := [.agg [.int .i64, .int .i64], .agg [.int .i64, .int .i64]]
def spec_l01Det_runG {α : Type} (F : Nat → Int → Int → Int → Int → (Int → Option α) → Option α) (n : Nat) (p : List P1) (κ : Res → Option α) : Option α := match p with
  | [.int a, .int a1, .int b_, .int b_1] => F n a a1 b_ b_1 (fun v1 => κ ⟨[.int .i64 v1], []⟩)
  | _ => none
def spec_l01Det_run {α : Type} (n : Nat) (p : List P1) (κ : Res → Option α) : Option α := spec_l01Det_runG spec_l01Det n p κ
def spec_l01Det_CG {α : Type}  (n : Nat) : FuncId → List D → (Res → Option α) → Option α := tabC []
def spec_l01Det_C {α : Type} (n : Nat) : FuncId → List D → (Res → Option α) → Option α := spec_l01Det_CG n
def spec_l01Det_M : FuncId → List Nat := tabM []
def spec_l01Det_lpsG {α : Type}  : List (LoopT α) := []
def spec_l01Det_lps {α : Type} : List (LoopT α) := spec_l01Det_lpsG
def spec_l01Det_XG {α : Type}   (n : Nat) : Ctx α := ⟨spec_l01Det_CG n, spec_l01Det_M, eqs, lpOf (spec_l01Det_lpsG) n⟩
def spec_l01Det_X {α : Type} (n : Nat) : Ctx α := spec_l01Det_XG n
def spec_l01Det_Lt (np : Nat) (lent : List (Bool × Nat × Blk)) : Prop := np = 2 ∧ lent = []
def spec_l01Det_body {α : Type}   (k : Nat) (a : Int) (a1 : Int) (b_ : Int) (b_1 : Int) (r0 : Int → Option α) : Option α :=
  r0 (w64 ((w64 (a * b_1)) - (w64 (a1 * b_))))
theorem spec_l01Det_gen {α : Type}   (n : Nat) (a : Int) (a1 : Int) (b_ : Int) (b_1 : Int) (κ : Res → Option α) : evFn Try.prog (spec_l01Det_XG n) Try.f109 (((buildDs spec_l01Det_sh [.int a, .int a1, .int b_, .int b_1]).map Prod.fst).getD []) κ = spec_l01Det_body n a a1 b_ b_1 (fun v1 => κ ⟨[.int .i64 v1], []⟩) := by kernel_rfl
theorem spec_l01Det_ev {α : Type} (n : Nat) (a : Int) (a1 : Int) (b_ : Int) (b_1 : Int) (κ : Res → Option α) : evFn Try.prog (spec_l01Det_X n) Try.f109 (((buildDs spec_l01Det_sh [.int a, .int a1, .int b_, .int b_1]).map Prod.fst).getD []) κ = spec_l01Det_run n [.int a, .int a1, .int b_, .int b_1] κ := (spec_l01Det_gen n a a1 b_ b_1 κ).trans (by kernel_rfl)
theorem spec_l01Det_en (a : Int) (a1 : Int) (b_ : Int) (b_1 : Int) : (entry 0 (((buildDs spec_l01Det_sh [.int a, .int a1, .int b_, .int b_1]).map Prod.fst).getD [])).map (fun x => (x.1.length, x.2.lent)) = some (2, []) := by kernel_rfl
theorem spec_l01Det_good {α : Type} : ∀ n, GoodFn (α := α) Try.prog 109 (byShape spec_l01Det_sh (spec_l01Det_run n)) := by
  refine fn_good' Try.func109 (c := (Try.f109.body.getD .skip)) (by kernel_rfl) (by kernel_rfl) (by kernel_rfl) spec_l01Det_C spec_l01Det_M eqs spec_l01Det_lps (fun n => tabC_good (fun _ h => absurd h List.not_mem_nil)) eqs_ok spec_l01Det_Lt ?_ ?_ spec_l01Det_sh spec_l01Det_run ?_
  · exact (fun _ h => absurd h List.not_mem_nil)
  · exact (fun _ h => absurd h List.not_mem_nil)
  · intro n p κ r ds hd hr
    have hr0 := hr
    unfold spec_l01Det_run spec_l01Det_runG at hr
    split at hr
    · rw [← ds_of hd]
      exact ⟨en_of (spec_l01Det_en _ _ _ _) ⟨rfl, rfl⟩, (spec_l01Det_ev n _ _ _ _ κ).trans hr0⟩
    · cases hr

/-! loop.example/g01297/spec.l10Pair -/
def spec_l10Pair_sh : List SkD := [.agg [.int .i64, .int .i64], .agg [.int .i64, .int .i64]]
def spec_l10Pair_runG {α : Type} (F : Nat → Int → Int → Int → Int → (Int → Option α) → Option α) (n : Nat) (p : List P1) (κ : Res → Option α) : Option α := match p with
  | [.int a, .int a1, .int b_, .int b_1] => F n a a1 b_ b_1 (fun v1 => κ ⟨[.int .i64 v1], []⟩)
  | _ => none
def spec_l10Pair_run {α : Type} (n : Nat) (p : List P1) (κ : Res → Option α) : Option α := spec_l10Pair_runG spec_l10Pair n p κ
def spec_l10Pair_CG {α : Type} (F0 : Nat → Int → Int → (Bool → Option α) → Option α) (F1 : Nat → Int → Int → Int → Int → (Int → Option α) → Option α) (n : Nat) : FuncId → List D → (Res → Option α) → Option α := tabC [(85, (byShape spec_l01Is_sh (spec_l01Is_runG F0 n))), (109, (byShape spec_l01Det_sh (spec_l01Det_runG F1 n)))]
def spec_l10Pair_C {α : Type} (n : Nat) : FuncId → List D → (Res → Option α) → Option α := spec_l10Pair_CG spec_l01Is spec_l01Det n
def spec_l10Pair_M : FuncId → List Nat := tabM []
def spec_l10Pair_lpsG {α : Type}  : List (LoopT α) := []
def spec_l10Pair_lps {α : Type} : List (LoopT α) := spec_l10Pair_lpsG
def spec_l10Pair_XG {α : Type} (F0 : Nat → Int → Int → (Bool → Option α) → Option α) (F1 : Nat → Int → Int → Int → Int → (Int → Option α) → Option α)  (n : Nat) : Ctx α := ⟨spec_l10Pair_CG F0 F1 n, spec_l10Pair_M, eqs, lpOf (spec_l10Pair_lpsG) n⟩
def spec_l10Pair_X {α : Type} (n : Nat) : Ctx α := spec_l10Pair_XG spec_l01Is spec_l01Det n
def spec_l10Pair_Lt (np : Nat) (lent : List (Bool × Nat × Blk)) : Prop := np = 2 ∧ lent = []
def spec_l10Pair_body {α : Type} (F0 : Nat → Int → Int → (Bool → Option α) → Option α) (F1 : Nat → Int → Int → Int → Int → (Int → Option α) → Option α)  (k : Nat) (a : Int) (a1 : Int) (b_ : Int) (b_1 : Int) (r0 : Int → Option α) : Option α :=
  F0 k a a1 fun v =>
  bif (!v) then
    r0 1
  else
    F0 k b_ b_1 fun v1 =>
    bif (!v1) then
      r0 1
    else
      F1 k a a1 b_ b_1 fun v2 =>
      bif decide (v2 = 0) then
        r0 5
      else
        r0 0
theorem spec_l10Pair_gen {α : Type} (F0 : Nat → Int → Int → (Bool → Option α) → Option α) (F1 : Nat → Int → Int → Int → Int → (Int → Option α) → Option α)  (n : Nat) (a : Int) (a1 : Int) (b_ : Int) (b_1 : Int) (κ : Res → Option α) : evFn Try.prog (spec_l10Pair_XG F0 F1 n) Try.f59 (((buildDs spec_l10Pair_sh [.int a, .int a1, .int b_, .int b_1]).map Prod.fst).getD []) κ = spec_l10Pair_body F0 F1 n a a1 b_ b_1 (fun v1 => κ ⟨[.int .i64 v1], []⟩) := by kernel_rfl
theorem spec_l10Pair_ev {α : Type} (n : Nat) (a : Int) (a1 : Int) (b_ : Int) (b_1 : Int) (κ : Res → Option α) : evFn Try.prog (spec_l10Pair_X n) Try.f59 (((buildDs spec_l10Pair_sh [.int a, .int a1, .int b_, .int b_1]).map Prod.fst).getD []) κ = spec_l10Pair_run n [.int a, .int a1, .int b_, .int b_1] κ := (spec_l10Pair_gen spec_l01Is spec_l01Det n a a1 b_ b_1 κ).trans (by kernel_rfl)
theorem spec_l10Pair_en (a : Int) (a1 : Int) (b_ : Int) (b_1 : Int) : (entry 0 (((buildDs spec_l10Pair_sh [.int a, .int a1, .int b_, .int b_1]).map Prod.fst).getD [])).map (fun x => (x.1.length, x.2.lent)) = some (2, []) := by kernel_rfl
theorem spec_l10Pair_good {α : Type} : ∀ n, GoodFn (α := α) Try.prog 59 (byShape spec_l10Pair_sh (spec_l10Pair_run n)) := by
  refine fn_good' Try.func59 (c := (Try.f59.body.getD .skip)) (by kernel_rfl) (by kernel_rfl) (by kernel_rfl) spec_l10Pair_C spec_l10Pair_M eqs spec_l10Pair_lps (fun n => tabC_good (List.forall_mem_cons.2 ⟨(spec_l01Is_good n), (List.forall_mem_cons.2 ⟨(spec_l01Det_good n), (fun _ h => absurd h List.not_mem_nil)⟩)⟩)) eqs_ok spec_l10Pair_Lt ?_ ?_ spec_l10Pair_sh spec_l10Pair_run ?_
  · exact (fun _ h => absurd h List.not_mem_nil)
  · exact (fun _ h => absurd h List.not_mem_nil)
  · intro n p κ r ds hd hr
    have hr0 := hr
    unfold spec_l10Pair_run spec_l10Pair_runG at hr
    split at hr
    · rw [← ds_of hd]
      exact ⟨en_of (spec_l10Pair_en _ _ _ _) ⟨rfl, rfl⟩, (spec_l10Pair_ev n _ _ _ _ κ).trans hr0⟩
    · cases hr

/-! loop.example/g01297/spec.l10Dot -/
def spec_l10Dot_sh : List SkD := [.agg [.int .i64, .int .i64], .agg [.int .i64, .int .i64]]
def spec_l10Dot_runG {α : Type} (F : Nat → Int → Int → Int → Int → (Int → Option α) → Option α) (n : Nat) (p : List P1) (κ : Res → Option α) : Option α := match p with
  | [.int a, .int a1, .int b_, .int b_1] => F n a a1 b_ b_1 (fun v1 => κ ⟨[.int .i64 v1], []⟩)
  | _ => none
def spec_l10Dot_run {α : Type} (n : Nat) (p : List P1) (κ : Res → Option α) : Option α := spec_l10Dot_runG spec_l10Dot n p κ
def spec_l10Dot_CG {α : Type}  (n : Nat) : FuncId → List D → (Res → Option α) → Option α := tabC []
def spec_l10Dot_C {α : Type} (n : Nat) : FuncId → List D → (Res → Option α) → Option α := spec_l10Dot_CG n
def spec_l10Dot_M : FuncId → List Nat := tabM []
def spec_l10Dot_lpsG {α : Type}  : List (LoopT α) := []
def spec_l10Dot_lps {α : Type} : List (LoopT α) := spec_l10Dot_lpsG
def spec_l10Dot_XG {α : Type}   (n : Nat) : Ctx α := ⟨spec_l10Dot_CG n, spec_l10Dot_M, eqs, lpOf (spec_l10Dot_lpsG) n⟩
def spec_l10Dot_X {α : Type} (n : Nat) : Ctx α := spec_l10Dot_XG n
def spec_l10Dot_Lt (np : Nat) (lent : List (Bool × Nat × Blk)) : Prop := np = 2 ∧ lent = []
def spec_l10Dot_body {α : Type}   (k : Nat) (a : Int) (a1 : Int) (b_ : Int) (b_1 : Int) (r0 : Int → Option α) : Option α :=
  r0 (w64 ((w64 (a * b_)) + (w64 (a1 * b_1))))
theorem spec_l10Dot_gen {α : Type}   (n : Nat) (a : Int) (a1 : Int) (b_ : Int) (b_1 : Int) (κ : Res → Option α) : evFn Try.prog (spec_l10Dot_XG n) Try.f111 (((buildDs spec_l10Dot_sh [.int a, .int a1, .int b_, .int b_1]).map Prod.fst).getD []) κ = spec_l10Dot_body n a a1 b_ b_1 (fun v1 => κ ⟨[.int .i64 v1], []⟩) := by kernel_rfl
theorem spec_l10Dot_ev {α : Type} (n : Nat) (a : Int) (a1 : Int) (b_ : Int) (b_1 : Int) (κ : Res → Option α) : evFn Try.prog (spec_l10Dot_X n) Try.f111 (((buildDs spec_l10Dot_sh [.int a, .int a1, .int b_, .int b_1]).map Prod.fst).getD []) κ = spec_l10Dot_run n [.int a, .int a1, .int b_, .int b_1] κ := (spec_l10Dot_gen n a a1 b_ b_1 κ).trans (by kernel_rfl)
theorem spec_l10Dot_en (a : Int) (a1 : Int) (b_ : Int) (b_1 : Int) : (entry 0 (((buildDs spec_l10Dot_sh [.int a, .int a1, .int b_, .int b_1]).map Prod.fst).getD [])).map (fun x => (x.1.length, x.2.lent)) = some (2, []) := by kernel_rfl
theorem spec_l10Dot_good {α : Type} : ∀ n, GoodFn (α := α) Try.prog 111 (byShape spec_l10Dot_sh (spec_l10Dot_run n)) := by
  refine fn_good' Try.func111 (c := (Try.f111.body.getD .skip)) (by kernel_rfl) (by kernel_rfl) (by kernel_rfl) spec_l10Dot_C spec_l10Dot_M eqs spec_l10Dot_lps (fun n => tabC_good (fun _ h => absurd h List.not_mem_nil)) eqs_ok spec_l10Dot_Lt ?_ ?_ spec_l10Dot_sh spec_l10Dot_run ?_
  · exact (fun _ h => absurd h List.not_mem_nil)
  · exact (fun _ h => absurd h List.not_mem_nil)
  · intro n p κ r ds hd hr
    have hr0 := hr
    unfold spec_l10Dot_run spec_l10Dot_runG at hr
    split at hr
    · rw [← ds_of hd]
      exact ⟨en_of (spec_l10Dot_en _ _ _ _) ⟨rfl, rfl⟩, (spec_l10Dot_ev n _ _ _ _ κ).trans hr0⟩
    · cases hr

/-! loop.example/g01297/spec.l10Reduced -/
def spec_l10Reduced_sh : List SkD := [.agg [.int .i64, .int .i64], .agg [.int .i64, .int .i64]]
def spec_l10Reduced_runG {α : Type} (F : Nat → Int → Int → Int → Int → (Bool → Option α) → Option α) (n : Nat) (p : List P1) (κ : Res → Option α) : Option α := match p with
  | [.int a, .int a1, .int b_, .int b_1] => F n a a1 b_ b_1 (fun v1 => κ ⟨[.bool v1], []⟩)
  | _ => none
def spec_l10Reduced_run {α : Type} (n : Nat) (p : List P1) (κ : Res → Option α) : Option α := spec_l10Reduced_runG spec_l10Reduced n p κ
def spec_l10Reduced_CG {α : Type} (F0 : Nat → Int → Int → Int → Int → (Int → Option α) → Option α) (n : Nat) : FuncId → List D → (Res → Option α) → Option α := tabC [(111, (byShape spec_l10Dot_sh (spec_l10Dot_runG F0 n)))]
def spec_l10Reduced_C {α : Type} (n : Nat) : FuncId → List D → (Res → Option α) → Option α := spec_l10Reduced_CG spec_l10Dot n
def spec_l10Reduced_M : FuncId → List Nat := tabM []
def spec_l10Reduced_lpsG {α : Type}  : List (LoopT α) := []
def spec_l10Reduced_lps {α : Type} : List (LoopT α) := spec_l10Reduced_lpsG
def spec_l10Reduced_XG {α : Type} (F0 : Nat → Int → Int → Int → Int → (Int → Option α) → Option α)  (n : Nat) : Ctx α := ⟨spec_l10Reduced_CG F0 n, spec_l10Reduced_M, eqs, lpOf (spec_l10Reduced_lpsG) n⟩
def spec_l10Reduced_X {α : Type} (n : Nat) : Ctx α := spec_l10Reduced_XG spec_l10Dot n
def spec_l10Reduced_Lt (np : Nat) (lent : List (Bool × Nat × Blk)) : Prop := np = 2 ∧ lent = []
def spec_l10Reduced_body {α : Type} (F0 : Nat → Int → Int → Int → Int → (Int → Option α) → Option α)  (k : Nat) (a : Int) (a1 : Int) (b_ : Int) (b_1 : Int) (r0 : Bool → Option α) : Option α :=
  F0 k a a1 b_ b_1 fun v =>
  F0 k a a1 a a1 fun v1 =>
  F0 k b_ b_1 b_ b_1 fun v2 =>
  bif decide (v1 ≤ v2) then
    F0 k a a1 a a1 fun v3 =>
    r0 (decide ((max (w64 (2 * v)) (w64 (0 - (w64 (2 * v))))) ≤ v3))
  else
    r0 false
theorem spec_l10Reduced_gen {α : Type} (F0 : Nat → Int → Int → Int → Int → (Int → Option α) → Option α)  (n : Nat) (a : Int) (a1 : Int) (b_ : Int) (b_1 : Int) (κ : Res → Option α) : evFn Try.prog (spec_l10Reduced_XG F0 n) Try.f110 (((buildDs spec_l10Reduced_sh [.int a, .int a1, .int b_, .int b_1]).map Prod.fst).getD []) κ = spec_l10Reduced_body F0 n a a1 b_ b_1 (fun v1 => κ ⟨[.bool v1], []⟩) := by kernel_rfl
theorem spec_l10Reduced_ev {α : Type} (n : Nat) (a : Int) (a1 : Int) (b_ : Int) (b_1 : Int) (κ : Res → Option α) : evFn Try.prog (spec_l10Reduced_X n) Try.f110 (((buildDs spec_l10Reduced_sh [.int a, .int a1, .int b_, .int b_1]).map Prod.fst).getD []) κ = spec_l10Reduced_run n [.int a, .int a1, .int b_, .int b_1] κ := (spec_l10Reduced_gen spec_l10Dot n a a1 b_ b_1 κ).trans (by kernel_rfl)
theorem spec_l10Reduced_en (a : Int) (a1 : Int) (b_ : Int) (b_1 : Int) : (entry 0 (((buildDs spec_l10Reduced_sh [.int a, .int a1, .int b_, .int b_1]).map Prod.fst).getD [])).map (fun x => (x.1.length, x.2.lent)) = some (2, []) := by kernel_rfl
theorem spec_l10Reduced_good {α : Type} : ∀ n, GoodFn (α := α) Try.prog 110 (byShape spec_l10Reduced_sh (spec_l10Reduced_run n)) := by
  refine fn_good' Try.func110 (c := (Try.f110.body.getD .skip)) (by kernel_rfl) (by kernel_rfl) (by kernel_rfl) spec_l10Reduced_C spec_l10Reduced_M eqs spec_l10Reduced_lps (fun n => tabC_good (List.forall_mem_cons.2 ⟨(spec_l10Dot_good n), (fun _ h => absurd h List.not_mem_nil)⟩)) eqs_ok spec_l10Reduced_Lt ?_ ?_ spec_l10Reduced_sh spec_l10Reduced_run ?_
  · exact (fun _ h => absurd h List.not_mem_nil)
  · exact (fun _ h => absurd h List.not_mem_nil)
  · intro n p κ r ds hd hr
    have hr0 := hr
    unfold spec_l10Reduced_run spec_l10Reduced_runG at hr
    split at hr
    · rw [← ds_of hd]
      exact ⟨en_of (spec_l10Reduced_en _ _ _ _) ⟨rfl, rfl⟩, (spec_l10Reduced_ev n _ _ _ _ κ).trans hr0⟩
    · cases hr

/-! loop.example/g01297/spec.l01Floor -/
def spec_l01Floor_sh : List SkD := [.int .i64, .int .i64]
def spec_l01Floor_runG {α : Type} (F : Nat → Int → Int → (Int → Option α) → Option α) (n : Nat) (p : List P1) (κ : Res → Option α) : Option α := match p with
  | [.int p_, .int q_] => F n p_ q_ (fun v1 => κ ⟨[.int .i64 v1], []⟩)
  | _ => none
def spec_l01Floor_run {α : Type} (n : Nat) (p : List P1) (κ : Res → Option α) : Option α := spec_l01Floor_runG spec_l01Floor n p κ
def spec_l01Floor_CG {α : Type}  (n : Nat) : FuncId → List D → (Res → Option α) → Option α := tabC []
def spec_l01Floor_C {α : Type} (n : Nat) : FuncId → List D → (Res → Option α) → Option α := spec_l01Floor_CG n
def spec_l01Floor_M : FuncId → List Nat := tabM []
def spec_l01Floor_lpsG {α : Type}  : List (LoopT α) := []
def spec_l01Floor_lps {α : Type} : List (LoopT α) := spec_l01Floor_lpsG
def spec_l01Floor_XG {α : Type}   (n : Nat) : Ctx α := ⟨spec_l01Floor_CG n, spec_l01Floor_M, eqs, lpOf (spec_l01Floor_lpsG) n⟩
def spec_l01Floor_X {α : Type} (n : Nat) : Ctx α := spec_l01Floor_XG n
def spec_l01Floor_Lt (np : Nat) (lent : List (Bool × Nat × Blk)) : Prop := np = 2 ∧ lent = []
def spec_l01Floor_body {α : Type}   (k : Nat) (p_ : Int) (q_ : Int) (r0 : Int → Option α) : Option α :=
  bif decide (q_ = 0) then
    none
  else
  bif decide (q_ = 0) then
    none
  else
  bif (!decide ((Int.tmod p_ q_) = 0)) then
    bif (!(decide (p_ < 0) == decide (q_ < 0))) then
      r0 (w64 ((w64 (Int.tdiv p_ q_)) - 1))
    else
      r0 (w64 (Int.tdiv p_ q_))
  else
    r0 (w64 (Int.tdiv p_ q_))
theorem spec_l01Floor_gen {α : Type}   (n : Nat) (p_ : Int) (q_ : Int) (κ : Res → Option α) : evFn Try.prog (spec_l01Floor_XG n) Try.f113 (((buildDs spec_l01Floor_sh [.int p_, .int q_]).map Prod.fst).getD []) κ = spec_l01Floor_body n p_ q_ (fun v1 => κ ⟨[.int .i64 v1], []⟩) := by kernel_rfl
theorem spec_l01Floor_ev {α : Type} (n : Nat) (p_ : Int) (q_ : Int) (κ : Res → Option α) : evFn Try.prog (spec_l01Floor_X n) Try.f113 (((buildDs spec_l01Floor_sh [.int p_, .int q_]).map Prod.fst).getD []) κ = spec_l01Floor_run n [.int p_, .int q_] κ := (spec_l01Floor_gen n p_ q_ κ).trans (by kernel_rfl)
theorem spec_l01Floor_en (p_ : Int) (q_ : Int) : (entry 0 (((buildDs spec_l01Floor_sh [.int p_, .int q_]).map Prod.fst).getD [])).map (fun x => (x.1.length, x.2.lent)) = some (2, []) := by kernel_rfl
theorem spec_l01Floor_good {α : Type} : ∀ n, GoodFn (α := α) Try.prog 113 (byShape spec_l01Floor_sh (spec_l01Floor_run n)) := by
  refine fn_good' Try.func113 (c := (Try.f113.body.getD .skip)) (by kernel_rfl) (by kernel_rfl) (by kernel_rfl) spec_l01Floor_C spec_l01Floor_M eqs spec_l01Floor_lps (fun n => tabC_good (fun _ h => absurd h List.not_mem_nil)) eqs_ok spec_l01Floor_Lt ?_ ?_ spec_l01Floor_sh spec_l01Floor_run ?_
  · exact (fun _ h => absurd h List.not_mem_nil)
  · exact (fun _ h => absurd h List.not_mem_nil)
  · intro n p κ r ds hd hr
    have hr0 := hr
    unfold spec_l01Floor_run spec_l01Floor_runG at hr
    split at hr
    · rw [← ds_of hd]
      exact ⟨en_of (spec_l01Floor_en _ _) ⟨rfl, rfl⟩, (spec_l01Floor_ev n _ _ κ).trans hr0⟩
    · cases hr

/-! loop.example/g01297/spec.l01Plus -/
def spec_l01Plus_sh : List SkD := [.agg [.int .i64, .int .i64], .agg [.int .i64, .int .i64], .int .i64]
def spec_l01Plus_runG {α : Type} (F : Nat → Int → Int → Int → Int → Int → (Int → Int → Option α) → Option α) (n : Nat) (p : List P1) (κ : Res → Option α) : Option α := match p with
  | [.int a, .int a1, .int b_, .int b_1, .int k_] => F n a a1 b_ b_1 k_ (fun v1 v2 => κ ⟨[.agg [.int .i64 v1, .int .i64 v2]], []⟩)
  | _ => none
def spec_l01Plus_run {α : Type} (n : Nat) (p : List P1) (κ : Res → Option α) : Option α := spec_l01Plus_runG spec_l01Plus n p κ
def spec_l01Plus_CG {α : Type}  (n : Nat) : FuncId → List D → (Res → Option α) → Option α := tabC []
def spec_l01Plus_C {α : Type} (n : Nat) : FuncId → List D → (Res → Option α) → Option α := spec_l01Plus_CG n
def spec_l01Plus_M : FuncId → List Nat := tabM []
def spec_l01Plus_lpsG {α : Type}  : List (LoopT α) := []
def spec_l01Plus_lps {α : Type} : List (LoopT α) := spec_l01Plus_lpsG
def spec_l01Plus_XG {α : Type}   (n : Nat) : Ctx α := ⟨spec_l01Plus_CG n, spec_l01Plus_M, eqs, lpOf (spec_l01Plus_lpsG) n⟩
def spec_l01Plus_X {α : Type} (n : Nat) : Ctx α := spec_l01Plus_XG n
def spec_l01Plus_Lt (np : Nat) (lent : List (Bool × Nat × Blk)) : Prop := np = 3 ∧ lent = []
def spec_l01Plus_body {α : Type}   (k : Nat) (a : Int) (a1 : Int) (b_ : Int) (b_1 : Int) (k_ : Int) (r0 : Int → Int → Option α) : Option α :=
  r0 (w64 (a + (w64 (k_ * b_)))) (w64 (a1 + (w64 (k_ * b_1))))
theorem spec_l01Plus_gen {α : Type}   (n : Nat) (a : Int) (a1 : Int) (b_ : Int) (b_1 : Int) (k_ : Int) (κ : Res → Option α) : evFn Try.prog (spec_l01Plus_XG n) Try.f112 (((buildDs spec_l01Plus_sh [.int a, .int a1, .int b_, .int b_1, .int k_]).map Prod.fst).getD []) κ = spec_l01Plus_body n a a1 b_ b_1 k_ (fun v1 v2 => κ ⟨[.agg [.int .i64 v1, .int .i64 v2]], []⟩) := by kernel_rfl
theorem spec_l01Plus_ev {α : Type} (n : Nat) (a : Int) (a1 : Int) (b_ : Int) (b_1 : Int) (k_ : Int) (κ : Res → Option α) : evFn Try.prog (spec_l01Plus_X n) Try.f112 (((buildDs spec_l01Plus_sh [.int a, .int a1, .int b_, .int b_1, .int k_]).map Prod.fst).getD []) κ = spec_l01Plus_run n [.int a, .int a1, .int b_, .int b_1, .int k_] κ := (spec_l01Plus_gen n a a1 b_ b_1 k_ κ).trans (by kernel_rfl)
theorem spec_l01Plus_en (a : Int) (a1 : Int) (b_ : Int) (b_1 : Int) (k_ : Int) : (entry 0 (((buildDs spec_l01Plus_sh [.int a, .int a1, .int b_, .int b_1, .int k_]).map Prod.fst).getD [])).map (fun x => (x.1.length, x.2.lent)) = some (3, []) := by kernel_rfl
theorem spec_l01Plus_good {α : Type} : ∀ n, GoodFn (α := α) Try.prog 112 (byShape spec_l01Plus_sh (spec_l01Plus_run n)) := by
  refine fn_good' Try.func112 (c := (Try.f112.body.getD .skip)) (by kernel_rfl) (by kernel_rfl) (by kernel_rfl) spec_l01Plus_C spec_l01Plus_M eqs spec_l01Plus_lps (fun n => tabC_good (fun _ h => absurd h List.not_mem_nil)) eqs_ok spec_l01Plus_Lt ?_ ?_ spec_l01Plus_sh spec_l01Plus_run ?_
  · exact (fun _ h => absurd h List.not_mem_nil)
  · exact (fun _ h => absurd h List.not_mem_nil)
  · intro n p κ r ds hd hr
    have hr0 := hr
    unfold spec_l01Plus_run spec_l01Plus_runG at hr
    split at hr
    · rw [← ds_of hd]
      exact ⟨en_of (spec_l01Plus_en _ _ _ _ _) ⟨rfl, rfl⟩, (spec_l01Plus_ev n _ _ _ _ _ κ).trans hr0⟩
    · cases hr

/-! loop.example/g01297/spec.l10Reduce -/
def spec_l10Reduce_sh : List SkD := [.agg [.int .i64, .int .i64], .agg [.int .i64, .int .i64]]
def spec_l10Reduce_runG {α : Type} (F : Nat → Int → Int → Int → Int → (Int → Int → Int → Int → Option α) → Option α) (n : Nat) (p : List P1) (κ : Res → Option α) : Option α := match p with
  | [.int a, .int a1, .int b_, .int b_1] => F n a a1 b_ b_1 (fun v1 v2 v3 v4 => κ ⟨[.agg [.int .i64 v1, .int .i64 v2], .agg [.int .i64 v3, .int .i64 v4]], []⟩)
  | _ => none
def spec_l10Reduce_run {α : Type} (n : Nat) (p : List P1) (κ : Res → Option α) : Option α := spec_l10Reduce_runG spec_l10Reduce n p κ
def spec_l10Reduce_CG {α : Type} (F0 : Nat → Int → Int → Int → Int → (Bool → Option α) → Option α) (F1 : Nat → Int → Int → Int → Int → (Int → Option α) → Option α) (F2 : Nat → Int → Int → (Int → Option α) → Option α) (F3 : Nat → Int → Int → Int → Int → Int → (Int → Int → Option α) → Option α) (n : Nat) : FuncId → List D → (Res → Option α) → Option α := tabC [(110, (byShape spec_l10Reduced_sh (spec_l10Reduced_runG F0 n))), (111, (byShape spec_l10Dot_sh (spec_l10Dot_runG F1 n))), (113, (byShape spec_l01Floor_sh (spec_l01Floor_runG F2 n))), (112, (byShape spec_l01Plus_sh (spec_l01Plus_runG F3 n)))]
def spec_l10Reduce_C {α : Type} (n : Nat) : FuncId → List D → (Res → Option α) → Option α := spec_l10Reduce_CG spec_l10Reduced spec_l10Dot spec_l01Floor spec_l01Plus n
def spec_l10Reduce_M : FuncId → List Nat := tabM []
def spec_l10Reduce_t1 : Tpl := ⟨[.any, .any, .ptr 128 0 0, .ptr 192 0 0, .ptr 256 0 0, .ptr 320 0 0, .any, .any, .any, .any, .any, .any, .any, .any, .any, .any, .any, .any, .any, .any, .any, .any, .any, .any, .any, .any, .any, .any, .any, .any, .any, .any, .any, .any, .any, .any, .any, .any, .any, .any], [(128, .ints 2 33 .i64 2), (192, .ints 2 33 .i64 2), (256, .ints 2 33 .i64 2), (320, .ints 2 33 .i64 2)], []⟩
def spec_l10Reduce_uG1 {α : Type} (G : Nat → Int → Int → Int → Int → Int → Int → Int → Int → (Int → Int → Int → Int → Int → Int → Int → Int → Option α) → (Int → Int → Int → Int → Option α) → Option α) (n : Nat) (p : List P1) (brk : Nat → List P1 → Option α) (ret : Res → Option α) : Option α := match p with
  | [.int a2, .int a3, .int b_2, .int b_3, .int x, .int x1, .int x2, .int x3] => G n a2 a3 b_2 b_3 x x1 x2 x3 (fun a2 a3 b_2 b_3 x x1 x2 x3 => brk 0 [.int a2, .int a3, .int b_2, .int b_3, .int x, .int x1, .int x2, .int x3]) (fun v1 v2 v3 v4 => ret ⟨[.agg [.int .i64 v1, .int .i64 v2], .agg [.int .i64 v3, .int .i64 v4]], []⟩)
  | _ => none
def spec_l10Reduce_u1 {α : Type} (n : Nat) (p : List P1) (brk : Nat → List P1 → Option α) (ret : Res → Option α) : Option α := spec_l10Reduce_uG1 spec_l10Reduce_l1 n p brk ret
def spec_l10Reduce_lpsG {α : Type} (G1 : Nat → Int → Int → Int → Int → Int → Int → Int → Int → (Int → Int → Int → Int → Int → Int → Int → Int → Option α) → (Int → Int → Int → Int → Option α) → Option α) : List (LoopT α) := [⟨1, spec_l10Reduce_t1, spec_l10Reduce_uG1 G1⟩]
def spec_l10Reduce_lps {α : Type} : List (LoopT α) := spec_l10Reduce_lpsG spec_l10Reduce_l1
def spec_l10Reduce_XG {α : Type} (F0 : Nat → Int → Int → Int → Int → (Bool → Option α) → Option α) (F1 : Nat → Int → Int → Int → Int → (Int → Option α) → Option α) (F2 : Nat → Int → Int → (Int → Option α) → Option α) (F3 : Nat → Int → Int → Int → Int → Int → (Int → Int → Option α) → Option α) (G1 : Nat → Int → Int → Int → Int → Int → Int → Int → Int → (Int → Int → Int → Int → Int → Int → Int → Int → Option α) → (Int → Int → Int → Int → Option α) → Option α) (n : Nat) : Ctx α := ⟨spec_l10Reduce_CG F0 F1 F2 F3 n, spec_l10Reduce_M, eqs, lpOf (spec_l10Reduce_lpsG G1) n⟩
def spec_l10Reduce_X {α : Type} (n : Nat) : Ctx α := spec_l10Reduce_XG spec_l10Reduced spec_l10Dot spec_l01Floor spec_l01Plus spec_l10Reduce_l1 n
def spec_l10Reduce_Lt (np : Nat) (lent : List (Bool × Nat × Blk)) : Prop := np = 2 ∧ lent = []
def spec_l10Reduce_lb1 {α : Type} (F0 : Nat → Int → Int → Int → Int → (Bool → Option α) → Option α) (F1 : Nat → Int → Int → Int → Int → (Int → Option α) → Option α) (F2 : Nat → Int → Int → (Int → Option α) → Option α) (F3 : Nat → Int → Int → Int → Int → Int → (Int → Int → Option α) → Option α) (G1 : Nat → Int → Int → Int → Int → Int → Int → Int → Int → (Int → Int → Int → Int → Int → Int → Int → Int → Option α) → (Int → Int → Int → Int → Option α) → Option α) (k : Nat) (a2 : Int) (a3 : Int) (b_2 : Int) (b_3 : Int) (x : Int) (x1 : Int) (x2 : Int) (x3 : Int) (b0 : Int → Int → Int → Int → Int → Int → Int → Int → Option α) (r0 : Int → Int → Int → Int → Option α) : Option α :=
  F0 k a2 a3 b_2 b_3 fun v =>
  bif (!v) then
    F1 k a2 a3 a2 a3 fun v1 =>
    F1 k b_2 b_3 b_2 b_3 fun v2 =>
    bif decide (v2 < v1) then
      G1 k b_2 b_3 a2 a3 x x1 x2 x3 b0 r0
    else
      F1 k a2 a3 a2 a3 fun v3 =>
      F1 k a2 a3 b_2 b_3 fun v4 =>
      F2 k (w64 ((w64 (2 * v4)) + v3)) (w64 (2 * v3)) fun v5 =>
      F3 k b_2 b_3 a2 a3 (w64 (0 - v5)) fun v6 v7 =>
      G1 k a2 a3 v6 v7 x x1 x2 x3 b0 r0
  else
    b0 a2 a3 b_2 b_3 x x1 x2 x3
theorem spec_l10Reduce_l1_gen {α : Type} (F0 : Nat → Int → Int → Int → Int → (Bool → Option α) → Option α) (F1 : Nat → Int → Int → Int → Int → (Int → Option α) → Option α) (F2 : Nat → Int → Int → (Int → Option α) → Option α) (F3 : Nat → Int → Int → Int → Int → Int → (Int → Int → Option α) → Option α) (G1 : Nat → Int → Int → Int → Int → Int → Int → Int → Int → (Int → Int → Int → Int → Int → Int → Int → Int → Option α) → (Int → Int → Int → Int → Option α) → Option α) (n : Nat) (a2 : Int) (a3 : Int) (b_2 : Int) (b_3 : Int) (x : Int) (x1 : Int) (x2 : Int) (x3 : Int) (brk : Nat → List P1 → Option α) (ret : Res → Option α) : ev ((spec_l10Reduce_XG F0 F1 F2 F3 G1 n).env Try.prog Try.f60 2 []) (findLoop (loopsIn (Try.f60.body.getD .skip)) 1) ((spec_l10Reduce_t1.build [.int a2, .int a3, .int b_2, .int b_3, .int x, .int x1, .int x2, .int x3]).getD ⟨[], []⟩) (roundK (2 * 64) spec_l10Reduce_t1 (fun q => spec_l10Reduce_uG1 G1 n q brk ret) brk ret) = spec_l10Reduce_lb1 F0 F1 F2 F3 G1 n a2 a3 b_2 b_3 x x1 x2 x3 (fun a2 a3 b_2 b_3 x x1 x2 x3 => brk 0 [.int a2, .int a3, .int b_2, .int b_3, .int x, .int x1, .int x2, .int x3]) (fun v1 v2 v3 v4 => ret ⟨[.agg [.int .i64 v1, .int .i64 v2], .agg [.int .i64 v3, .int .i64 v4]], []⟩) := by kernel_rfl
theorem spec_l10Reduce_l1_ev {α : Type} (n : Nat) (a2 : Int) (a3 : Int) (b_2 : Int) (b_3 : Int) (x : Int) (x1 : Int) (x2 : Int) (x3 : Int) (brk : Nat → List P1 → Option α) (ret : Res → Option α) : ev ((spec_l10Reduce_X n).env Try.prog Try.f60 2 []) (findLoop (loopsIn (Try.f60.body.getD .skip)) 1) ((spec_l10Reduce_t1.build [.int a2, .int a3, .int b_2, .int b_3, .int x, .int x1, .int x2, .int x3]).getD ⟨[], []⟩) (roundK (2 * 64) spec_l10Reduce_t1 (fun q => spec_l10Reduce_u1 n q brk ret) brk ret) = spec_l10Reduce_u1 (n + 1) [.int a2, .int a3, .int b_2, .int b_3, .int x, .int x1, .int x2, .int x3] brk ret := (spec_l10Reduce_l1_gen spec_l10Reduced spec_l10Dot spec_l01Floor spec_l01Plus spec_l10Reduce_l1 n a2 a3 b_2 b_3 x x1 x2 x3 brk ret).trans (by kernel_rfl)
def spec_l10Reduce_body {α : Type} (F0 : Nat → Int → Int → Int → Int → (Bool → Option α) → Option α) (F1 : Nat → Int → Int → Int → Int → (Int → Option α) → Option α) (F2 : Nat → Int → Int → (Int → Option α) → Option α) (F3 : Nat → Int → Int → Int → Int → Int → (Int → Int → Option α) → Option α) (G1 : Nat → Int → Int → Int → Int → Int → Int → Int → Int → (Int → Int → Int → Int → Int → Int → Int → Int → Option α) → (Int → Int → Int → Int → Option α) → Option α) (k : Nat) (a : Int) (a1 : Int) (b_ : Int) (b_1 : Int) (r0 : Int → Int → Int → Int → Option α) : Option α :=
  G1 k a a1 b_ b_1 0 0 0 0
    (fun a4 a5 b_4 b_5 x4 x5 x6 x7 =>
      r0 a4 a5 b_4 b_5)
    r0
theorem spec_l10Reduce_gen {α : Type} (F0 : Nat → Int → Int → Int → Int → (Bool → Option α) → Option α) (F1 : Nat → Int → Int → Int → Int → (Int → Option α) → Option α) (F2 : Nat → Int → Int → (Int → Option α) → Option α) (F3 : Nat → Int → Int → Int → Int → Int → (Int → Int → Option α) → Option α) (G1 : Nat → Int → Int → Int → Int → Int → Int → Int → Int → (Int → Int → Int → Int → Int → Int → Int → Int → Option α) → (Int → Int → Int → Int → Option α) → Option α) (n : Nat) (a : Int) (a1 : Int) (b_ : Int) (b_1 : Int) (κ : Res → Option α) : evFn Try.prog (spec_l10Reduce_XG F0 F1 F2 F3 G1 n) Try.f60 (((buildDs spec_l10Reduce_sh [.int a, .int a1, .int b_, .int b_1]).map Prod.fst).getD []) κ = spec_l10Reduce_body F0 F1 F2 F3 G1 n a a1 b_ b_1 (fun v1 v2 v3 v4 => κ ⟨[.agg [.int .i64 v1, .int .i64 v2], .agg [.int .i64 v3, .int .i64 v4]], []⟩) := by kernel_rfl
theorem spec_l10Reduce_ev {α : Type} (n : Nat) (a : Int) (a1 : Int) (b_ : Int) (b_1 : Int) (κ : Res → Option α) : evFn Try.prog (spec_l10Reduce_X n) Try.f60 (((buildDs spec_l10Reduce_sh [.int a, .int a1, .int b_, .int b_1]).map Prod.fst).getD []) κ = spec_l10Reduce_run n [.int a, .int a1, .int b_, .int b_1] κ := (spec_l10Reduce_gen spec_l10Reduced spec_l10Dot spec_l01Floor spec_l01Plus spec_l10Reduce_l1 n a a1 b_ b_1 κ).trans (by kernel_rfl)
theorem spec_l10Reduce_en (a : Int) (a1 : Int) (b_ : Int) (b_1 : Int) : (entry 0 (((buildDs spec_l10Reduce_sh [.int a, .int a1, .int b_, .int b_1]).map Prod.fst).getD [])).map (fun x => (x.1.length, x.2.lent)) = some (2, []) := by kernel_rfl
theorem spec_l10Reduce_good {α : Type} : ∀ n, GoodFn (α := α) Try.prog 60 (byShape spec_l10Reduce_sh (spec_l10Reduce_run n)) := by
  refine fn_good' Try.func60 (c := (Try.f60.body.getD .skip)) (by kernel_rfl) (by kernel_rfl) (by kernel_rfl) spec_l10Reduce_C spec_l10Reduce_M eqs spec_l10Reduce_lps (fun n => tabC_good (List.forall_mem_cons.2 ⟨(spec_l10Reduced_good n), (List.forall_mem_cons.2 ⟨(spec_l10Dot_good n), (List.forall_mem_cons.2 ⟨(spec_l01Floor_good n), (List.forall_mem_cons.2 ⟨(spec_l01Plus_good n), (fun _ h => absurd h List.not_mem_nil)⟩)⟩)⟩)⟩)) eqs_ok spec_l10Reduce_Lt ?_ ?_ spec_l10Reduce_sh spec_l10Reduce_run ?_
  · refine List.forall_mem_cons.2 ⟨?_, (fun _ h => absurd h List.not_mem_nil)⟩
    · intro p brk ret; show spec_l10Reduce_u1 0 p brk ret = none; unfold spec_l10Reduce_u1 spec_l10Reduce_uG1; split <;> rfl
  · refine List.forall_mem_cons.2 ⟨?_, (fun _ h => absurd h List.not_mem_nil)⟩
    · intro np lent hL n p brk ret st r hb hr
      obtain ⟨rfl, rfl⟩ := hL
      rw [← tpl_of hb]
      change spec_l10Reduce_u1 (n + 1) p brk ret = some r at hr
      have hr0 := hr
      unfold spec_l10Reduce_u1 spec_l10Reduce_uG1 at hr
      split at hr
      · exact (spec_l10Reduce_l1_ev n _ _ _ _ _ _ _ _ brk ret).trans hr0
      · cases hr
  · intro n p κ r ds hd hr
    have hr0 := hr
    unfold spec_l10Reduce_run spec_l10Reduce_runG at hr
    split at hr
    · rw [← ds_of hd]
      exact ⟨en_of (spec_l10Reduce_en _ _ _ _) ⟨rfl, rfl⟩, (spec_l10Reduce_ev n _ _ _ _ κ).trans hr0⟩
    · cases hr

/-! loop.example/g01297/spec.ReducePair -/
def spec_ReducePair_sh : List SkD := [.agg [.int .i64, .int .i64], .agg [.int .i64, .int .i64]]
def spec_ReducePair_runG {α : Type} (F : Nat → Int → Int → Int → Int → (Int → Option α) → ((List (Int × Int)) → Int → Option α) → Option α) (n : Nat) (p : List P1) (κ : Res → Option α) : Option α := match p with
  | [.int a, .int a1, .int b_, .int b_1] => F n a a1 b_ b_1 (fun v1 => κ ⟨[.nilsl, .int .i64 v1], []⟩) (fun v1 v2 => κ ⟨[.sl 33 .pt v1, .int .i64 v2], []⟩)
  | _ => none
def spec_ReducePair_run {α : Type} (n : Nat) (p : List P1) (κ : Res → Option α) : Option α := spec_ReducePair_runG spec_ReducePair n p κ
def spec_ReducePair_CG {α : Type} (F0 : Nat → Int → Int → Int → Int → (Int → Option α) → Option α) (F1 : Nat → Int → Int → Int → Int → (Int → Int → Int → Int → Option α) → Option α) (n : Nat) : FuncId → List D → (Res → Option α) → Option α := tabC [(59, (byShape spec_l10Pair_sh (spec_l10Pair_runG F0 n))), (60, (byShape spec_l10Reduce_sh (spec_l10Reduce_runG F1 n)))]
def spec_ReducePair_C {α : Type} (n : Nat) : FuncId → List D → (Res → Option α) → Option α := spec_ReducePair_CG spec_l10Pair spec_l10Reduce n
def spec_ReducePair_M : FuncId → List Nat := tabM []
def spec_ReducePair_lpsG {α : Type}  : List (LoopT α) := []
def spec_ReducePair_lps {α : Type} : List (LoopT α) := spec_ReducePair_lpsG
def spec_ReducePair_XG {α : Type} (F0 : Nat → Int → Int → Int → Int → (Int → Option α) → Option α) (F1 : Nat → Int → Int → Int → Int → (Int → Int → Int → Int → Option α) → Option α)  (n : Nat) : Ctx α := ⟨spec_ReducePair_CG F0 F1 n, spec_ReducePair_M, eqs, lpOf (spec_ReducePair_lpsG) n⟩
def spec_ReducePair_X {α : Type} (n : Nat) : Ctx α := spec_ReducePair_XG spec_l10Pair spec_l10Reduce n
def spec_ReducePair_Lt (np : Nat) (lent : List (Bool × Nat × Blk)) : Prop := np = 2 ∧ lent = []
def spec_ReducePair_body {α : Type} (F0 : Nat → Int → Int → Int → Int → (Int → Option α) → Option α) (F1 : Nat → Int → Int → Int → Int → (Int → Int → Int → Int → Option α) → Option α)  (k : Nat) (a : Int) (a1 : Int) (b_ : Int) (b_1 : Int) (r0 : Int → Option α) (r1 : (List (Int × Int)) → Int → Option α) : Option α :=
  F0 k a a1 b_ b_1 fun v =>
  bif (!decide (v = 0)) then
    r0 v
  else
    F1 k a a1 b_ b_1 fun v1 v2 v3 v4 =>
    r1 [(v1, v2), (v3, v4)] 0
theorem spec_ReducePair_gen {α : Type} (F0 : Nat → Int → Int → Int → Int → (Int → Option α) → Option α) (F1 : Nat → Int → Int → Int → Int → (Int → Int → Int → Int → Option α) → Option α)  (n : Nat) (a : Int) (a1 : Int) (b_ : Int) (b_1 : Int) (κ : Res → Option α) : evFn Try.prog (spec_ReducePair_XG F0 F1 n) Try.f18 (((buildDs spec_ReducePair_sh [.int a, .int a1, .int b_, .int b_1]).map Prod.fst).getD []) κ = spec_ReducePair_body F0 F1 n a a1 b_ b_1 (fun v1 => κ ⟨[.nilsl, .int .i64 v1], []⟩) (fun v1 v2 => κ ⟨[.sl 33 .pt v1, .int .i64 v2], []⟩) := by kernel_rfl
theorem spec_ReducePair_ev {α : Type} (n : Nat) (a : Int) (a1 : Int) (b_ : Int) (b_1 : Int) (κ : Res → Option α) : evFn Try.prog (spec_ReducePair_X n) Try.f18 (((buildDs spec_ReducePair_sh [.int a, .int a1, .int b_, .int b_1]).map Prod.fst).getD []) κ = spec_ReducePair_run n [.int a, .int a1, .int b_, .int b_1] κ := (spec_ReducePair_gen spec_l10Pair spec_l10Reduce n a a1 b_ b_1 κ).trans (by kernel_rfl)
theorem spec_ReducePair_en (a : Int) (a1 : Int) (b_ : Int) (b_1 : Int) : (entry 0 (((buildDs spec_ReducePair_sh [.int a, .int a1, .int b_, .int b_1]).map Prod.fst).getD [])).map (fun x => (x.1.length, x.2.lent)) = some (2, []) := by kernel_rfl
theorem spec_ReducePair_good {α : Type} : ∀ n, GoodFn (α := α) Try.prog 18 (byShape spec_ReducePair_sh (spec_ReducePair_run n)) := by
  refine fn_good' Try.func18 (c := (Try.f18.body.getD .skip)) (by kernel_rfl) (by kernel_rfl) (by kernel_rfl) spec_ReducePair_C spec_ReducePair_M eqs spec_ReducePair_lps (fun n => tabC_good (List.forall_mem_cons.2 ⟨(spec_l10Pair_good n), (List.forall_mem_cons.2 ⟨(spec_l10Reduce_good n), (fun _ h => absurd h List.not_mem_nil)⟩)⟩)) eqs_ok spec_ReducePair_Lt ?_ ?_ spec_ReducePair_sh spec_ReducePair_run ?_
  · exact (fun _ h => absurd h List.not_mem_nil)
  · exact (fun _ h => absurd h List.not_mem_nil)
  · intro n p κ r ds hd hr
    have hr0 := hr
    unfold spec_ReducePair_run spec_ReducePair_runG at hr
    split at hr
    · rw [← ds_of hd]
      exact ⟨en_of (spec_ReducePair_en _ _ _ _) ⟨rfl, rfl⟩, (spec_ReducePair_ev n _ _ _ _ κ).trans hr0⟩
    · cases hr

/-! loop.example/g01297/impl.in -/
def impl_in_sh : List SkD := [.int .i64, .int .i64, .int .i64]
def impl_in_runG {α : Type} (F : Nat → Int → Int → Int → (Bool → Option α) → Option α) (n : Nat) (p : List P1) (κ : Res → Option α) : Option α := match p with
  | [.int n_, .int low, .int high] => F n n_ low high (fun v1 => κ ⟨[.bool v1], []⟩)
  | _ => none
def impl_in_run {α : Type} (n : Nat) (p : List P1) (κ : Res → Option α) : Option α := impl_in_runG impl_in n p κ
def impl_in_CG {α : Type}  (n : Nat) : FuncId → List D → (Res → Option α) → Option α := tabC []
def impl_in_C {α : Type} (n : Nat) : FuncId → List D → (Res → Option α) → Option α := impl_in_CG n
def impl_in_M : FuncId → List Nat := tabM []
def impl_in_lpsG {α : Type}  : List (LoopT α) := []
def impl_in_lps {α : Type} : List (LoopT α) := impl_in_lpsG
def impl_in_XG {α : Type}   (n : Nat) : Ctx α := ⟨impl_in_CG n, impl_in_M, eqs, lpOf (impl_in_lpsG) n⟩
def impl_in_X {α : Type} (n : Nat) : Ctx α := impl_in_XG n
def impl_in_Lt (np : Nat) (lent : List (Bool × Nat × Blk)) : Prop := np = 3 ∧ lent = []
def impl_in_body {α : Type}   (k : Nat) (n_ : Int) (low : Int) (high : Int) (r0 : Bool → Option α) : Option α :=
  bif decide (low ≤ n_) then
    r0 (decide (n_ ≤ high))
  else
    r0 false
theorem impl_in_gen {α : Type}   (n : Nat) (n_ : Int) (low : Int) (high : Int) (κ : Res → Option α) : evFn Try.prog (impl_in_XG n) Try.f76 (((buildDs impl_in_sh [.int n_, .int low, .int high]).map Prod.fst).getD []) κ = impl_in_body n n_ low high (fun v1 => κ ⟨[.bool v1], []⟩) := by kernel_rfl
theorem impl_in_ev {α : Type} (n : Nat) (n_ : Int) (low : Int) (high : Int) (κ : Res → Option α) : evFn Try.prog (impl_in_X n) Try.f76 (((buildDs impl_in_sh [.int n_, .int low, .int high]).map Prod.fst).getD []) κ = impl_in_run n [.int n_, .int low, .int high] κ := (impl_in_gen n n_ low high κ).trans (by kernel_rfl)
theorem impl_in_en (n_ : Int) (low : Int) (high : Int) : (entry 0 (((buildDs impl_in_sh [.int n_, .int low, .int high]).map Prod.fst).getD [])).map (fun x => (x.1.length, x.2.lent)) = some (3, []) := by kernel_rfl
theorem impl_in_good {α : Type} : ∀ n, GoodFn (α := α) Try.prog 76 (byShape impl_in_sh (impl_in_run n)) := by
  refine fn_good' Try.func76 (c := (Try.f76.body.getD .skip)) (by kernel_rfl) (by kernel_rfl) (by kernel_rfl) impl_in_C impl_in_M eqs impl_in_lps (fun n => tabC_good (fun _ h => absurd h List.not_mem_nil)) eqs_ok impl_in_Lt ?_ ?_ impl_in_sh impl_in_run ?_
  · exact (fun _ h => absurd h List.not_mem_nil)
  · exact (fun _ h => absurd h List.not_mem_nil)
  · intro n p κ r ds hd hr
    have hr0 := hr
    unfold impl_in_run impl_in_runG at hr
    split at hr
    · rw [← ds_of hd]
      exact ⟨en_of (impl_in_en _ _ _) ⟨rfl, rfl⟩, (impl_in_ev n _ _ _ κ).trans hr0⟩
    · cases hr

/-! loop.example/g01297/impl.isCoord -/
def impl_isCoord_sh : List SkD := [.int .i64]
def impl_isCoord_runG {α : Type} (F : Nat → Int → (Bool → Option α) → Option α) (n : Nat) (p : List P1) (κ : Res → Option α) : Option α := match p with
  | [.int n_] => F n n_ (fun v1 => κ ⟨[.bool v1], []⟩)
  | _ => none
def impl_isCoord_run {α : Type} (n : Nat) (p : List P1) (κ : Res → Option α) : Option α := impl_isCoord_runG impl_isCoord n p κ
def impl_isCoord_CG {α : Type} (F0 : Nat → Int → Int → Int → (Bool → Option α) → Option α) (n : Nat) : FuncId → List D → (Res → Option α) → Option α := tabC [(76, (byShape impl_in_sh (impl_in_runG F0 n)))]
def impl_isCoord_C {α : Type} (n : Nat) : FuncId → List D → (Res → Option α) → Option α := impl_isCoord_CG impl_in n
def impl_isCoord_M : FuncId → List Nat := tabM []
def impl_isCoord_lpsG {α : Type}  : List (LoopT α) := []
def impl_isCoord_lps {α : Type} : List (LoopT α) := impl_isCoord_lpsG
def impl_isCoord_XG {α : Type} (F0 : Nat → Int → Int → Int → (Bool → Option α) → Option α)  (n : Nat) : Ctx α := ⟨impl_isCoord_CG F0 n, impl_isCoord_M, eqs, lpOf (impl_isCoord_lpsG) n⟩
def impl_isCoord_X {α : Type} (n : Nat) : Ctx α := impl_isCoord_XG impl_in n
def impl_isCoord_Lt (np : Nat) (lent : List (Bool × Nat × Blk)) : Prop := np = 1 ∧ lent = []
def impl_isCoord_body {α : Type} (F0 : Nat → Int → Int → Int → (Bool → Option α) → Option α)  (k : Nat) (n_ : Int) (r0 : Bool → Option α) : Option α :=
  F0 k n_ (-1000000) 1000000 fun v =>
  r0 v
theorem impl_isCoord_gen {α : Type} (F0 : Nat → Int → Int → Int → (Bool → Option α) → Option α)  (n : Nat) (n_ : Int) (κ : Res → Option α) : evFn Try.prog (impl_isCoord_XG F0 n) Try.f104 (((buildDs impl_isCoord_sh [.int n_]).map Prod.fst).getD []) κ = impl_isCoord_body F0 n n_ (fun v1 => κ ⟨[.bool v1], []⟩) := by kernel_rfl
theorem impl_isCoord_ev {α : Type} (n : Nat) (n_ : Int) (κ : Res → Option α) : evFn Try.prog (impl_isCoord_X n) Try.f104 (((buildDs impl_isCoord_sh [.int n_]).map Prod.fst).getD []) κ = impl_isCoord_run n [.int n_] κ := (impl_isCoord_gen impl_in n n_ κ).trans (by kernel_rfl)
theorem impl_isCoord_en (n_ : Int) : (entry 0 (((buildDs impl_isCoord_sh [.int n_]).map Prod.fst).getD [])).map (fun x => (x.1.length, x.2.lent)) = some (1, []) := by kernel_rfl
theorem impl_isCoord_good {α : Type} : ∀ n, GoodFn (α := α) Try.prog 104 (byShape impl_isCoord_sh (impl_isCoord_run n)) := by
  refine fn_good' Try.func104 (c := (Try.f104.body.getD .skip)) (by kernel_rfl) (by kernel_rfl) (by kernel_rfl) impl_isCoord_C impl_isCoord_M eqs impl_isCoord_lps (fun n => tabC_good (List.forall_mem_cons.2 ⟨(impl_in_good n), (fun _ h => absurd h List.not_mem_nil)⟩)) eqs_ok impl_isCoord_Lt ?_ ?_ impl_isCoord_sh impl_isCoord_run ?_
  · exact (fun _ h => absurd h List.not_mem_nil)
  · exact (fun _ h => absurd h List.not_mem_nil)
  · intro n p κ r ds hd hr
    have hr0 := hr
    unfold impl_isCoord_run impl_isCoord_runG at hr
    split at hr
    · rw [← ds_of hd]
      exact ⟨en_of (impl_isCoord_en _) ⟨rfl, rfl⟩, (impl_isCoord_ev n _ κ).trans hr0⟩
    · cases hr

/-! loop.example/g01297/impl.IsPoint -/
def impl_IsPoint_sh : List SkD := [.agg [.int .i64, .int .i64]]
def impl_IsPoint_runG {α : Type} (F : Nat → Int → Int → (Bool → Option α) → Option α) (n : Nat) (p : List P1) (κ : Res → Option α) : Option α := match p with
  | [.int a, .int a1] => F n a a1 (fun v1 => κ ⟨[.bool v1], []⟩)
  | _ => none
def impl_IsPoint_run {α : Type} (n : Nat) (p : List P1) (κ : Res → Option α) : Option α := impl_IsPoint_runG impl_IsPoint n p κ
def impl_IsPoint_CG {α : Type} (F0 : Nat → Int → (Bool → Option α) → Option α) (n : Nat) : FuncId → List D → (Res → Option α) → Option α := tabC [(104, (byShape impl_isCoord_sh (impl_isCoord_runG F0 n)))]
def impl_IsPoint_C {α : Type} (n : Nat) : FuncId → List D → (Res → Option α) → Option α := impl_IsPoint_CG impl_isCoord n
def impl_IsPoint_M : FuncId → List Nat := tabM []
def impl_IsPoint_lpsG {α : Type}  : List (LoopT α) := []
def impl_IsPoint_lps {α : Type} : List (LoopT α) := impl_IsPoint_lpsG
def impl_IsPoint_XG {α : Type} (F0 : Nat → Int → (Bool → Option α) → Option α)  (n : Nat) : Ctx α := ⟨impl_IsPoint_CG F0 n, impl_IsPoint_M, eqs, lpOf (impl_IsPoint_lpsG) n⟩
def impl_IsPoint_X {α : Type} (n : Nat) : Ctx α := impl_IsPoint_XG impl_isCoord n
def impl_IsPoint_Lt (np : Nat) (lent : List (Bool × Nat × Blk)) : Prop := np = 1 ∧ lent = []
def impl_IsPoint_body {α : Type} (F0 : Nat → Int → (Bool → Option α) → Option α)  (k : Nat) (a : Int) (a1 : Int) (r0 : Bool → Option α) : Option α :=
  F0 k a fun v =>
  bif v then
    F0 k a1 fun v1 =>
    r0 v1
  else
    r0 false
theorem impl_IsPoint_gen {α : Type} (F0 : Nat → Int → (Bool → Option α) → Option α)  (n : Nat) (a : Int) (a1 : Int) (κ : Res → Option α) : evFn Try.prog (impl_IsPoint_XG F0 n) Try.f88 (((buildDs impl_IsPoint_sh [.int a, .int a1]).map Prod.fst).getD []) κ = impl_IsPoint_body F0 n a a1 (fun v1 => κ ⟨[.bool v1], []⟩) := by kernel_rfl
theorem impl_IsPoint_ev {α : Type} (n : Nat) (a : Int) (a1 : Int) (κ : Res → Option α) : evFn Try.prog (impl_IsPoint_X n) Try.f88 (((buildDs impl_IsPoint_sh [.int a, .int a1]).map Prod.fst).getD []) κ = impl_IsPoint_run n [.int a, .int a1] κ := (impl_IsPoint_gen impl_isCoord n a a1 κ).trans (by kernel_rfl)
theorem impl_IsPoint_en (a : Int) (a1 : Int) : (entry 0 (((buildDs impl_IsPoint_sh [.int a, .int a1]).map Prod.fst).getD [])).map (fun x => (x.1.length, x.2.lent)) = some (1, []) := by kernel_rfl
theorem impl_IsPoint_good {α : Type} : ∀ n, GoodFn (α := α) Try.prog 88 (byShape impl_IsPoint_sh (impl_IsPoint_run n)) := by
  refine fn_good' Try.func88 (c := (Try.f88.body.getD .skip)) (by kernel_rfl) (by kernel_rfl) (by kernel_rfl) impl_IsPoint_C impl_IsPoint_M eqs impl_IsPoint_lps (fun n => tabC_good (List.forall_mem_cons.2 ⟨(impl_isCoord_good n), (fun _ h => absurd h List.not_mem_nil)⟩)) eqs_ok impl_IsPoint_Lt ?_ ?_ impl_IsPoint_sh impl_IsPoint_run ?_
  · exact (fun _ h => absurd h List.not_mem_nil)
  · exact (fun _ h => absurd h List.not_mem_nil)
  · intro n p κ r ds hd hr
    have hr0 := hr
    unfold impl_IsPoint_run impl_IsPoint_runG at hr
    split at hr
    · rw [← ds_of hd]
      exact ⟨en_of (impl_IsPoint_en _ _) ⟨rfl, rfl⟩, (impl_IsPoint_ev n _ _ κ).trans hr0⟩
    · cases hr

/-! loop.example/g01297/impl.points$1 -/
def impl_points_1_sh : List SkD := [.agg [.int .i64, .int .i64]]
def impl_points_1_runG {α : Type} (F : Nat → Int → Int → (Bool → Option α) → Option α) (n : Nat) (p : List P1) (κ : Res → Option α) : Option α := match p with
  | [.int a, .int a1] => F n a a1 (fun v1 => κ ⟨[.bool v1], []⟩)
  | _ => none
def impl_points_1_run {α : Type} (n : Nat) (p : List P1) (κ : Res → Option α) : Option α := impl_points_1_runG impl_points_1 n p κ
def impl_points_1_CG {α : Type} (F0 : Nat → Int → Int → (Bool → Option α) → Option α) (n : Nat) : FuncId → List D → (Res → Option α) → Option α := tabC [(88, (byShape impl_IsPoint_sh (impl_IsPoint_runG F0 n)))]
def impl_points_1_C {α : Type} (n : Nat) : FuncId → List D → (Res → Option α) → Option α := impl_points_1_CG impl_IsPoint n
def impl_points_1_M : FuncId → List Nat := tabM []
def impl_points_1_lpsG {α : Type}  : List (LoopT α) := []
def impl_points_1_lps {α : Type} : List (LoopT α) := impl_points_1_lpsG
def impl_points_1_XG {α : Type} (F0 : Nat → Int → Int → (Bool → Option α) → Option α)  (n : Nat) : Ctx α := ⟨impl_points_1_CG F0 n, impl_points_1_M, eqs, lpOf (impl_points_1_lpsG) n⟩
def impl_points_1_X {α : Type} (n : Nat) : Ctx α := impl_points_1_XG impl_IsPoint n
def impl_points_1_Lt (np : Nat) (lent : List (Bool × Nat × Blk)) : Prop := np = 1 ∧ lent = []
def impl_points_1_body {α : Type} (F0 : Nat → Int → Int → (Bool → Option α) → Option α)  (k : Nat) (a : Int) (a1 : Int) (r0 : Bool → Option α) : Option α :=
  F0 k a a1 fun v =>
  r0 (!v)
theorem impl_points_1_gen {α : Type} (F0 : Nat → Int → Int → (Bool → Option α) → Option α)  (n : Nat) (a : Int) (a1 : Int) (κ : Res → Option α) : evFn Try.prog (impl_points_1_XG F0 n) Try.f146 (((buildDs impl_points_1_sh [.int a, .int a1]).map Prod.fst).getD []) κ = impl_points_1_body F0 n a a1 (fun v1 => κ ⟨[.bool v1], []⟩) := by kernel_rfl
theorem impl_points_1_ev {α : Type} (n : Nat) (a : Int) (a1 : Int) (κ : Res → Option α) : evFn Try.prog (impl_points_1_X n) Try.f146 (((buildDs impl_points_1_sh [.int a, .int a1]).map Prod.fst).getD []) κ = impl_points_1_run n [.int a, .int a1] κ := (impl_points_1_gen impl_IsPoint n a a1 κ).trans (by kernel_rfl)
theorem impl_points_1_en (a : Int) (a1 : Int) : (entry 0 (((buildDs impl_points_1_sh [.int a, .int a1]).map Prod.fst).getD [])).map (fun x => (x.1.length, x.2.lent)) = some (1, []) := by kernel_rfl
theorem impl_points_1_good {α : Type} : ∀ n, GoodFn (α := α) Try.prog 146 (byShape impl_points_1_sh (impl_points_1_run n)) := by
  refine fn_good' Try.func146 (c := (Try.f146.body.getD .skip)) (by kernel_rfl) (by kernel_rfl) (by kernel_rfl) impl_points_1_C impl_points_1_M eqs impl_points_1_lps (fun n => tabC_good (List.forall_mem_cons.2 ⟨(impl_IsPoint_good n), (fun _ h => absurd h List.not_mem_nil)⟩)) eqs_ok impl_points_1_Lt ?_ ?_ impl_points_1_sh impl_points_1_run ?_
  · exact (fun _ h => absurd h List.not_mem_nil)
  · exact (fun _ h => absurd h List.not_mem_nil)
  · intro n p κ r ds hd hr
    have hr0 := hr
    unfold impl_points_1_run impl_points_1_runG at hr
    split at hr
    · rw [← ds_of hd]
      exact ⟨en_of (impl_points_1_en _ _) ⟨rfl, rfl⟩, (impl_points_1_ev n _ _ κ).trans hr0⟩
    · cases hr

/-! slices.IndexFunc[[]loop.example/g01297/impl.Point,loop.example/g01297/impl.Point] -/
def slices_IndexFunc_impl_Point_impl_Point_1F_impl_points_1_sh : List SkD := [.sl 33 .pt, .fn 146 []]
def slices_IndexFunc_impl_Point_impl_Point_1F_impl_points_1_runG {α : Type} (F : Nat → (List (Int × Int)) → (Int → Option α) → Option α) (n : Nat) (p : List P1) (κ : Res → Option α) : Option α := match p with
  | [.rows .pt s] => F n s (fun v1 => κ ⟨[.int .i64 v1], []⟩)
  | _ => none
def slices_IndexFunc_impl_Point_impl_Point_1F_impl_points_1_run {α : Type} (n : Nat) (p : List P1) (κ : Res → Option α) : Option α := slices_IndexFunc_impl_Point_impl_Point_1F_impl_points_1_runG slices_IndexFunc_impl_Point_impl_Point_1F_impl_points_1 n p κ
def slices_IndexFunc_impl_Point_impl_Point_1F_impl_points_1_CG {α : Type} (F0 : Nat → Int → Int → (Bool → Option α) → Option α) (n : Nat) : FuncId → List D → (Res → Option α) → Option α := tabC [(146, (byShape impl_points_1_sh (impl_points_1_runG F0 n)))]
def slices_IndexFunc_impl_Point_impl_Point_1F_impl_points_1_C {α : Type} (n : Nat) : FuncId → List D → (Res → Option α) → Option α := slices_IndexFunc_impl_Point_impl_Point_1F_impl_points_1_CG impl_points_1 n
def slices_IndexFunc_impl_Point_impl_Point_1F_impl_points_1_M : FuncId → List Nat := tabM []
def slices_IndexFunc_impl_Point_impl_Point_1F_impl_points_1_t2 : Tpl := ⟨[.sl 0, .fn 146 [], .any, .any, .any, .any, .any, .int .i64, .int .i64, .any, .any, .any, .any, .any, .any, .any, .any, .any, .any], [(0, .rows 0 33 .pt)], []⟩
def slices_IndexFunc_impl_Point_impl_Point_1F_impl_points_1_uG2 {α : Type} (G : Nat → Int → Int → (List (Int × Int)) → (Int → Int → (List (Int × Int)) → Option α) → (Int → Option α) → Option α) (n : Nat) (p : List P1) (brk : Nat → List P1 → Option α) (ret : Res → Option α) : Option α := match p with
  | [.int x, .int x1, .rows .pt s1] => G n x x1 s1 (fun x x1 s1 => brk 0 [.int x, .int x1, .rows .pt s1]) (fun v1 => ret ⟨[.int .i64 v1], []⟩)
  | _ => none
def slices_IndexFunc_impl_Point_impl_Point_1F_impl_points_1_u2 {α : Type} (n : Nat) (p : List P1) (brk : Nat → List P1 → Option α) (ret : Res → Option α) : Option α := slices_IndexFunc_impl_Point_impl_Point_1F_impl_points_1_uG2 slices_IndexFunc_impl_Point_impl_Point_1F_impl_points_1_l2 n p brk ret
def slices_IndexFunc_impl_Point_impl_Point_1F_impl_points_1_lpsG {α : Type} (G2 : Nat → Int → Int → (List (Int × Int)) → (Int → Int → (List (Int × Int)) → Option α) → (Int → Option α) → Option α) : List (LoopT α) := [⟨2, slices_IndexFunc_impl_Point_impl_Point_1F_impl_points_1_t2, slices_IndexFunc_impl_Point_impl_Point_1F_impl_points_1_uG2 G2⟩]
def slices_IndexFunc_impl_Point_impl_Point_1F_impl_points_1_lps {α : Type} : List (LoopT α) := slices_IndexFunc_impl_Point_impl_Point_1F_impl_points_1_lpsG slices_IndexFunc_impl_Point_impl_Point_1F_impl_points_1_l2
def slices_IndexFunc_impl_Point_impl_Point_1F_impl_points_1_XG {α : Type} (F0 : Nat → Int → Int → (Bool → Option α) → Option α) (G2 : Nat → Int → Int → (List (Int × Int)) → (Int → Int → (List (Int × Int)) → Option α) → (Int → Option α) → Option α) (n : Nat) : Ctx α := ⟨slices_IndexFunc_impl_Point_impl_Point_1F_impl_points_1_CG F0 n, slices_IndexFunc_impl_Point_impl_Point_1F_impl_points_1_M, eqs, lpOf (slices_IndexFunc_impl_Point_impl_Point_1F_impl_points_1_lpsG G2) n⟩
def slices_IndexFunc_impl_Point_impl_Point_1F_impl_points_1_X {α : Type} (n : Nat) : Ctx α := slices_IndexFunc_impl_Point_impl_Point_1F_impl_points_1_XG impl_points_1 slices_IndexFunc_impl_Point_impl_Point_1F_impl_points_1_l2 n
def slices_IndexFunc_impl_Point_impl_Point_1F_impl_points_1_Lt (np : Nat) (lent : List (Bool × Nat × Blk)) : Prop := np = 2 ∧ lent = []
def slices_IndexFunc_impl_Point_impl_Point_1F_impl_points_1_lb2 {α : Type} (F0 : Nat → Int → Int → (Bool → Option α) → Option α) (G2 : Nat → Int → Int → (List (Int × Int)) → (Int → Int → (List (Int × Int)) → Option α) → (Int → Option α) → Option α) (k : Nat) (x : Int) (x1 : Int) (s1 : List (Int × Int)) (b0 : Int → Int → (List (Int × Int)) → Option α) (r0 : Int → Option α) : Option α :=
  bif decide (x1 < x) then
    bif (decide (0 ≤ x1) && decide (x1 < (((List.length s1) : Nat) : Int))) then
      (s1[x1.toNat]?).bind fun e_ =>
      F0 k e_.1 e_.2 fun v =>
      bif v then
        r0 x1
      else
        G2 k x (w64 (x1 + 1)) s1 b0 r0
    else
      none
  else
    b0 x x1 s1
theorem slices_IndexFunc_impl_Point_impl_Point_1F_impl_points_1_l2_gen {α : Type} (F0 : Nat → Int → Int → (Bool → Option α) → Option α) (G2 : Nat → Int → Int → (List (Int × Int)) → (Int → Int → (List (Int × Int)) → Option α) → (Int → Option α) → Option α) (n : Nat) (x : Int) (x1 : Int) (s1 : List (Int × Int)) (brk : Nat → List P1 → Option α) (ret : Res → Option α) : ev ((slices_IndexFunc_impl_Point_impl_Point_1F_impl_points_1_XG F0 G2 n).env Try.prog Try.f149 2 []) (findLoop (loopsIn (Try.f149.body.getD .skip)) 2) ((slices_IndexFunc_impl_Point_impl_Point_1F_impl_points_1_t2.build [.int x, .int x1, .rows .pt s1]).getD ⟨[], []⟩) (roundK (2 * 64) slices_IndexFunc_impl_Point_impl_Point_1F_impl_points_1_t2 (fun q => slices_IndexFunc_impl_Point_impl_Point_1F_impl_points_1_uG2 G2 n q brk ret) brk ret) = slices_IndexFunc_impl_Point_impl_Point_1F_impl_points_1_lb2 F0 G2 n x x1 s1 (fun x x1 s1 => brk 0 [.int x, .int x1, .rows .pt s1]) (fun v1 => ret ⟨[.int .i64 v1], []⟩) := by kernel_rfl
theorem slices_IndexFunc_impl_Point_impl_Point_1F_impl_points_1_l2_ev {α : Type} (n : Nat) (x : Int) (x1 : Int) (s1 : List (Int × Int)) (brk : Nat → List P1 → Option α) (ret : Res → Option α) : ev ((slices_IndexFunc_impl_Point_impl_Point_1F_impl_points_1_X n).env Try.prog Try.f149 2 []) (findLoop (loopsIn (Try.f149.body.getD .skip)) 2) ((slices_IndexFunc_impl_Point_impl_Point_1F_impl_points_1_t2.build [.int x, .int x1, .rows .pt s1]).getD ⟨[], []⟩) (roundK (2 * 64) slices_IndexFunc_impl_Point_impl_Point_1F_impl_points_1_t2 (fun q => slices_IndexFunc_impl_Point_impl_Point_1F_impl_points_1_u2 n q brk ret) brk ret) = slices_IndexFunc_impl_Point_impl_Point_1F_impl_points_1_u2 (n + 1) [.int x, .int x1, .rows .pt s1] brk ret := (slices_IndexFunc_impl_Point_impl_Point_1F_impl_points_1_l2_gen impl_points_1 slices_IndexFunc_impl_Point_impl_Point_1F_impl_points_1_l2 n x x1 s1 brk ret).trans (by kernel_rfl)
def slices_IndexFunc_impl_Point_impl_Point_1F_impl_points_1_body {α : Type} (F0 : Nat → Int → Int → (Bool → Option α) → Option α) (G2 : Nat → Int → Int → (List (Int × Int)) → (Int → Int → (List (Int × Int)) → Option α) → (Int → Option α) → Option α) (k : Nat) (s : List (Int × Int)) (r0 : Int → Option α) : Option α :=
  G2 k (((List.length s) : Nat) : Int) 0 s
    (fun x2 x3 s2 =>
      r0 (-1))
    r0
theorem slices_IndexFunc_impl_Point_impl_Point_1F_impl_points_1_gen {α : Type} (F0 : Nat → Int → Int → (Bool → Option α) → Option α) (G2 : Nat → Int → Int → (List (Int × Int)) → (Int → Int → (List (Int × Int)) → Option α) → (Int → Option α) → Option α) (n : Nat) (s : List (Int × Int)) (κ : Res → Option α) : evFn Try.prog (slices_IndexFunc_impl_Point_impl_Point_1F_impl_points_1_XG F0 G2 n) Try.f149 (((buildDs slices_IndexFunc_impl_Point_impl_Point_1F_impl_points_1_sh [.rows .pt s]).map Prod.fst).getD []) κ = slices_IndexFunc_impl_Point_impl_Point_1F_impl_points_1_body F0 G2 n s (fun v1 => κ ⟨[.int .i64 v1], []⟩) := by kernel_rfl
theorem slices_IndexFunc_impl_Point_impl_Point_1F_impl_points_1_ev {α : Type} (n : Nat) (s : List (Int × Int)) (κ : Res → Option α) : evFn Try.prog (slices_IndexFunc_impl_Point_impl_Point_1F_impl_points_1_X n) Try.f149 (((buildDs slices_IndexFunc_impl_Point_impl_Point_1F_impl_points_1_sh [.rows .pt s]).map Prod.fst).getD []) κ = slices_IndexFunc_impl_Point_impl_Point_1F_impl_points_1_run n [.rows .pt s] κ := (slices_IndexFunc_impl_Point_impl_Point_1F_impl_points_1_gen impl_points_1 slices_IndexFunc_impl_Point_impl_Point_1F_impl_points_1_l2 n s κ).trans (by kernel_rfl)
theorem slices_IndexFunc_impl_Point_impl_Point_1F_impl_points_1_en (s : List (Int × Int)) : (entry 0 (((buildDs slices_IndexFunc_impl_Point_impl_Point_1F_impl_points_1_sh [.rows .pt s]).map Prod.fst).getD [])).map (fun x => (x.1.length, x.2.lent)) = some (2, []) := by kernel_rfl
theorem slices_IndexFunc_impl_Point_impl_Point_1F_impl_points_1_good {α : Type} : ∀ n, GoodFn (α := α) Try.prog 149 (byShape slices_IndexFunc_impl_Point_impl_Point_1F_impl_points_1_sh (slices_IndexFunc_impl_Point_impl_Point_1F_impl_points_1_run n)) := by
  refine fn_good' Try.func149 (c := (Try.f149.body.getD .skip)) (by kernel_rfl) (by kernel_rfl) (by kernel_rfl) slices_IndexFunc_impl_Point_impl_Point_1F_impl_points_1_C slices_IndexFunc_impl_Point_impl_Point_1F_impl_points_1_M eqs slices_IndexFunc_impl_Point_impl_Point_1F_impl_points_1_lps (fun n => tabC_good (List.forall_mem_cons.2 ⟨(impl_points_1_good n), (fun _ h => absurd h List.not_mem_nil)⟩)) eqs_ok slices_IndexFunc_impl_Point_impl_Point_1F_impl_points_1_Lt ?_ ?_ slices_IndexFunc_impl_Point_impl_Point_1F_impl_points_1_sh slices_IndexFunc_impl_Point_impl_Point_1F_impl_points_1_run ?_
  · refine List.forall_mem_cons.2 ⟨?_, (fun _ h => absurd h List.not_mem_nil)⟩
    · intro p brk ret; show slices_IndexFunc_impl_Point_impl_Point_1F_impl_points_1_u2 0 p brk ret = none; unfold slices_IndexFunc_impl_Point_impl_Point_1F_impl_points_1_u2 slices_IndexFunc_impl_Point_impl_Point_1F_impl_points_1_uG2; split <;> rfl
  · refine List.forall_mem_cons.2 ⟨?_, (fun _ h => absurd h List.not_mem_nil)⟩
    · intro np lent hL n p brk ret st r hb hr
      obtain ⟨rfl, rfl⟩ := hL
      rw [← tpl_of hb]
      change slices_IndexFunc_impl_Point_impl_Point_1F_impl_points_1_u2 (n + 1) p brk ret = some r at hr
      have hr0 := hr
      unfold slices_IndexFunc_impl_Point_impl_Point_1F_impl_points_1_u2 slices_IndexFunc_impl_Point_impl_Point_1F_impl_points_1_uG2 at hr
      split at hr
      · exact (slices_IndexFunc_impl_Point_impl_Point_1F_impl_points_1_l2_ev n _ _ _ brk ret).trans hr0
      · cases hr
  · intro n p κ r ds hd hr
    have hr0 := hr
    unfold slices_IndexFunc_impl_Point_impl_Point_1F_impl_points_1_run slices_IndexFunc_impl_Point_impl_Point_1F_impl_points_1_runG at hr
    split at hr
    · rw [← ds_of hd]
      exact ⟨en_of (slices_IndexFunc_impl_Point_impl_Point_1F_impl_points_1_en _) ⟨rfl, rfl⟩, (slices_IndexFunc_impl_Point_impl_Point_1F_impl_points_1_ev n _ κ).trans hr0⟩
    · cases hr

/-! slices.ContainsFunc[[]loop.example/g01297/impl.Point,loop.example/g01297/impl.Point] -/
def slices_ContainsFunc_impl_Point_impl_Point_1F_impl_points_1_sh : List SkD := [.sl 33 .pt, .fn 146 []]
def slices_ContainsFunc_impl_Point_impl_Point_1F_impl_points_1_runG {α : Type} (F : Nat → (List (Int × Int)) → (Bool → Option α) → Option α) (n : Nat) (p : List P1) (κ : Res → Option α) : Option α := match p with
  | [.rows .pt s] => F n s (fun v1 => κ ⟨[.bool v1], []⟩)
  | _ => none
def slices_ContainsFunc_impl_Point_impl_Point_1F_impl_points_1_run {α : Type} (n : Nat) (p : List P1) (κ : Res → Option α) : Option α := slices_ContainsFunc_impl_Point_impl_Point_1F_impl_points_1_runG slices_ContainsFunc_impl_Point_impl_Point_1F_impl_points_1 n p κ
def slices_ContainsFunc_impl_Point_impl_Point_1F_impl_points_1_CG {α : Type} (F0 : Nat → (List (Int × Int)) → (Int → Option α) → Option α) (n : Nat) : FuncId → List D → (Res → Option α) → Option α := tabC [(149, (byShape slices_IndexFunc_impl_Point_impl_Point_1F_impl_points_1_sh (slices_IndexFunc_impl_Point_impl_Point_1F_impl_points_1_runG F0 n)))]
def slices_ContainsFunc_impl_Point_impl_Point_1F_impl_points_1_C {α : Type} (n : Nat) : FuncId → List D → (Res → Option α) → Option α := slices_ContainsFunc_impl_Point_impl_Point_1F_impl_points_1_CG slices_IndexFunc_impl_Point_impl_Point_1F_impl_points_1 n
def slices_ContainsFunc_impl_Point_impl_Point_1F_impl_points_1_M : FuncId → List Nat := tabM []
def slices_ContainsFunc_impl_Point_impl_Point_1F_impl_points_1_lpsG {α : Type}  : List (LoopT α) := []
def slices_ContainsFunc_impl_Point_impl_Point_1F_impl_points_1_lps {α : Type} : List (LoopT α) := slices_ContainsFunc_impl_Point_impl_Point_1F_impl_points_1_lpsG
def slices_ContainsFunc_impl_Point_impl_Point_1F_impl_points_1_XG {α : Type} (F0 : Nat → (List (Int × Int)) → (Int → Option α) → Option α)  (n : Nat) : Ctx α := ⟨slices_ContainsFunc_impl_Point_impl_Point_1F_impl_points_1_CG F0 n, slices_ContainsFunc_impl_Point_impl_Point_1F_impl_points_1_M, eqs, lpOf (slices_ContainsFunc_impl_Point_impl_Point_1F_impl_points_1_lpsG) n⟩
def slices_ContainsFunc_impl_Point_impl_Point_1F_impl_points_1_X {α : Type} (n : Nat) : Ctx α := slices_ContainsFunc_impl_Point_impl_Point_1F_impl_points_1_XG slices_IndexFunc_impl_Point_impl_Point_1F_impl_points_1 n
def slices_ContainsFunc_impl_Point_impl_Point_1F_impl_points_1_Lt (np : Nat) (lent : List (Bool × Nat × Blk)) : Prop := np = 2 ∧ lent = []
def slices_ContainsFunc_impl_Point_impl_Point_1F_impl_points_1_body {α : Type} (F0 : Nat → (List (Int × Int)) → (Int → Option α) → Option α)  (k : Nat) (s : List (Int × Int)) (r0 : Bool → Option α) : Option α :=
  F0 k s fun v =>
  r0 (decide (0 ≤ v))
theorem slices_ContainsFunc_impl_Point_impl_Point_1F_impl_points_1_gen {α : Type} (F0 : Nat → (List (Int × Int)) → (Int → Option α) → Option α)  (n : Nat) (s : List (Int × Int)) (κ : Res → Option α) : evFn Try.prog (slices_ContainsFunc_impl_Point_impl_Point_1F_impl_points_1_XG F0 n) Try.f137 (((buildDs slices_ContainsFunc_impl_Point_impl_Point_1F_impl_points_1_sh [.rows .pt s]).map Prod.fst).getD []) κ = slices_ContainsFunc_impl_Point_impl_Point_1F_impl_points_1_body F0 n s (fun v1 => κ ⟨[.bool v1], []⟩) := by kernel_rfl
theorem slices_ContainsFunc_impl_Point_impl_Point_1F_impl_points_1_ev {α : Type} (n : Nat) (s : List (Int × Int)) (κ : Res → Option α) : evFn Try.prog (slices_ContainsFunc_impl_Point_impl_Point_1F_impl_points_1_X n) Try.f137 (((buildDs slices_ContainsFunc_impl_Point_impl_Point_1F_impl_points_1_sh [.rows .pt s]).map Prod.fst).getD []) κ = slices_ContainsFunc_impl_Point_impl_Point_1F_impl_points_1_run n [.rows .pt s] κ := (slices_ContainsFunc_impl_Point_impl_Point_1F_impl_points_1_gen slices_IndexFunc_impl_Point_impl_Point_1F_impl_points_1 n s κ).trans (by kernel_rfl)
theorem slices_ContainsFunc_impl_Point_impl_Point_1F_impl_points_1_en (s : List (Int × Int)) : (entry 0 (((buildDs slices_ContainsFunc_impl_Point_impl_Point_1F_impl_points_1_sh [.rows .pt s]).map Prod.fst).getD [])).map (fun x => (x.1.length, x.2.lent)) = some (2, []) := by kernel_rfl
theorem slices_ContainsFunc_impl_Point_impl_Point_1F_impl_points_1_good {α : Type} : ∀ n, GoodFn (α := α) Try.prog 137 (byShape slices_ContainsFunc_impl_Point_impl_Point_1F_impl_points_1_sh (slices_ContainsFunc_impl_Point_impl_Point_1F_impl_points_1_run n)) := by
  refine fn_good' Try.func137 (c := (Try.f137.body.getD .skip)) (by kernel_rfl) (by kernel_rfl) (by kernel_rfl) slices_ContainsFunc_impl_Point_impl_Point_1F_impl_points_1_C slices_ContainsFunc_impl_Point_impl_Point_1F_impl_points_1_M eqs slices_ContainsFunc_impl_Point_impl_Point_1F_impl_points_1_lps (fun n => tabC_good (List.forall_mem_cons.2 ⟨(slices_IndexFunc_impl_Point_impl_Point_1F_impl_points_1_good n), (fun _ h => absurd h List.not_mem_nil)⟩)) eqs_ok slices_ContainsFunc_impl_Point_impl_Point_1F_impl_points_1_Lt ?_ ?_ slices_ContainsFunc_impl_Point_impl_Point_1F_impl_points_1_sh slices_ContainsFunc_impl_Point_impl_Point_1F_impl_points_1_run ?_
  · exact (fun _ h => absurd h List.not_mem_nil)
  · exact (fun _ h => absurd h List.not_mem_nil)
  · intro n p κ r ds hd hr
    have hr0 := hr
    unfold slices_ContainsFunc_impl_Point_impl_Point_1F_impl_points_1_run slices_ContainsFunc_impl_Point_impl_Point_1F_impl_points_1_runG at hr
    split at hr
    · rw [← ds_of hd]
      exact ⟨en_of (slices_ContainsFunc_impl_Point_impl_Point_1F_impl_points_1_en _) ⟨rfl, rfl⟩, (slices_ContainsFunc_impl_Point_impl_Point_1F_impl_points_1_ev n _ κ).trans hr0⟩
    · cases hr

/-! loop.example/g01297/impl.points -/
def impl_points_sh : List SkD := [.sl 33 .pt]
def impl_points_runG {α : Type} (F : Nat → (List (Int × Int)) → (Bool → Option α) → Option α) (n : Nat) (p : List P1) (κ : Res → Option α) : Option α := match p with
  | [.rows .pt list] => F n list (fun v1 => κ ⟨[.bool v1], []⟩)
  | _ => none
def impl_points_run {α : Type} (n : Nat) (p : List P1) (κ : Res → Option α) : Option α := impl_points_runG impl_points n p κ
def impl_points_CG {α : Type} (F0 : Nat → (List (Int × Int)) → (Bool → Option α) → Option α) (n : Nat) : FuncId → List D → (Res → Option α) → Option α := tabC [(137, (byShape slices_ContainsFunc_impl_Point_impl_Point_1F_impl_points_1_sh (slices_ContainsFunc_impl_Point_impl_Point_1F_impl_points_1_runG F0 n)))]
def impl_points_C {α : Type} (n : Nat) : FuncId → List D → (Res → Option α) → Option α := impl_points_CG slices_ContainsFunc_impl_Point_impl_Point_1F_impl_points_1 n
def impl_points_M : FuncId → List Nat := tabM []
def impl_points_lpsG {α : Type}  : List (LoopT α) := []
def impl_points_lps {α : Type} : List (LoopT α) := impl_points_lpsG
def impl_points_XG {α : Type} (F0 : Nat → (List (Int × Int)) → (Bool → Option α) → Option α)  (n : Nat) : Ctx α := ⟨impl_points_CG F0 n, impl_points_M, eqs, lpOf (impl_points_lpsG) n⟩
def impl_points_X {α : Type} (n : Nat) : Ctx α := impl_points_XG slices_ContainsFunc_impl_Point_impl_Point_1F_impl_points_1 n
def impl_points_Lt (np : Nat) (lent : List (Bool × Nat × Blk)) : Prop := np = 1 ∧ lent = []
def impl_points_body {α : Type} (F0 : Nat → (List (Int × Int)) → (Bool → Option α) → Option α)  (k : Nat) (list : List (Int × Int)) (r0 : Bool → Option α) : Option α :=
  F0 k list fun v =>
  r0 (!v)
theorem impl_points_gen {α : Type} (F0 : Nat → (List (Int × Int)) → (Bool → Option α) → Option α)  (n : Nat) (list : List (Int × Int)) (κ : Res → Option α) : evFn Try.prog (impl_points_XG F0 n) Try.f114 (((buildDs impl_points_sh [.rows .pt list]).map Prod.fst).getD []) κ = impl_points_body F0 n list (fun v1 => κ ⟨[.bool v1], []⟩) := by kernel_rfl
theorem impl_points_ev {α : Type} (n : Nat) (list : List (Int × Int)) (κ : Res → Option α) : evFn Try.prog (impl_points_X n) Try.f114 (((buildDs impl_points_sh [.rows .pt list]).map Prod.fst).getD []) κ = impl_points_run n [.rows .pt list] κ := (impl_points_gen slices_ContainsFunc_impl_Point_impl_Point_1F_impl_points_1 n list κ).trans (by kernel_rfl)
theorem impl_points_en (list : List (Int × Int)) : (entry 0 (((buildDs impl_points_sh [.rows .pt list]).map Prod.fst).getD [])).map (fun x => (x.1.length, x.2.lent)) = some (1, []) := by kernel_rfl
theorem impl_points_good {α : Type} : ∀ n, GoodFn (α := α) Try.prog 114 (byShape impl_points_sh (impl_points_run n)) := by
  refine fn_good' Try.func114 (c := (Try.f114.body.getD .skip)) (by kernel_rfl) (by kernel_rfl) (by kernel_rfl) impl_points_C impl_points_M eqs impl_points_lps (fun n => tabC_good (List.forall_mem_cons.2 ⟨(slices_ContainsFunc_impl_Point_impl_Point_1F_impl_points_1_good n), (fun _ h => absurd h List.not_mem_nil)⟩)) eqs_ok impl_points_Lt ?_ ?_ impl_points_sh impl_points_run ?_
  · exact (fun _ h => absurd h List.not_mem_nil)
  · exact (fun _ h => absurd h List.not_mem_nil)
  · intro n p κ r ds hd hr
    have hr0 := hr
    unfold impl_points_run impl_points_runG at hr
    split at hr
    · rw [← ds_of hd]
      exact ⟨en_of (impl_points_en _) ⟨rfl, rfl⟩, (impl_points_ev n _ κ).trans hr0⟩
    · cases hr

/-! loop.example/g01297/impl.det -/
def impl_det_sh : List SkD := [.agg [.int .i64, .int .i64], .agg [.int .i64, .int .i64]]
def impl_det_runG {α : Type} (F : Nat → Int → Int → Int → Int → (Int → Option α) → Option α) (n : Nat) (p : List P1) (κ : Res → Option α) : Option α := match p with
  | [.int a, .int a1, .int b_, .int b_1] => F n a a1 b_ b_1 (fun v1 => κ ⟨[.int .i64 v1], []⟩)
  | _ => none
def impl_det_run {α : Type} (n : Nat) (p : List P1) (κ : Res → Option α) : Option α := impl_det_runG impl_det n p κ
def impl_det_CG {α : Type}  (n : Nat) : FuncId → List D → (Res → Option α) → Option α := tabC []
def impl_det_C {α : Type} (n : Nat) : FuncId → List D → (Res → Option α) → Option α := impl_det_CG n
def impl_det_M : FuncId → List Nat := tabM []
def impl_det_lpsG {α : Type}  : List (LoopT α) := []
def impl_det_lps {α : Type} : List (LoopT α) := impl_det_lpsG
def impl_det_XG {α : Type}   (n : Nat) : Ctx α := ⟨impl_det_CG n, impl_det_M, eqs, lpOf (impl_det_lpsG) n⟩
def impl_det_X {α : Type} (n : Nat) : Ctx α := impl_det_XG n
def impl_det_Lt (np : Nat) (lent : List (Bool × Nat × Blk)) : Prop := np = 2 ∧ lent = []
def impl_det_body {α : Type}   (k : Nat) (a : Int) (a1 : Int) (b_ : Int) (b_1 : Int) (r0 : Int → Option α) : Option α :=
  r0 (w64 ((w64 (a * b_1)) - (w64 (a1 * b_))))
theorem impl_det_gen {α : Type}   (n : Nat) (a : Int) (a1 : Int) (b_ : Int) (b_1 : Int) (κ : Res → Option α) : evFn Try.prog (impl_det_XG n) Try.f115 (((buildDs impl_det_sh [.int a, .int a1, .int b_, .int b_1]).map Prod.fst).getD []) κ = impl_det_body n a a1 b_ b_1 (fun v1 => κ ⟨[.int .i64 v1], []⟩) := by kernel_rfl
theorem impl_det_ev {α : Type} (n : Nat) (a : Int) (a1 : Int) (b_ : Int) (b_1 : Int) (κ : Res → Option α) : evFn Try.prog (impl_det_X n) Try.f115 (((buildDs impl_det_sh [.int a, .int a1, .int b_, .int b_1]).map Prod.fst).getD []) κ = impl_det_run n [.int a, .int a1, .int b_, .int b_1] κ := (impl_det_gen n a a1 b_ b_1 κ).trans (by kernel_rfl)
theorem impl_det_en (a : Int) (a1 : Int) (b_ : Int) (b_1 : Int) : (entry 0 (((buildDs impl_det_sh [.int a, .int a1, .int b_, .int b_1]).map Prod.fst).getD [])).map (fun x => (x.1.length, x.2.lent)) = some (2, []) := by kernel_rfl
theorem impl_det_good {α : Type} : ∀ n, GoodFn (α := α) Try.prog 115 (byShape impl_det_sh (impl_det_run n)) := by
  refine fn_good' Try.func115 (c := (Try.f115.body.getD .skip)) (by kernel_rfl) (by kernel_rfl) (by kernel_rfl) impl_det_C impl_det_M eqs impl_det_lps (fun n => tabC_good (fun _ h => absurd h List.not_mem_nil)) eqs_ok impl_det_Lt ?_ ?_ impl_det_sh impl_det_run ?_
  · exact (fun _ h => absurd h List.not_mem_nil)
  · exact (fun _ h => absurd h List.not_mem_nil)
  · intro n p κ r ds hd hr
    have hr0 := hr
    unfold impl_det_run impl_det_runG at hr
    split at hr
    · rw [← ds_of hd]
      exact ⟨en_of (impl_det_en _ _ _ _) ⟨rfl, rfl⟩, (impl_det_ev n _ _ _ _ κ).trans hr0⟩
    · cases hr

/-! loop.example/g01297/impl.pairFault -/
def impl_pairFault_sh : List SkD := [.agg [.int .i64, .int .i64], .agg [.int .i64, .int .i64]]
def impl_pairFault_runG {α : Type} (F : Nat → Int → Int → Int → Int → (Int → Option α) → Option α) (n : Nat) (p : List P1) (κ : Res → Option α) : Option α := match p with
  | [.int a, .int a1, .int b_, .int b_1] => F n a a1 b_ b_1 (fun v1 => κ ⟨[.int .i64 v1], []⟩)
  | _ => none
def impl_pairFault_run {α : Type} (n : Nat) (p : List P1) (κ : Res → Option α) : Option α := impl_pairFault_runG impl_pairFault n p κ
def impl_pairFault_CG {α : Type} (F0 : Nat → (List (Int × Int)) → (Bool → Option α) → Option α) (F1 : Nat → Int → Int → Int → Int → (Int → Option α) → Option α) (n : Nat) : FuncId → List D → (Res → Option α) → Option α := tabC [(114, (byShape impl_points_sh (impl_points_runG F0 n))), (115, (byShape impl_det_sh (impl_det_runG F1 n)))]
def impl_pairFault_C {α : Type} (n : Nat) : FuncId → List D → (Res → Option α) → Option α := impl_pairFault_CG impl_points impl_det n
def impl_pairFault_M : FuncId → List Nat := tabM []
def impl_pairFault_lpsG {α : Type}  : List (LoopT α) := []
def impl_pairFault_lps {α : Type} : List (LoopT α) := impl_pairFault_lpsG
def impl_pairFault_XG {α : Type} (F0 : Nat → (List (Int × Int)) → (Bool → Option α) → Option α) (F1 : Nat → Int → Int → Int → Int → (Int → Option α) → Option α)  (n : Nat) : Ctx α := ⟨impl_pairFault_CG F0 F1 n, impl_pairFault_M, eqs, lpOf (impl_pairFault_lpsG) n⟩
def impl_pairFault_X {α : Type} (n : Nat) : Ctx α := impl_pairFault_XG impl_points impl_det n
def impl_pairFault_Lt (np : Nat) (lent : List (Bool × Nat × Blk)) : Prop := np = 2 ∧ lent = []
def impl_pairFault_body {α : Type} (F0 : Nat → (List (Int × Int)) → (Bool → Option α) → Option α) (F1 : Nat → Int → Int → Int → Int → (Int → Option α) → Option α)  (k : Nat) (a : Int) (a1 : Int) (b_ : Int) (b_1 : Int) (r0 : Int → Option α) : Option α :=
  F0 k [(a, a1), (b_, b_1)] fun v =>
  bif (!v) then
    r0 1
  else
    F1 k a a1 b_ b_1 fun v1 =>
    bif decide (v1 = 0) then
      r0 5
    else
      r0 0
theorem impl_pairFault_gen {α : Type} (F0 : Nat → (List (Int × Int)) → (Bool → Option α) → Option α) (F1 : Nat → Int → Int → Int → Int → (Int → Option α) → Option α)  (n : Nat) (a : Int) (a1 : Int) (b_ : Int) (b_1 : Int) (κ : Res → Option α) : evFn Try.prog (impl_pairFault_XG F0 F1 n) Try.f61 (((buildDs impl_pairFault_sh [.int a, .int a1, .int b_, .int b_1]).map Prod.fst).getD []) κ = impl_pairFault_body F0 F1 n a a1 b_ b_1 (fun v1 => κ ⟨[.int .i64 v1], []⟩) := by kernel_rfl
theorem impl_pairFault_ev {α : Type} (n : Nat) (a : Int) (a1 : Int) (b_ : Int) (b_1 : Int) (κ : Res → Option α) : evFn Try.prog (impl_pairFault_X n) Try.f61 (((buildDs impl_pairFault_sh [.int a, .int a1, .int b_, .int b_1]).map Prod.fst).getD []) κ = impl_pairFault_run n [.int a, .int a1, .int b_, .int b_1] κ := (impl_pairFault_gen impl_points impl_det n a a1 b_ b_1 κ).trans (by kernel_rfl)
theorem impl_pairFault_en (a : Int) (a1 : Int) (b_ : Int) (b_1 : Int) : (entry 0 (((buildDs impl_pairFault_sh [.int a, .int a1, .int b_, .int b_1]).map Prod.fst).getD [])).map (fun x => (x.1.length, x.2.lent)) = some (2, []) := by kernel_rfl
theorem impl_pairFault_good {α : Type} : ∀ n, GoodFn (α := α) Try.prog 61 (byShape impl_pairFault_sh (impl_pairFault_run n)) := by
  refine fn_good' Try.func61 (c := (Try.f61.body.getD .skip)) (by kernel_rfl) (by kernel_rfl) (by kernel_rfl) impl_pairFault_C impl_pairFault_M eqs impl_pairFault_lps (fun n => tabC_good (List.forall_mem_cons.2 ⟨(impl_points_good n), (List.forall_mem_cons.2 ⟨(impl_det_good n), (fun _ h => absurd h List.not_mem_nil)⟩)⟩)) eqs_ok impl_pairFault_Lt ?_ ?_ impl_pairFault_sh impl_pairFault_run ?_
  · exact (fun _ h => absurd h List.not_mem_nil)
  · exact (fun _ h => absurd h List.not_mem_nil)
  · intro n p κ r ds hd hr
    have hr0 := hr
    unfold impl_pairFault_run impl_pairFault_runG at hr
    split at hr
    · rw [← ds_of hd]
      exact ⟨en_of (impl_pairFault_en _ _ _ _) ⟨rfl, rfl⟩, (impl_pairFault_ev n _ _ _ _ κ).trans hr0⟩
    · cases hr

/-! loop.example/g01297/impl.dot -/
def impl_dot_sh : List SkD := [.agg [.int .i64, .int .i64], .agg [.int .i64, .int .i64]]
def impl_dot_runG {α : Type} (F : Nat → Int → Int → Int → Int → (Int → Option α) → Option α) (n : Nat) (p : List P1) (κ : Res → Option α) : Option α := match p with
  | [.int a, .int a1, .int b_, .int b_1] => F n a a1 b_ b_1 (fun v1 => κ ⟨[.int .i64 v1], []⟩)
  | _ => none
def impl_dot_run {α : Type} (n : Nat) (p : List P1) (κ : Res → Option α) : Option α := impl_dot_runG impl_dot n p κ
def impl_dot_CG {α : Type}  (n : Nat) : FuncId → List D → (Res → Option α) → Option α := tabC []
def impl_dot_C {α : Type} (n : Nat) : FuncId → List D → (Res → Option α) → Option α := impl_dot_CG n
def impl_dot_M : FuncId → List Nat := tabM []
def impl_dot_lpsG {α : Type}  : List (LoopT α) := []
def impl_dot_lps {α : Type} : List (LoopT α) := impl_dot_lpsG
def impl_dot_XG {α : Type}   (n : Nat) : Ctx α := ⟨impl_dot_CG n, impl_dot_M, eqs, lpOf (impl_dot_lpsG) n⟩
def impl_dot_X {α : Type} (n : Nat) : Ctx α := impl_dot_XG n
def impl_dot_Lt (np : Nat) (lent : List (Bool × Nat × Blk)) : Prop := np = 2 ∧ lent = []
def impl_dot_body {α : Type}   (k : Nat) (a : Int) (a1 : Int) (b_ : Int) (b_1 : Int) (r0 : Int → Option α) : Option α :=
  r0 (w64 ((w64 (a * b_)) + (w64 (a1 * b_1))))
theorem impl_dot_gen {α : Type}   (n : Nat) (a : Int) (a1 : Int) (b_ : Int) (b_1 : Int) (κ : Res → Option α) : evFn Try.prog (impl_dot_XG n) Try.f66 (((buildDs impl_dot_sh [.int a, .int a1, .int b_, .int b_1]).map Prod.fst).getD []) κ = impl_dot_body n a a1 b_ b_1 (fun v1 => κ ⟨[.int .i64 v1], []⟩) := by kernel_rfl
theorem impl_dot_ev {α : Type} (n : Nat) (a : Int) (a1 : Int) (b_ : Int) (b_1 : Int) (κ : Res → Option α) : evFn Try.prog (impl_dot_X n) Try.f66 (((buildDs impl_dot_sh [.int a, .int a1, .int b_, .int b_1]).map Prod.fst).getD []) κ = impl_dot_run n [.int a, .int a1, .int b_, .int b_1] κ := (impl_dot_gen n a a1 b_ b_1 κ).trans (by kernel_rfl)
theorem impl_dot_en (a : Int) (a1 : Int) (b_ : Int) (b_1 : Int) : (entry 0 (((buildDs impl_dot_sh [.int a, .int a1, .int b_, .int b_1]).map Prod.fst).getD [])).map (fun x => (x.1.length, x.2.lent)) = some (2, []) := by kernel_rfl
theorem impl_dot_good {α : Type} : ∀ n, GoodFn (α := α) Try.prog 66 (byShape impl_dot_sh (impl_dot_run n)) := by
  refine fn_good' Try.func66 (c := (Try.f66.body.getD .skip)) (by kernel_rfl) (by kernel_rfl) (by kernel_rfl) impl_dot_C impl_dot_M eqs impl_dot_lps (fun n => tabC_good (fun _ h => absurd h List.not_mem_nil)) eqs_ok impl_dot_Lt ?_ ?_ impl_dot_sh impl_dot_run ?_
  · exact (fun _ h => absurd h List.not_mem_nil)
  · exact (fun _ h => absurd h List.not_mem_nil)
  · intro n p κ r ds hd hr
    have hr0 := hr
    unfold impl_dot_run impl_dot_runG at hr
    split at hr
    · rw [← ds_of hd]
      exact ⟨en_of (impl_dot_en _ _ _ _) ⟨rfl, rfl⟩, (impl_dot_ev n _ _ _ _ κ).trans hr0⟩
    · cases hr

/-! (loop.example/g01297/impl.Point).norm -/
def impl_Point_norm_sh : List SkD := [.agg [.int .i64, .int .i64]]
def impl_Point_norm_runG {α : Type} (F : Nat → Int → Int → (Int → Option α) → Option α) (n : Nat) (p : List P1) (κ : Res → Option α) : Option α := match p with
  | [.int a, .int a1] => F n a a1 (fun v1 => κ ⟨[.int .i64 v1], []⟩)
  | _ => none
def impl_Point_norm_run {α : Type} (n : Nat) (p : List P1) (κ : Res → Option α) : Option α := impl_Point_norm_runG impl_Point_norm n p κ
def impl_Point_norm_CG {α : Type} (F0 : Nat → Int → Int → Int → Int → (Int → Option α) → Option α) (n : Nat) : FuncId → List D → (Res → Option α) → Option α := tabC [(66, (byShape impl_dot_sh (impl_dot_runG F0 n)))]
def impl_Point_norm_C {α : Type} (n : Nat) : FuncId → List D → (Res → Option α) → Option α := impl_Point_norm_CG impl_dot n
def impl_Point_norm_M : FuncId → List Nat := tabM []
def impl_Point_norm_lpsG {α : Type}  : List (LoopT α) := []
def impl_Point_norm_lps {α : Type} : List (LoopT α) := impl_Point_norm_lpsG
def impl_Point_norm_XG {α : Type} (F0 : Nat → Int → Int → Int → Int → (Int → Option α) → Option α)  (n : Nat) : Ctx α := ⟨impl_Point_norm_CG F0 n, impl_Point_norm_M, eqs, lpOf (impl_Point_norm_lpsG) n⟩
def impl_Point_norm_X {α : Type} (n : Nat) : Ctx α := impl_Point_norm_XG impl_dot n
def impl_Point_norm_Lt (np : Nat) (lent : List (Bool × Nat × Blk)) : Prop := np = 1 ∧ lent = []
def impl_Point_norm_body {α : Type} (F0 : Nat → Int → Int → Int → Int → (Int → Option α) → Option α)  (k : Nat) (a : Int) (a1 : Int) (r0 : Int → Option α) : Option α :=
  F0 k a a1 a a1 fun v =>
  r0 v
theorem impl_Point_norm_gen {α : Type} (F0 : Nat → Int → Int → Int → Int → (Int → Option α) → Option α)  (n : Nat) (a : Int) (a1 : Int) (κ : Res → Option α) : evFn Try.prog (impl_Point_norm_XG F0 n) Try.f63 (((buildDs impl_Point_norm_sh [.int a, .int a1]).map Prod.fst).getD []) κ = impl_Point_norm_body F0 n a a1 (fun v1 => κ ⟨[.int .i64 v1], []⟩) := by kernel_rfl
theorem impl_Point_norm_ev {α : Type} (n : Nat) (a : Int) (a1 : Int) (κ : Res → Option α) : evFn Try.prog (impl_Point_norm_X n) Try.f63 (((buildDs impl_Point_norm_sh [.int a, .int a1]).map Prod.fst).getD []) κ = impl_Point_norm_run n [.int a, .int a1] κ := (impl_Point_norm_gen impl_dot n a a1 κ).trans (by kernel_rfl)
theorem impl_Point_norm_en (a : Int) (a1 : Int) : (entry 0 (((buildDs impl_Point_norm_sh [.int a, .int a1]).map Prod.fst).getD [])).map (fun x => (x.1.length, x.2.lent)) = some (1, []) := by kernel_rfl
theorem impl_Point_norm_good {α : Type} : ∀ n, GoodFn (α := α) Try.prog 63 (byShape impl_Point_norm_sh (impl_Point_norm_run n)) := by
  refine fn_good' Try.func63 (c := (Try.f63.body.getD .skip)) (by kernel_rfl) (by kernel_rfl) (by kernel_rfl) impl_Point_norm_C impl_Point_norm_M eqs impl_Point_norm_lps (fun n => tabC_good (List.forall_mem_cons.2 ⟨(impl_dot_good n), (fun _ h => absurd h List.not_mem_nil)⟩)) eqs_ok impl_Point_norm_Lt ?_ ?_ impl_Point_norm_sh impl_Point_norm_run ?_
  · exact (fun _ h => absurd h List.not_mem_nil)
  · exact (fun _ h => absurd h List.not_mem_nil)
  · intro n p κ r ds hd hr
    have hr0 := hr
    unfold impl_Point_norm_run impl_Point_norm_runG at hr
    split at hr
    · rw [← ds_of hd]
      exact ⟨en_of (impl_Point_norm_en _ _) ⟨rfl, rfl⟩, (impl_Point_norm_ev n _ _ κ).trans hr0⟩
    · cases hr

/-! loop.example/g01297/impl.size -/
def impl_size_sh : List SkD := [.int .i64]
def impl_size_runG {α : Type} (F : Nat → Int → (Int → Option α) → Option α) (n : Nat) (p : List P1) (κ : Res → Option α) : Option α := match p with
  | [.int n_] => F n n_ (fun v1 => κ ⟨[.int .i64 v1], []⟩)
  | _ => none
def impl_size_run {α : Type} (n : Nat) (p : List P1) (κ : Res → Option α) : Option α := impl_size_runG impl_size n p κ
def impl_size_CG {α : Type}  (n : Nat) : FuncId → List D → (Res → Option α) → Option α := tabC []
def impl_size_C {α : Type} (n : Nat) : FuncId → List D → (Res → Option α) → Option α := impl_size_CG n
def impl_size_M : FuncId → List Nat := tabM []
def impl_size_lpsG {α : Type}  : List (LoopT α) := []
def impl_size_lps {α : Type} : List (LoopT α) := impl_size_lpsG
def impl_size_XG {α : Type}   (n : Nat) : Ctx α := ⟨impl_size_CG n, impl_size_M, eqs, lpOf (impl_size_lpsG) n⟩
def impl_size_X {α : Type} (n : Nat) : Ctx α := impl_size_XG n
def impl_size_Lt (np : Nat) (lent : List (Bool × Nat × Blk)) : Prop := np = 1 ∧ lent = []
def impl_size_body {α : Type}   (k : Nat) (n_ : Int) (r0 : Int → Option α) : Option α :=
  r0 (max n_ (w64 (0 - n_)))
theorem impl_size_gen {α : Type}   (n : Nat) (n_ : Int) (κ : Res → Option α) : evFn Try.prog (impl_size_XG n) Try.f116 (((buildDs impl_size_sh [.int n_]).map Prod.fst).getD []) κ = impl_size_body n n_ (fun v1 => κ ⟨[.int .i64 v1], []⟩) := by kernel_rfl
theorem impl_size_ev {α : Type} (n : Nat) (n_ : Int) (κ : Res → Option α) : evFn Try.prog (impl_size_X n) Try.f116 (((buildDs impl_size_sh [.int n_]).map Prod.fst).getD []) κ = impl_size_run n [.int n_] κ := (impl_size_gen n n_ κ).trans (by kernel_rfl)
theorem impl_size_en (n_ : Int) : (entry 0 (((buildDs impl_size_sh [.int n_]).map Prod.fst).getD [])).map (fun x => (x.1.length, x.2.lent)) = some (1, []) := by kernel_rfl
theorem impl_size_good {α : Type} : ∀ n, GoodFn (α := α) Try.prog 116 (byShape impl_size_sh (impl_size_run n)) := by
  refine fn_good' Try.func116 (c := (Try.f116.body.getD .skip)) (by kernel_rfl) (by kernel_rfl) (by kernel_rfl) impl_size_C impl_size_M eqs impl_size_lps (fun n => tabC_good (fun _ h => absurd h List.not_mem_nil)) eqs_ok impl_size_Lt ?_ ?_ impl_size_sh impl_size_run ?_
  · exact (fun _ h => absurd h List.not_mem_nil)
  · exact (fun _ h => absurd h List.not_mem_nil)
  · intro n p κ r ds hd hr
    have hr0 := hr
    unfold impl_size_run impl_size_runG at hr
    split at hr
    · rw [← ds_of hd]
      exact ⟨en_of (impl_size_en _) ⟨rfl, rfl⟩, (impl_size_ev n _ κ).trans hr0⟩
    · cases hr

/-! loop.example/g01297/impl.isReduced -/
def impl_isReduced_sh : List SkD := [.agg [.int .i64, .int .i64], .agg [.int .i64, .int .i64]]
def impl_isReduced_runG {α : Type} (F : Nat → Int → Int → Int → Int → (Bool → Option α) → Option α) (n : Nat) (p : List P1) (κ : Res → Option α) : Option α := match p with
  | [.int a, .int a1, .int b_, .int b_1] => F n a a1 b_ b_1 (fun v1 => κ ⟨[.bool v1], []⟩)
  | _ => none
def impl_isReduced_run {α : Type} (n : Nat) (p : List P1) (κ : Res → Option α) : Option α := impl_isReduced_runG impl_isReduced n p κ
def impl_isReduced_CG {α : Type} (F0 : Nat → Int → Int → (Int → Option α) → Option α) (F1 : Nat → Int → Int → Int → Int → (Int → Option α) → Option α) (F2 : Nat → Int → (Int → Option α) → Option α) (n : Nat) : FuncId → List D → (Res → Option α) → Option α := tabC [(63, (byShape impl_Point_norm_sh (impl_Point_norm_runG F0 n))), (66, (byShape impl_dot_sh (impl_dot_runG F1 n))), (116, (byShape impl_size_sh (impl_size_runG F2 n)))]
def impl_isReduced_C {α : Type} (n : Nat) : FuncId → List D → (Res → Option α) → Option α := impl_isReduced_CG impl_Point_norm impl_dot impl_size n
def impl_isReduced_M : FuncId → List Nat := tabM []
def impl_isReduced_lpsG {α : Type}  : List (LoopT α) := []
def impl_isReduced_lps {α : Type} : List (LoopT α) := impl_isReduced_lpsG
def impl_isReduced_XG {α : Type} (F0 : Nat → Int → Int → (Int → Option α) → Option α) (F1 : Nat → Int → Int → Int → Int → (Int → Option α) → Option α) (F2 : Nat → Int → (Int → Option α) → Option α)  (n : Nat) : Ctx α := ⟨impl_isReduced_CG F0 F1 F2 n, impl_isReduced_M, eqs, lpOf (impl_isReduced_lpsG) n⟩
def impl_isReduced_X {α : Type} (n : Nat) : Ctx α := impl_isReduced_XG impl_Point_norm impl_dot impl_size n
def impl_isReduced_Lt (np : Nat) (lent : List (Bool × Nat × Blk)) : Prop := np = 2 ∧ lent = []
def impl_isReduced_body {α : Type} (F0 : Nat → Int → Int → (Int → Option α) → Option α) (F1 : Nat → Int → Int → Int → Int → (Int → Option α) → Option α) (F2 : Nat → Int → (Int → Option α) → Option α)  (k : Nat) (a : Int) (a1 : Int) (b_ : Int) (b_1 : Int) (r0 : Bool → Option α) : Option α :=
  F0 k a a1 fun v =>
  F0 k b_ b_1 fun v1 =>
  bif decide (v ≤ v1) then
    F1 k a a1 b_ b_1 fun v2 =>
    F2 k v2 fun v3 =>
    F0 k a a1 fun v4 =>
    r0 (decide ((w64 (2 * v3)) ≤ v4))
  else
    r0 false
theorem impl_isReduced_gen {α : Type} (F0 : Nat → Int → Int → (Int → Option α) → Option α) (F1 : Nat → Int → Int → Int → Int → (Int → Option α) → Option α) (F2 : Nat → Int → (Int → Option α) → Option α)  (n : Nat) (a : Int) (a1 : Int) (b_ : Int) (b_1 : Int) (κ : Res → Option α) : evFn Try.prog (impl_isReduced_XG F0 F1 F2 n) Try.f62 (((buildDs impl_isReduced_sh [.int a, .int a1, .int b_, .int b_1]).map Prod.fst).getD []) κ = impl_isReduced_body F0 F1 F2 n a a1 b_ b_1 (fun v1 => κ ⟨[.bool v1], []⟩) := by kernel_rfl
theorem impl_isReduced_ev {α : Type} (n : Nat) (a : Int) (a1 : Int) (b_ : Int) (b_1 : Int) (κ : Res → Option α) : evFn Try.prog (impl_isReduced_X n) Try.f62 (((buildDs impl_isReduced_sh [.int a, .int a1, .int b_, .int b_1]).map Prod.fst).getD []) κ = impl_isReduced_run n [.int a, .int a1, .int b_, .int b_1] κ := (impl_isReduced_gen impl_Point_norm impl_dot impl_size n a a1 b_ b_1 κ).trans (by kernel_rfl)
theorem impl_isReduced_en (a : Int) (a1 : Int) (b_ : Int) (b_1 : Int) : (entry 0 (((buildDs impl_isReduced_sh [.int a, .int a1, .int b_, .int b_1]).map Prod.fst).getD [])).map (fun x => (x.1.length, x.2.lent)) = some (2, []) := by kernel_rfl
theorem impl_isReduced_good {α : Type} : ∀ n, GoodFn (α := α) Try.prog 62 (byShape impl_isReduced_sh (impl_isReduced_run n)) := by
  refine fn_good' Try.func62 (c := (Try.f62.body.getD .skip)) (by kernel_rfl) (by kernel_rfl) (by kernel_rfl) impl_isReduced_C impl_isReduced_M eqs impl_isReduced_lps (fun n => tabC_good (List.forall_mem_cons.2 ⟨(impl_Point_norm_good n), (List.forall_mem_cons.2 ⟨(impl_dot_good n), (List.forall_mem_cons.2 ⟨(impl_size_good n), (fun _ h => absurd h List.not_mem_nil)⟩)⟩)⟩)) eqs_ok impl_isReduced_Lt ?_ ?_ impl_isReduced_sh impl_isReduced_run ?_
  · exact (fun _ h => absurd h List.not_mem_nil)
  · exact (fun _ h => absurd h List.not_mem_nil)
  · intro n p κ r ds hd hr
    have hr0 := hr
    unfold impl_isReduced_run impl_isReduced_runG at hr
    split at hr
    · rw [← ds_of hd]
      exact ⟨en_of (impl_isReduced_en _ _ _ _) ⟨rfl, rfl⟩, (impl_isReduced_ev n _ _ _ _ κ).trans hr0⟩
    · cases hr

/-! loop.example/g01297/impl.floor -/
def impl_floor_sh : List SkD := [.int .i64, .int .i64]
def impl_floor_runG {α : Type} (F : Nat → Int → Int → (Int → Option α) → Option α) (n : Nat) (p : List P1) (κ : Res → Option α) : Option α := match p with
  | [.int a, .int b_] => F n a b_ (fun v1 => κ ⟨[.int .i64 v1], []⟩)
  | _ => none
def impl_floor_run {α : Type} (n : Nat) (p : List P1) (κ : Res → Option α) : Option α := impl_floor_runG impl_floor n p κ
def impl_floor_CG {α : Type}  (n : Nat) : FuncId → List D → (Res → Option α) → Option α := tabC []
def impl_floor_C {α : Type} (n : Nat) : FuncId → List D → (Res → Option α) → Option α := impl_floor_CG n
def impl_floor_M : FuncId → List Nat := tabM []
def impl_floor_lpsG {α : Type}  : List (LoopT α) := []
def impl_floor_lps {α : Type} : List (LoopT α) := impl_floor_lpsG
def impl_floor_XG {α : Type}   (n : Nat) : Ctx α := ⟨impl_floor_CG n, impl_floor_M, eqs, lpOf (impl_floor_lpsG) n⟩
def impl_floor_X {α : Type} (n : Nat) : Ctx α := impl_floor_XG n
def impl_floor_Lt (np : Nat) (lent : List (Bool × Nat × Blk)) : Prop := np = 2 ∧ lent = []
def impl_floor_body {α : Type}   (k : Nat) (a : Int) (b_ : Int) (r0 : Int → Option α) : Option α :=
  bif decide (b_ = 0) then
    none
  else
  bif decide (b_ = 0) then
    none
  else
  bif (!decide ((Int.tmod a b_) = 0)) then
    bif (!(decide (a < 0) == decide (b_ < 0))) then
      r0 (w64 ((w64 (Int.tdiv a b_)) - 1))
    else
      r0 (w64 (Int.tdiv a b_))
  else
    r0 (w64 (Int.tdiv a b_))
theorem impl_floor_gen {α : Type}   (n : Nat) (a : Int) (b_ : Int) (κ : Res → Option α) : evFn Try.prog (impl_floor_XG n) Try.f65 (((buildDs impl_floor_sh [.int a, .int b_]).map Prod.fst).getD []) κ = impl_floor_body n a b_ (fun v1 => κ ⟨[.int .i64 v1], []⟩) := by kernel_rfl
theorem impl_floor_ev {α : Type} (n : Nat) (a : Int) (b_ : Int) (κ : Res → Option α) : evFn Try.prog (impl_floor_X n) Try.f65 (((buildDs impl_floor_sh [.int a, .int b_]).map Prod.fst).getD []) κ = impl_floor_run n [.int a, .int b_] κ := (impl_floor_gen n a b_ κ).trans (by kernel_rfl)
theorem impl_floor_en (a : Int) (b_ : Int) : (entry 0 (((buildDs impl_floor_sh [.int a, .int b_]).map Prod.fst).getD [])).map (fun x => (x.1.length, x.2.lent)) = some (2, []) := by kernel_rfl
theorem impl_floor_good {α : Type} : ∀ n, GoodFn (α := α) Try.prog 65 (byShape impl_floor_sh (impl_floor_run n)) := by
  refine fn_good' Try.func65 (c := (Try.f65.body.getD .skip)) (by kernel_rfl) (by kernel_rfl) (by kernel_rfl) impl_floor_C impl_floor_M eqs impl_floor_lps (fun n => tabC_good (fun _ h => absurd h List.not_mem_nil)) eqs_ok impl_floor_Lt ?_ ?_ impl_floor_sh impl_floor_run ?_
  · exact (fun _ h => absurd h List.not_mem_nil)
  · exact (fun _ h => absurd h List.not_mem_nil)
  · intro n p κ r ds hd hr
    have hr0 := hr
    unfold impl_floor_run impl_floor_runG at hr
    split at hr
    · rw [← ds_of hd]
      exact ⟨en_of (impl_floor_en _ _) ⟨rfl, rfl⟩, (impl_floor_ev n _ _ κ).trans hr0⟩
    · cases hr

/-! (loop.example/g01297/impl.Point).plus -/
def impl_Point_plus_sh : List SkD := [.agg [.int .i64, .int .i64], .agg [.int .i64, .int .i64], .int .i64]
def impl_Point_plus_runG {α : Type} (F : Nat → Int → Int → Int → Int → Int → (Int → Int → Option α) → Option α) (n : Nat) (p : List P1) (κ : Res → Option α) : Option α := match p with
  | [.int a, .int a1, .int b_, .int b_1, .int k_] => F n a a1 b_ b_1 k_ (fun v1 v2 => κ ⟨[.agg [.int .i64 v1, .int .i64 v2]], []⟩)
  | _ => none
def impl_Point_plus_run {α : Type} (n : Nat) (p : List P1) (κ : Res → Option α) : Option α := impl_Point_plus_runG impl_Point_plus n p κ
def impl_Point_plus_CG {α : Type}  (n : Nat) : FuncId → List D → (Res → Option α) → Option α := tabC []
def impl_Point_plus_C {α : Type} (n : Nat) : FuncId → List D → (Res → Option α) → Option α := impl_Point_plus_CG n
def impl_Point_plus_M : FuncId → List Nat := tabM []
def impl_Point_plus_lpsG {α : Type}  : List (LoopT α) := []
def impl_Point_plus_lps {α : Type} : List (LoopT α) := impl_Point_plus_lpsG
def impl_Point_plus_XG {α : Type}   (n : Nat) : Ctx α := ⟨impl_Point_plus_CG n, impl_Point_plus_M, eqs, lpOf (impl_Point_plus_lpsG) n⟩
def impl_Point_plus_X {α : Type} (n : Nat) : Ctx α := impl_Point_plus_XG n
def impl_Point_plus_Lt (np : Nat) (lent : List (Bool × Nat × Blk)) : Prop := np = 3 ∧ lent = []
def impl_Point_plus_body {α : Type}   (k : Nat) (a : Int) (a1 : Int) (b_ : Int) (b_1 : Int) (k_ : Int) (r0 : Int → Int → Option α) : Option α :=
  r0 (w64 (a + (w64 (k_ * b_)))) (w64 (a1 + (w64 (k_ * b_1))))
theorem impl_Point_plus_gen {α : Type}   (n : Nat) (a : Int) (a1 : Int) (b_ : Int) (b_1 : Int) (k_ : Int) (κ : Res → Option α) : evFn Try.prog (impl_Point_plus_XG n) Try.f64 (((buildDs impl_Point_plus_sh [.int a, .int a1, .int b_, .int b_1, .int k_]).map Prod.fst).getD []) κ = impl_Point_plus_body n a a1 b_ b_1 k_ (fun v1 v2 => κ ⟨[.agg [.int .i64 v1, .int .i64 v2]], []⟩) := by kernel_rfl
theorem impl_Point_plus_ev {α : Type} (n : Nat) (a : Int) (a1 : Int) (b_ : Int) (b_1 : Int) (k_ : Int) (κ : Res → Option α) : evFn Try.prog (impl_Point_plus_X n) Try.f64 (((buildDs impl_Point_plus_sh [.int a, .int a1, .int b_, .int b_1, .int k_]).map Prod.fst).getD []) κ = impl_Point_plus_run n [.int a, .int a1, .int b_, .int b_1, .int k_] κ := (impl_Point_plus_gen n a a1 b_ b_1 k_ κ).trans (by kernel_rfl)
theorem impl_Point_plus_en (a : Int) (a1 : Int) (b_ : Int) (b_1 : Int) (k_ : Int) : (entry 0 (((buildDs impl_Point_plus_sh [.int a, .int a1, .int b_, .int b_1, .int k_]).map Prod.fst).getD [])).map (fun x => (x.1.length, x.2.lent)) = some (3, []) := by kernel_rfl
theorem impl_Point_plus_good {α : Type} : ∀ n, GoodFn (α := α) Try.prog 64 (byShape impl_Point_plus_sh (impl_Point_plus_run n)) := by
  refine fn_good' Try.func64 (c := (Try.f64.body.getD .skip)) (by kernel_rfl) (by kernel_rfl) (by kernel_rfl) impl_Point_plus_C impl_Point_plus_M eqs impl_Point_plus_lps (fun n => tabC_good (fun _ h => absurd h List.not_mem_nil)) eqs_ok impl_Point_plus_Lt ?_ ?_ impl_Point_plus_sh impl_Point_plus_run ?_
  · exact (fun _ h => absurd h List.not_mem_nil)
  · exact (fun _ h => absurd h List.not_mem_nil)
  · intro n p κ r ds hd hr
    have hr0 := hr
    unfold impl_Point_plus_run impl_Point_plus_runG at hr
    split at hr
    · rw [← ds_of hd]
      exact ⟨en_of (impl_Point_plus_en _ _ _ _ _) ⟨rfl, rfl⟩, (impl_Point_plus_ev n _ _ _ _ _ κ).trans hr0⟩
    · cases hr

/-! loop.example/g01297/impl.ReducePair -/
def impl_ReducePair_sh : List SkD := [.agg [.int .i64, .int .i64], .agg [.int .i64, .int .i64]]
def impl_ReducePair_runG {α : Type} (F : Nat → Int → Int → Int → Int → (Int → Option α) → ((List (Int × Int)) → Int → Option α) → Option α) (n : Nat) (p : List P1) (κ : Res → Option α) : Option α := match p with
  | [.int a, .int a1, .int b_, .int b_1] => F n a a1 b_ b_1 (fun v1 => κ ⟨[.nilsl, .int .i64 v1], []⟩) (fun v1 v2 => κ ⟨[.sl 33 .pt v1, .int .i64 v2], []⟩)
  | _ => none
def impl_ReducePair_run {α : Type} (n : Nat) (p : List P1) (κ : Res → Option α) : Option α := impl_ReducePair_runG impl_ReducePair n p κ
def impl_ReducePair_CG {α : Type} (F0 : Nat → Int → Int → Int → Int → (Int → Option α) → Option α) (F1 : Nat → Int → Int → Int → Int → (Bool → Option α) → Option α) (F2 : Nat → Int → Int → (Int → Option α) → Option α) (F3 : Nat → Int → Int → Int → Int → (Int → Option α) → Option α) (F4 : Nat → Int → Int → (Int → Option α) → Option α) (F5 : Nat → Int → Int → Int → Int → Int → (Int → Int → Option α) → Option α) (n : Nat) : FuncId → List D → (Res → Option α) → Option α := tabC [(61, (byShape impl_pairFault_sh (impl_pairFault_runG F0 n))), (62, (byShape impl_isReduced_sh (impl_isReduced_runG F1 n))), (63, (byShape impl_Point_norm_sh (impl_Point_norm_runG F2 n))), (66, (byShape impl_dot_sh (impl_dot_runG F3 n))), (65, (byShape impl_floor_sh (impl_floor_runG F4 n))), (64, (byShape impl_Point_plus_sh (impl_Point_plus_runG F5 n)))]
def impl_ReducePair_C {α : Type} (n : Nat) : FuncId → List D → (Res → Option α) → Option α := impl_ReducePair_CG impl_pairFault impl_isReduced impl_Point_norm impl_dot impl_floor impl_Point_plus n
def impl_ReducePair_M : FuncId → List Nat := tabM []
def impl_ReducePair_t4 : Tpl := ⟨[.any, .any, .ptr 128 0 0, .ptr 192 0 0, .any, .any, .any, .any, .any, .any, .any, .any, .any, .any, .any, .any, .any, .any, .any, .any, .any, .any, .any, .any, .any, .any, .any, .any, .any, .any, .any, .any, .any, .any, .any, .any, .any, .any, .any, .any, .any, .any], [(128, .ints 2 33 .i64 2), (192, .ints 2 33 .i64 2)], []⟩
def impl_ReducePair_uG4 {α : Type} (G : Nat → Int → Int → Int → Int → (Int → Int → Int → Int → Option α) → (Int → Option α) → ((List (Int × Int)) → Int → Option α) → Option α) (n : Nat) (p : List P1) (brk : Nat → List P1 → Option α) (ret : Res → Option α) : Option α := match p with
  | [.int a2, .int a3, .int b_2, .int b_3] => G n a2 a3 b_2 b_3 (fun a2 a3 b_2 b_3 => brk 0 [.int a2, .int a3, .int b_2, .int b_3]) (fun v1 => ret ⟨[.nilsl, .int .i64 v1], []⟩) (fun v1 v2 => ret ⟨[.sl 33 .pt v1, .int .i64 v2], []⟩)
  | _ => none
def impl_ReducePair_u4 {α : Type} (n : Nat) (p : List P1) (brk : Nat → List P1 → Option α) (ret : Res → Option α) : Option α := impl_ReducePair_uG4 impl_ReducePair_l4 n p brk ret
def impl_ReducePair_lpsG {α : Type} (G4 : Nat → Int → Int → Int → Int → (Int → Int → Int → Int → Option α) → (Int → Option α) → ((List (Int × Int)) → Int → Option α) → Option α) : List (LoopT α) := [⟨4, impl_ReducePair_t4, impl_ReducePair_uG4 G4⟩]
def impl_ReducePair_lps {α : Type} : List (LoopT α) := impl_ReducePair_lpsG impl_ReducePair_l4
def impl_ReducePair_XG {α : Type} (F0 : Nat → Int → Int → Int → Int → (Int → Option α) → Option α) (F1 : Nat → Int → Int → Int → Int → (Bool → Option α) → Option α) (F2 : Nat → Int → Int → (Int → Option α) → Option α) (F3 : Nat → Int → Int → Int → Int → (Int → Option α) → Option α) (F4 : Nat → Int → Int → (Int → Option α) → Option α) (F5 : Nat → Int → Int → Int → Int → Int → (Int → Int → Option α) → Option α) (G4 : Nat → Int → Int → Int → Int → (Int → Int → Int → Int → Option α) → (Int → Option α) → ((List (Int × Int)) → Int → Option α) → Option α) (n : Nat) : Ctx α := ⟨impl_ReducePair_CG F0 F1 F2 F3 F4 F5 n, impl_ReducePair_M, eqs, lpOf (impl_ReducePair_lpsG G4) n⟩
def impl_ReducePair_X {α : Type} (n : Nat) : Ctx α := impl_ReducePair_XG impl_pairFault impl_isReduced impl_Point_norm impl_dot impl_floor impl_Point_plus impl_ReducePair_l4 n
def impl_ReducePair_Lt (np : Nat) (lent : List (Bool × Nat × Blk)) : Prop := np = 2 ∧ lent = []
def impl_ReducePair_lb4 {α : Type} (F0 : Nat → Int → Int → Int → Int → (Int → Option α) → Option α) (F1 : Nat → Int → Int → Int → Int → (Bool → Option α) → Option α) (F2 : Nat → Int → Int → (Int → Option α) → Option α) (F3 : Nat → Int → Int → Int → Int → (Int → Option α) → Option α) (F4 : Nat → Int → Int → (Int → Option α) → Option α) (F5 : Nat → Int → Int → Int → Int → Int → (Int → Int → Option α) → Option α) (G4 : Nat → Int → Int → Int → Int → (Int → Int → Int → Int → Option α) → (Int → Option α) → ((List (Int × Int)) → Int → Option α) → Option α) (k : Nat) (a2 : Int) (a3 : Int) (b_2 : Int) (b_3 : Int) (b0 : Int → Int → Int → Int → Option α) (r0 : Int → Option α) (r1 : (List (Int × Int)) → Int → Option α) : Option α :=
  F1 k a2 a3 b_2 b_3 fun v1 =>
  bif (!v1) then
    F2 k a2 a3 fun v2 =>
    F2 k b_2 b_3 fun v3 =>
    bif decide (v3 < v2) then
      G4 k b_2 b_3 a2 a3 b0 r0 r1
    else
      F3 k a2 a3 b_2 b_3 fun v4 =>
      F2 k a2 a3 fun v5 =>
      F2 k a2 a3 fun v6 =>
      F4 k (w64 ((w64 (2 * v4)) + v5)) (w64 (2 * v6)) fun v7 =>
      F5 k b_2 b_3 a2 a3 (w64 (0 - v7)) fun v8 v9 =>
      G4 k a2 a3 v8 v9 b0 r0 r1
  else
    b0 a2 a3 b_2 b_3
theorem impl_ReducePair_l4_gen {α : Type} (F0 : Nat → Int → Int → Int → Int → (Int → Option α) → Option α) (F1 : Nat → Int → Int → Int → Int → (Bool → Option α) → Option α) (F2 : Nat → Int → Int → (Int → Option α) → Option α) (F3 : Nat → Int → Int → Int → Int → (Int → Option α) → Option α) (F4 : Nat → Int → Int → (Int → Option α) → Option α) (F5 : Nat → Int → Int → Int → Int → Int → (Int → Int → Option α) → Option α) (G4 : Nat → Int → Int → Int → Int → (Int → Int → Int → Int → Option α) → (Int → Option α) → ((List (Int × Int)) → Int → Option α) → Option α) (n : Nat) (a2 : Int) (a3 : Int) (b_2 : Int) (b_3 : Int) (brk : Nat → List P1 → Option α) (ret : Res → Option α) : ev ((impl_ReducePair_XG F0 F1 F2 F3 F4 F5 G4 n).env Try.prog Try.f20 2 []) (findLoop (loopsIn (Try.f20.body.getD .skip)) 4) ((impl_ReducePair_t4.build [.int a2, .int a3, .int b_2, .int b_3]).getD ⟨[], []⟩) (roundK (2 * 64) impl_ReducePair_t4 (fun q => impl_ReducePair_uG4 G4 n q brk ret) brk ret) = impl_ReducePair_lb4 F0 F1 F2 F3 F4 F5 G4 n a2 a3 b_2 b_3 (fun a2 a3 b_2 b_3 => brk 0 [.int a2, .int a3, .int b_2, .int b_3]) (fun v1 => ret ⟨[.nilsl, .int .i64 v1], []⟩) (fun v1 v2 => ret ⟨[.sl 33 .pt v1, .int .i64 v2], []⟩) := by kernel_rfl
theorem impl_ReducePair_l4_ev {α : Type} (n : Nat) (a2 : Int) (a3 : Int) (b_2 : Int) (b_3 : Int) (brk : Nat → List P1 → Option α) (ret : Res → Option α) : ev ((impl_ReducePair_X n).env Try.prog Try.f20 2 []) (findLoop (loopsIn (Try.f20.body.getD .skip)) 4) ((impl_ReducePair_t4.build [.int a2, .int a3, .int b_2, .int b_3]).getD ⟨[], []⟩) (roundK (2 * 64) impl_ReducePair_t4 (fun q => impl_ReducePair_u4 n q brk ret) brk ret) = impl_ReducePair_u4 (n + 1) [.int a2, .int a3, .int b_2, .int b_3] brk ret := (impl_ReducePair_l4_gen impl_pairFault impl_isReduced impl_Point_norm impl_dot impl_floor impl_Point_plus impl_ReducePair_l4 n a2 a3 b_2 b_3 brk ret).trans (by kernel_rfl)
def impl_ReducePair_body {α : Type} (F0 : Nat → Int → Int → Int → Int → (Int → Option α) → Option α) (F1 : Nat → Int → Int → Int → Int → (Bool → Option α) → Option α) (F2 : Nat → Int → Int → (Int → Option α) → Option α) (F3 : Nat → Int → Int → Int → Int → (Int → Option α) → Option α) (F4 : Nat → Int → Int → (Int → Option α) → Option α) (F5 : Nat → Int → Int → Int → Int → Int → (Int → Int → Option α) → Option α) (G4 : Nat → Int → Int → Int → Int → (Int → Int → Int → Int → Option α) → (Int → Option α) → ((List (Int × Int)) → Int → Option α) → Option α) (k : Nat) (a : Int) (a1 : Int) (b_ : Int) (b_1 : Int) (r0 : Int → Option α) (r1 : (List (Int × Int)) → Int → Option α) : Option α :=
  F0 k a a1 b_ b_1 fun v =>
  bif (!decide (v = 0)) then
    r0 v
  else
    G4 k a a1 b_ b_1
      (fun a4 a5 b_4 b_5 =>
        r1 [(a4, a5), (b_4, b_5)] 0)
      r0 r1
theorem impl_ReducePair_gen {α : Type} (F0 : Nat → Int → Int → Int → Int → (Int → Option α) → Option α) (F1 : Nat → Int → Int → Int → Int → (Bool → Option α) → Option α) (F2 : Nat → Int → Int → (Int → Option α) → Option α) (F3 : Nat → Int → Int → Int → Int → (Int → Option α) → Option α) (F4 : Nat → Int → Int → (Int → Option α) → Option α) (F5 : Nat → Int → Int → Int → Int → Int → (Int → Int → Option α) → Option α) (G4 : Nat → Int → Int → Int → Int → (Int → Int → Int → Int → Option α) → (Int → Option α) → ((List (Int × Int)) → Int → Option α) → Option α) (n : Nat) (a : Int) (a1 : Int) (b_ : Int) (b_1 : Int) (κ : Res → Option α) : evFn Try.prog (impl_ReducePair_XG F0 F1 F2 F3 F4 F5 G4 n) Try.f20 (((buildDs impl_ReducePair_sh [.int a, .int a1, .int b_, .int b_1]).map Prod.fst).getD []) κ = impl_ReducePair_body F0 F1 F2 F3 F4 F5 G4 n a a1 b_ b_1 (fun v1 => κ ⟨[.nilsl, .int .i64 v1], []⟩) (fun v1 v2 => κ ⟨[.sl 33 .pt v1, .int .i64 v2], []⟩) := by kernel_rfl
theorem impl_ReducePair_ev {α : Type} (n : Nat) (a : Int) (a1 : Int) (b_ : Int) (b_1 : Int) (κ : Res → Option α) : evFn Try.prog (impl_ReducePair_X n) Try.f20 (((buildDs impl_ReducePair_sh [.int a, .int a1, .int b_, .int b_1]).map Prod.fst).getD []) κ = impl_ReducePair_run n [.int a, .int a1, .int b_, .int b_1] κ := (impl_ReducePair_gen impl_pairFault impl_isReduced impl_Point_norm impl_dot impl_floor impl_Point_plus impl_ReducePair_l4 n a a1 b_ b_1 κ).trans (by kernel_rfl)
theorem impl_ReducePair_en (a : Int) (a1 : Int) (b_ : Int) (b_1 : Int) : (entry 0 (((buildDs impl_ReducePair_sh [.int a, .int a1, .int b_, .int b_1]).map Prod.fst).getD [])).map (fun x => (x.1.length, x.2.lent)) = some (2, []) := by kernel_rfl
theorem impl_ReducePair_good {α : Type} : ∀ n, GoodFn (α := α) Try.prog 20 (byShape impl_ReducePair_sh (impl_ReducePair_run n)) := by
  refine fn_good' Try.func20 (c := (Try.f20.body.getD .skip)) (by kernel_rfl) (by kernel_rfl) (by kernel_rfl) impl_ReducePair_C impl_ReducePair_M eqs impl_ReducePair_lps (fun n => tabC_good (List.forall_mem_cons.2 ⟨(impl_pairFault_good n), (List.forall_mem_cons.2 ⟨(impl_isReduced_good n), (List.forall_mem_cons.2 ⟨(impl_Point_norm_good n), (List.forall_mem_cons.2 ⟨(impl_dot_good n), (List.forall_mem_cons.2 ⟨(impl_floor_good n), (List.forall_mem_cons.2 ⟨(impl_Point_plus_good n), (fun _ h => absurd h List.not_mem_nil)⟩)⟩)⟩)⟩)⟩)⟩)) eqs_ok impl_ReducePair_Lt ?_ ?_ impl_ReducePair_sh impl_ReducePair_run ?_
  · refine List.forall_mem_cons.2 ⟨?_, (fun _ h => absurd h List.not_mem_nil)⟩
    · intro p brk ret; show impl_ReducePair_u4 0 p brk ret = none; unfold impl_ReducePair_u4 impl_ReducePair_uG4; split <;> rfl
  · refine List.forall_mem_cons.2 ⟨?_, (fun _ h => absurd h List.not_mem_nil)⟩
    · intro np lent hL n p brk ret st r hb hr
      obtain ⟨rfl, rfl⟩ := hL
      rw [← tpl_of hb]
      change impl_ReducePair_u4 (n + 1) p brk ret = some r at hr
      have hr0 := hr
      unfold impl_ReducePair_u4 impl_ReducePair_uG4 at hr
      split at hr
      · exact (impl_ReducePair_l4_ev n _ _ _ _ brk ret).trans hr0
      · cases hr
  · intro n p κ r ds hd hr
    have hr0 := hr
    unfold impl_ReducePair_run impl_ReducePair_runG at hr
    split at hr
    · rw [← ds_of hd]
      exact ⟨en_of (impl_ReducePair_en _ _ _ _) ⟨rfl, rfl⟩, (impl_ReducePair_ev n _ _ _ _ κ).trans hr0⟩
    · cases hr

/-! loop.example/g01297/laws.eqPointS -/
def laws_eqPointS_0N_1N_sh : List SkD := [.nilsl, .nilsl]
def laws_eqPointS_0N_1N_runG {α : Type} (F : Nat → (Bool → Option α) → Option α) (n : Nat) (p : List P1) (κ : Res → Option α) : Option α := match p with
  | [] => F n (fun v1 => κ ⟨[.bool v1], []⟩)
  | _ => none
def laws_eqPointS_0N_1N_run {α : Type} (n : Nat) (p : List P1) (κ : Res → Option α) : Option α := laws_eqPointS_0N_1N_runG laws_eqPointS_0N_1N n p κ
def laws_eqPointS_0N_1N_CG {α : Type}  (n : Nat) : FuncId → List D → (Res → Option α) → Option α := tabC []
def laws_eqPointS_0N_1N_C {α : Type} (n : Nat) : FuncId → List D → (Res → Option α) → Option α := laws_eqPointS_0N_1N_CG n
def laws_eqPointS_0N_1N_M : FuncId → List Nat := tabM []
def laws_eqPointS_0N_1N_lpsG {α : Type}  : List (LoopT α) := []
def laws_eqPointS_0N_1N_lps {α : Type} : List (LoopT α) := laws_eqPointS_0N_1N_lpsG
def laws_eqPointS_0N_1N_XG {α : Type}   (n : Nat) : Ctx α := ⟨laws_eqPointS_0N_1N_CG n, laws_eqPointS_0N_1N_M, eqs, lpOf (laws_eqPointS_0N_1N_lpsG) n⟩
def laws_eqPointS_0N_1N_X {α : Type} (n : Nat) : Ctx α := laws_eqPointS_0N_1N_XG n
def laws_eqPointS_0N_1N_Lt (np : Nat) (lent : List (Bool × Nat × Blk)) : Prop := np = 2 ∧ lent = []
def laws_eqPointS_0N_1N_body {α : Type}   (k : Nat)  (r0 : Bool → Option α) : Option α :=
  r0 true
theorem laws_eqPointS_0N_1N_gen {α : Type}   (n : Nat)  (κ : Res → Option α) : evFn Try.prog (laws_eqPointS_0N_1N_XG n) Try.f21 (((buildDs laws_eqPointS_0N_1N_sh []).map Prod.fst).getD []) κ = laws_eqPointS_0N_1N_body n (fun v1 => κ ⟨[.bool v1], []⟩) := by kernel_rfl
theorem laws_eqPointS_0N_1N_ev {α : Type} (n : Nat)  (κ : Res → Option α) : evFn Try.prog (laws_eqPointS_0N_1N_X n) Try.f21 (((buildDs laws_eqPointS_0N_1N_sh []).map Prod.fst).getD []) κ = laws_eqPointS_0N_1N_run n [] κ := (laws_eqPointS_0N_1N_gen n κ).trans (by kernel_rfl)
theorem laws_eqPointS_0N_1N_en  : (entry 0 (((buildDs laws_eqPointS_0N_1N_sh []).map Prod.fst).getD [])).map (fun x => (x.1.length, x.2.lent)) = some (2, []) := by kernel_rfl
theorem laws_eqPointS_0N_1N_good {α : Type} : ∀ n, GoodFn (α := α) Try.prog 21 (byShape laws_eqPointS_0N_1N_sh (laws_eqPointS_0N_1N_run n)) := by
  refine fn_good' Try.func21 (c := (Try.f21.body.getD .skip)) (by kernel_rfl) (by kernel_rfl) (by kernel_rfl) laws_eqPointS_0N_1N_C laws_eqPointS_0N_1N_M eqs laws_eqPointS_0N_1N_lps (fun n => tabC_good (fun _ h => absurd h List.not_mem_nil)) eqs_ok laws_eqPointS_0N_1N_Lt ?_ ?_ laws_eqPointS_0N_1N_sh laws_eqPointS_0N_1N_run ?_
  · exact (fun _ h => absurd h List.not_mem_nil)
  · exact (fun _ h => absurd h List.not_mem_nil)
  · intro n p κ r ds hd hr
    have hr0 := hr
    unfold laws_eqPointS_0N_1N_run laws_eqPointS_0N_1N_runG at hr
    split at hr
    · rw [← ds_of hd]
      exact ⟨en_of (laws_eqPointS_0N_1N_en) ⟨rfl, rfl⟩, (laws_eqPointS_0N_1N_ev n κ).trans hr0⟩
    · cases hr

/-! loop.example/g01297/laws.markPointS -/
def laws_markPointS_0N_sh : List SkD := [.nilsl, .int .i64]
def laws_markPointS_0N_runG {α : Type} (F : Nat → Int → (Int → Option α) → Option α) (n : Nat) (p : List P1) (κ : Res → Option α) : Option α := match p with
  | [.int k_] => F n k_ (fun v1 => κ ⟨[.int .i64 v1], []⟩)
  | _ => none
def laws_markPointS_0N_run {α : Type} (n : Nat) (p : List P1) (κ : Res → Option α) : Option α := laws_markPointS_0N_runG laws_markPointS_0N n p κ
def laws_markPointS_0N_CG {α : Type}  (n : Nat) : FuncId → List D → (Res → Option α) → Option α := tabC []
def laws_markPointS_0N_C {α : Type} (n : Nat) : FuncId → List D → (Res → Option α) → Option α := laws_markPointS_0N_CG n
def laws_markPointS_0N_M : FuncId → List Nat := tabM []
def laws_markPointS_0N_lpsG {α : Type}  : List (LoopT α) := []
def laws_markPointS_0N_lps {α : Type} : List (LoopT α) := laws_markPointS_0N_lpsG
def laws_markPointS_0N_XG {α : Type}   (n : Nat) : Ctx α := ⟨laws_markPointS_0N_CG n, laws_markPointS_0N_M, eqs, lpOf (laws_markPointS_0N_lpsG) n⟩
def laws_markPointS_0N_X {α : Type} (n : Nat) : Ctx α := laws_markPointS_0N_XG n
def laws_markPointS_0N_Lt (np : Nat) (lent : List (Bool × Nat × Blk)) : Prop := np = 2 ∧ lent = []
def laws_markPointS_0N_body {α : Type}   (k : Nat) (k_ : Int) (r0 : Int → Option α) : Option α :=
  r0 k_
theorem laws_markPointS_0N_gen {α : Type}   (n : Nat) (k_ : Int) (κ : Res → Option α) : evFn Try.prog (laws_markPointS_0N_XG n) Try.f22 (((buildDs laws_markPointS_0N_sh [.int k_]).map Prod.fst).getD []) κ = laws_markPointS_0N_body n k_ (fun v1 => κ ⟨[.int .i64 v1], []⟩) := by kernel_rfl
theorem laws_markPointS_0N_ev {α : Type} (n : Nat) (k_ : Int) (κ : Res → Option α) : evFn Try.prog (laws_markPointS_0N_X n) Try.f22 (((buildDs laws_markPointS_0N_sh [.int k_]).map Prod.fst).getD []) κ = laws_markPointS_0N_run n [.int k_] κ := (laws_markPointS_0N_gen n k_ κ).trans (by kernel_rfl)
theorem laws_markPointS_0N_en (k_ : Int) : (entry 0 (((buildDs laws_markPointS_0N_sh [.int k_]).map Prod.fst).getD [])).map (fun x => (x.1.length, x.2.lent)) = some (2, []) := by kernel_rfl
theorem laws_markPointS_0N_good {α : Type} : ∀ n, GoodFn (α := α) Try.prog 22 (byShape laws_markPointS_0N_sh (laws_markPointS_0N_run n)) := by
  refine fn_good' Try.func22 (c := (Try.f22.body.getD .skip)) (by kernel_rfl) (by kernel_rfl) (by kernel_rfl) laws_markPointS_0N_C laws_markPointS_0N_M eqs laws_markPointS_0N_lps (fun n => tabC_good (fun _ h => absurd h List.not_mem_nil)) eqs_ok laws_markPointS_0N_Lt ?_ ?_ laws_markPointS_0N_sh laws_markPointS_0N_run ?_
  · exact (fun _ h => absurd h List.not_mem_nil)
  · exact (fun _ h => absurd h List.not_mem_nil)
  · intro n p κ r ds hd hr
    have hr0 := hr
    unfold laws_markPointS_0N_run laws_markPointS_0N_runG at hr
    split at hr
    · rw [← ds_of hd]
      exact ⟨en_of (laws_markPointS_0N_en _) ⟨rfl, rfl⟩, (laws_markPointS_0N_ev n _ κ).trans hr0⟩
    · cases hr

/-! loop.example/g01297/laws.heldPointS -/
def laws_heldPointS_0N_sh : List SkD := [.nilsl, .int .i64]
def laws_heldPointS_0N_runG {α : Type} (F : Nat → Int → (Int → Option α) → Option α) (n : Nat) (p : List P1) (κ : Res → Option α) : Option α := match p with
  | [.int k_] => F n k_ (fun v1 => κ ⟨[.int .i64 v1], []⟩)
  | _ => none
def laws_heldPointS_0N_run {α : Type} (n : Nat) (p : List P1) (κ : Res → Option α) : Option α := laws_heldPointS_0N_runG laws_heldPointS_0N n p κ
def laws_heldPointS_0N_CG {α : Type}  (n : Nat) : FuncId → List D → (Res → Option α) → Option α := tabC []
def laws_heldPointS_0N_C {α : Type} (n : Nat) : FuncId → List D → (Res → Option α) → Option α := laws_heldPointS_0N_CG n
def laws_heldPointS_0N_M : FuncId → List Nat := tabM []
def laws_heldPointS_0N_lpsG {α : Type}  : List (LoopT α) := []
def laws_heldPointS_0N_lps {α : Type} : List (LoopT α) := laws_heldPointS_0N_lpsG
def laws_heldPointS_0N_XG {α : Type}   (n : Nat) : Ctx α := ⟨laws_heldPointS_0N_CG n, laws_heldPointS_0N_M, eqs, lpOf (laws_heldPointS_0N_lpsG) n⟩
def laws_heldPointS_0N_X {α : Type} (n : Nat) : Ctx α := laws_heldPointS_0N_XG n
def laws_heldPointS_0N_Lt (np : Nat) (lent : List (Bool × Nat × Blk)) : Prop := np = 2 ∧ lent = []
def laws_heldPointS_0N_body {α : Type}   (k : Nat) (k_ : Int) (r0 : Int → Option α) : Option α :=
  r0 k_
theorem laws_heldPointS_0N_gen {α : Type}   (n : Nat) (k_ : Int) (κ : Res → Option α) : evFn Try.prog (laws_heldPointS_0N_XG n) Try.f23 (((buildDs laws_heldPointS_0N_sh [.int k_]).map Prod.fst).getD []) κ = laws_heldPointS_0N_body n k_ (fun v1 => κ ⟨[.int .i64 v1], []⟩) := by kernel_rfl
theorem laws_heldPointS_0N_ev {α : Type} (n : Nat) (k_ : Int) (κ : Res → Option α) : evFn Try.prog (laws_heldPointS_0N_X n) Try.f23 (((buildDs laws_heldPointS_0N_sh [.int k_]).map Prod.fst).getD []) κ = laws_heldPointS_0N_run n [.int k_] κ := (laws_heldPointS_0N_gen n k_ κ).trans (by kernel_rfl)
theorem laws_heldPointS_0N_en (k_ : Int) : (entry 0 (((buildDs laws_heldPointS_0N_sh [.int k_]).map Prod.fst).getD [])).map (fun x => (x.1.length, x.2.lent)) = some (2, []) := by kernel_rfl
theorem laws_heldPointS_0N_good {α : Type} : ∀ n, GoodFn (α := α) Try.prog 23 (byShape laws_heldPointS_0N_sh (laws_heldPointS_0N_run n)) := by
  refine fn_good' Try.func23 (c := (Try.f23.body.getD .skip)) (by kernel_rfl) (by kernel_rfl) (by kernel_rfl) laws_heldPointS_0N_C laws_heldPointS_0N_M eqs laws_heldPointS_0N_lps (fun n => tabC_good (fun _ h => absurd h List.not_mem_nil)) eqs_ok laws_heldPointS_0N_Lt ?_ ?_ laws_heldPointS_0N_sh laws_heldPointS_0N_run ?_
  · exact (fun _ h => absurd h List.not_mem_nil)
  · exact (fun _ h => absurd h List.not_mem_nil)
  · intro n p κ r ds hd hr
    have hr0 := hr
    unfold laws_heldPointS_0N_run laws_heldPointS_0N_runG at hr
    split at hr
    · rw [← ds_of hd]
      exact ⟨en_of (laws_heldPointS_0N_en _) ⟨rfl, rfl⟩, (laws_heldPointS_0N_ev n _ κ).trans hr0⟩
    · cases hr

/-! loop.example/g01297/laws.eqPointS -/
def laws_eqPointS_1N_sh : List SkD := [.sl 33 .pt, .nilsl]
def laws_eqPointS_1N_runG {α : Type} (F : Nat → (List (Int × Int)) → (Bool → Option α) → Option α) (n : Nat) (p : List P1) (κ : Res → Option α) : Option α := match p with
  | [.rows .pt a] => F n a (fun v1 => κ ⟨[.bool v1], []⟩)
  | _ => none
def laws_eqPointS_1N_run {α : Type} (n : Nat) (p : List P1) (κ : Res → Option α) : Option α := laws_eqPointS_1N_runG laws_eqPointS_1N n p κ
def laws_eqPointS_1N_CG {α : Type}  (n : Nat) : FuncId → List D → (Res → Option α) → Option α := tabC []
def laws_eqPointS_1N_C {α : Type} (n : Nat) : FuncId → List D → (Res → Option α) → Option α := laws_eqPointS_1N_CG n
def laws_eqPointS_1N_M : FuncId → List Nat := tabM []
def laws_eqPointS_1N_t4 : Tpl := ⟨[.sl 0, .nilsl, .any, .any, .any, .int .i64, .any, .any, .any, .any, .any, .any, .any, .any, .any, .any, .any, .any, .any, .any, .any, .any, .any, .any, .any, .any, .any], [(0, .rows 0 33 .pt)], []⟩
def laws_eqPointS_1N_uG4 {α : Type} (G : Nat → Int → (List (Int × Int)) → (Int → (List (Int × Int)) → Option α) → (Bool → Option α) → Option α) (n : Nat) (p : List P1) (brk : Nat → List P1 → Option α) (ret : Res → Option α) : Option α := match p with
  | [.int i, .rows .pt a1] => G n i a1 (fun i a1 => brk 0 [.int i, .rows .pt a1]) (fun v1 => ret ⟨[.bool v1], []⟩)
  | _ => none
def laws_eqPointS_1N_u4 {α : Type} (n : Nat) (p : List P1) (brk : Nat → List P1 → Option α) (ret : Res → Option α) : Option α := laws_eqPointS_1N_uG4 laws_eqPointS_1N_l4 n p brk ret
def laws_eqPointS_1N_lpsG {α : Type} (G4 : Nat → Int → (List (Int × Int)) → (Int → (List (Int × Int)) → Option α) → (Bool → Option α) → Option α) : List (LoopT α) := [⟨4, laws_eqPointS_1N_t4, laws_eqPointS_1N_uG4 G4⟩]
def laws_eqPointS_1N_lps {α : Type} : List (LoopT α) := laws_eqPointS_1N_lpsG laws_eqPointS_1N_l4
def laws_eqPointS_1N_XG {α : Type}  (G4 : Nat → Int → (List (Int × Int)) → (Int → (List (Int × Int)) → Option α) → (Bool → Option α) → Option α) (n : Nat) : Ctx α := ⟨laws_eqPointS_1N_CG n, laws_eqPointS_1N_M, eqs, lpOf (laws_eqPointS_1N_lpsG G4) n⟩
def laws_eqPointS_1N_X {α : Type} (n : Nat) : Ctx α := laws_eqPointS_1N_XG laws_eqPointS_1N_l4 n
def laws_eqPointS_1N_Lt (np : Nat) (lent : List (Bool × Nat × Blk)) : Prop := np = 2 ∧ lent = []
def laws_eqPointS_1N_lb4 {α : Type}  (G4 : Nat → Int → (List (Int × Int)) → (Int → (List (Int × Int)) → Option α) → (Bool → Option α) → Option α) (k : Nat) (i : Int) (a1 : List (Int × Int)) (b0 : Int → (List (Int × Int)) → Option α) (r0 : Bool → Option α) : Option α :=
  bif decide (i < (((List.length a1) : Nat) : Int)) then
    bif (decide (0 ≤ i) && decide (i < (((List.length a1) : Nat) : Int))) then
      (a1[i.toNat]?).bind fun e_ =>
      none
    else
      none
  else
    b0 i a1
theorem laws_eqPointS_1N_l4_gen {α : Type}  (G4 : Nat → Int → (List (Int × Int)) → (Int → (List (Int × Int)) → Option α) → (Bool → Option α) → Option α) (n : Nat) (i : Int) (a1 : List (Int × Int)) (brk : Nat → List P1 → Option α) (ret : Res → Option α) : ev ((laws_eqPointS_1N_XG G4 n).env Try.prog Try.f21 2 []) (findLoop (loopsIn (Try.f21.body.getD .skip)) 4) ((laws_eqPointS_1N_t4.build [.int i, .rows .pt a1]).getD ⟨[], []⟩) (roundK (2 * 64) laws_eqPointS_1N_t4 (fun q => laws_eqPointS_1N_uG4 G4 n q brk ret) brk ret) = laws_eqPointS_1N_lb4 G4 n i a1 (fun i a1 => brk 0 [.int i, .rows .pt a1]) (fun v1 => ret ⟨[.bool v1], []⟩) := by kernel_rfl
theorem laws_eqPointS_1N_l4_ev {α : Type} (n : Nat) (i : Int) (a1 : List (Int × Int)) (brk : Nat → List P1 → Option α) (ret : Res → Option α) : ev ((laws_eqPointS_1N_X n).env Try.prog Try.f21 2 []) (findLoop (loopsIn (Try.f21.body.getD .skip)) 4) ((laws_eqPointS_1N_t4.build [.int i, .rows .pt a1]).getD ⟨[], []⟩) (roundK (2 * 64) laws_eqPointS_1N_t4 (fun q => laws_eqPointS_1N_u4 n q brk ret) brk ret) = laws_eqPointS_1N_u4 (n + 1) [.int i, .rows .pt a1] brk ret := (laws_eqPointS_1N_l4_gen laws_eqPointS_1N_l4 n i a1 brk ret).trans (by kernel_rfl)
def laws_eqPointS_1N_body {α : Type}  (G4 : Nat → Int → (List (Int × Int)) → (Int → (List (Int × Int)) → Option α) → (Bool → Option α) → Option α) (k : Nat) (a : List (Int × Int)) (r0 : Bool → Option α) : Option α :=
  bif (!decide ((((List.length a) : Nat) : Int) = 0)) then
    r0 false
  else
    G4 k 0 a
      (fun i1 a2 =>
        r0 true)
      r0
theorem laws_eqPointS_1N_gen {α : Type}  (G4 : Nat → Int → (List (Int × Int)) → (Int → (List (Int × Int)) → Option α) → (Bool → Option α) → Option α) (n : Nat) (a : List (Int × Int)) (κ : Res → Option α) : evFn Try.prog (laws_eqPointS_1N_XG G4 n) Try.f21 (((buildDs laws_eqPointS_1N_sh [.rows .pt a]).map Prod.fst).getD []) κ = laws_eqPointS_1N_body G4 n a (fun v1 => κ ⟨[.bool v1], []⟩) := by kernel_rfl
theorem laws_eqPointS_1N_ev {α : Type} (n : Nat) (a : List (Int × Int)) (κ : Res → Option α) : evFn Try.prog (laws_eqPointS_1N_X n) Try.f21 (((buildDs laws_eqPointS_1N_sh [.rows .pt a]).map Prod.fst).getD []) κ = laws_eqPointS_1N_run n [.rows .pt a] κ := (laws_eqPointS_1N_gen laws_eqPointS_1N_l4 n a κ).trans (by kernel_rfl)
theorem laws_eqPointS_1N_en (a : List (Int × Int)) : (entry 0 (((buildDs laws_eqPointS_1N_sh [.rows .pt a]).map Prod.fst).getD [])).map (fun x => (x.1.length, x.2.lent)) = some (2, []) := by kernel_rfl
theorem laws_eqPointS_1N_good {α : Type} : ∀ n, GoodFn (α := α) Try.prog 21 (byShape laws_eqPointS_1N_sh (laws_eqPointS_1N_run n)) := by
  refine fn_good' Try.func21 (c := (Try.f21.body.getD .skip)) (by kernel_rfl) (by kernel_rfl) (by kernel_rfl) laws_eqPointS_1N_C laws_eqPointS_1N_M eqs laws_eqPointS_1N_lps (fun n => tabC_good (fun _ h => absurd h List.not_mem_nil)) eqs_ok laws_eqPointS_1N_Lt ?_ ?_ laws_eqPointS_1N_sh laws_eqPointS_1N_run ?_
  · refine List.forall_mem_cons.2 ⟨?_, (fun _ h => absurd h List.not_mem_nil)⟩
    · intro p brk ret; show laws_eqPointS_1N_u4 0 p brk ret = none; unfold laws_eqPointS_1N_u4 laws_eqPointS_1N_uG4; split <;> rfl
  · refine List.forall_mem_cons.2 ⟨?_, (fun _ h => absurd h List.not_mem_nil)⟩
    · intro np lent hL n p brk ret st r hb hr
      obtain ⟨rfl, rfl⟩ := hL
      rw [← tpl_of hb]
      change laws_eqPointS_1N_u4 (n + 1) p brk ret = some r at hr
      have hr0 := hr
      unfold laws_eqPointS_1N_u4 laws_eqPointS_1N_uG4 at hr
      split at hr
      · exact (laws_eqPointS_1N_l4_ev n _ _ brk ret).trans hr0
      · cases hr
  · intro n p κ r ds hd hr
    have hr0 := hr
    unfold laws_eqPointS_1N_run laws_eqPointS_1N_runG at hr
    split at hr
    · rw [← ds_of hd]
      exact ⟨en_of (laws_eqPointS_1N_en _) ⟨rfl, rfl⟩, (laws_eqPointS_1N_ev n _ κ).trans hr0⟩
    · cases hr

/-! loop.example/g01297/laws.markPointS -/
def laws_markPointS_sh : List SkD := [.msl 33 .pt, .int .i64]
def laws_markPointS_runG {α : Type} (F : Nat → (List (Int × Int)) → Int → (Int → (List (Int × Int)) → Option α) → Option α) (n : Nat) (p : List P1) (κ : Res → Option α) : Option α := match p with
  | [.rows .pt a, .int k_] => F n a k_ (fun v1 v2 => κ ⟨[.int .i64 v1], [.sl 33 .pt v2]⟩)
  | _ => none
def laws_markPointS_run {α : Type} (n : Nat) (p : List P1) (κ : Res → Option α) : Option α := laws_markPointS_runG laws_markPointS n p κ
def laws_markPointS_CG {α : Type}  (n : Nat) : FuncId → List D → (Res → Option α) → Option α := tabC []
def laws_markPointS_C {α : Type} (n : Nat) : FuncId → List D → (Res → Option α) → Option α := laws_markPointS_CG n
def laws_markPointS_M : FuncId → List Nat := tabM []
def laws_markPointS_t2 : Tpl := ⟨[.sl 0, .int .i64, .any, .any, .any, .int .i64, .any, .any, .any, .any, .any, .any, .any, .any, .any, .any, .any, .any, .any, .any, .any, .any, .any, .any, .any, .any], [(0, .rows 1 33 .pt)], []⟩
def laws_markPointS_uG2 {α : Type} (G : Nat → Int → Int → (List (Int × Int)) → (Int → Int → (List (Int × Int)) → Option α) → (Int → (List (Int × Int)) → Option α) → Option α) (n : Nat) (p : List P1) (brk : Nat → List P1 → Option α) (ret : Res → Option α) : Option α := match p with
  | [.int k_1, .int i, .rows .pt a1] => G n k_1 i a1 (fun k_1 i a1 => brk 0 [.int k_1, .int i, .rows .pt a1]) (fun v1 v2 => ret ⟨[.int .i64 v1], [.sl 33 .pt v2]⟩)
  | _ => none
def laws_markPointS_u2 {α : Type} (n : Nat) (p : List P1) (brk : Nat → List P1 → Option α) (ret : Res → Option α) : Option α := laws_markPointS_uG2 laws_markPointS_l2 n p brk ret
def laws_markPointS_lpsG {α : Type} (G2 : Nat → Int → Int → (List (Int × Int)) → (Int → Int → (List (Int × Int)) → Option α) → (Int → (List (Int × Int)) → Option α) → Option α) : List (LoopT α) := [⟨2, laws_markPointS_t2, laws_markPointS_uG2 G2⟩]
def laws_markPointS_lps {α : Type} : List (LoopT α) := laws_markPointS_lpsG laws_markPointS_l2
def laws_markPointS_XG {α : Type}  (G2 : Nat → Int → Int → (List (Int × Int)) → (Int → Int → (List (Int × Int)) → Option α) → (Int → (List (Int × Int)) → Option α) → Option α) (n : Nat) : Ctx α := ⟨laws_markPointS_CG n, laws_markPointS_M, eqs, lpOf (laws_markPointS_lpsG G2) n⟩
def laws_markPointS_X {α : Type} (n : Nat) : Ctx α := laws_markPointS_XG laws_markPointS_l2 n
def laws_markPointS_Lt (np : Nat) (lent : List (Bool × Nat × Blk)) : Prop := np = 2 ∧ ∃ (a : List (Int × Int)), lent = [(true, 0, .rows 1 33 .pt a)]
def laws_markPointS_lb2 {α : Type}  (G2 : Nat → Int → Int → (List (Int × Int)) → (Int → Int → (List (Int × Int)) → Option α) → (Int → (List (Int × Int)) → Option α) → Option α) (k : Nat) (k_1 : Int) (i : Int) (a1 : List (Int × Int)) (b0 : Int → Int → (List (Int × Int)) → Option α) (r0 : Int → (List (Int × Int)) → Option α) : Option α :=
  bif decide (i < (((List.length a1) : Nat) : Int)) then
    bif (decide (0 ≤ i) && decide (i < (((List.length a1) : Nat) : Int))) then
      (a1[i.toNat]?).bind fun e_ =>
      bif (decide (0 ≤ i) && decide (i < (((List.length (List.set a1 i.toNat (k_1, e_.2))) : Nat) : Int))) then
        ((List.set a1 i.toNat (k_1, e_.2))[i.toNat]?).bind fun e_1 =>
        G2 k (w64 ((w64 (k_1 + 1)) + 1)) (w64 (i + 1)) (List.set (List.set a1 i.toNat (k_1, e_.2)) i.toNat (e_1.1, (w64 (k_1 + 1)))) b0 r0
      else
        none
    else
      none
  else
    b0 k_1 i a1
theorem laws_markPointS_l2_gen {α : Type}  (G2 : Nat → Int → Int → (List (Int × Int)) → (Int → Int → (List (Int × Int)) → Option α) → (Int → (List (Int × Int)) → Option α) → Option α) (n : Nat) (a_0 : List (Int × Int)) (k_1 : Int) (i : Int) (a1 : List (Int × Int)) (brk : Nat → List P1 → Option α) (ret : Res → Option α) : ev ((laws_markPointS_XG G2 n).env Try.prog Try.f22 2 [(true, 0, .rows 1 33 .pt a_0)]) (findLoop (loopsIn (Try.f22.body.getD .skip)) 2) ((laws_markPointS_t2.build [.int k_1, .int i, .rows .pt a1]).getD ⟨[], []⟩) (roundK (2 * 64) laws_markPointS_t2 (fun q => laws_markPointS_uG2 G2 n q brk ret) brk ret) = laws_markPointS_lb2 G2 n k_1 i a1 (fun k_1 i a1 => brk 0 [.int k_1, .int i, .rows .pt a1]) (fun v1 v2 => ret ⟨[.int .i64 v1], [.sl 33 .pt v2]⟩) := by kernel_rfl
theorem laws_markPointS_l2_ev {α : Type} (n : Nat) (a_0 : List (Int × Int)) (k_1 : Int) (i : Int) (a1 : List (Int × Int)) (brk : Nat → List P1 → Option α) (ret : Res → Option α) : ev ((laws_markPointS_X n).env Try.prog Try.f22 2 [(true, 0, .rows 1 33 .pt a_0)]) (findLoop (loopsIn (Try.f22.body.getD .skip)) 2) ((laws_markPointS_t2.build [.int k_1, .int i, .rows .pt a1]).getD ⟨[], []⟩) (roundK (2 * 64) laws_markPointS_t2 (fun q => laws_markPointS_u2 n q brk ret) brk ret) = laws_markPointS_u2 (n + 1) [.int k_1, .int i, .rows .pt a1] brk ret := (laws_markPointS_l2_gen laws_markPointS_l2 n a_0 k_1 i a1 brk ret).trans (by kernel_rfl)
def laws_markPointS_body {α : Type}  (G2 : Nat → Int → Int → (List (Int × Int)) → (Int → Int → (List (Int × Int)) → Option α) → (Int → (List (Int × Int)) → Option α) → Option α) (k : Nat) (a : List (Int × Int)) (k_ : Int) (r0 : Int → (List (Int × Int)) → Option α) : Option α :=
  G2 k k_ 0 a
    (fun k_2 i1 a2 =>
      r0 k_2 a2)
    r0
theorem laws_markPointS_gen {α : Type}  (G2 : Nat → Int → Int → (List (Int × Int)) → (Int → Int → (List (Int × Int)) → Option α) → (Int → (List (Int × Int)) → Option α) → Option α) (n : Nat) (a : List (Int × Int)) (k_ : Int) (κ : Res → Option α) : evFn Try.prog (laws_markPointS_XG G2 n) Try.f22 (((buildDs laws_markPointS_sh [.rows .pt a, .int k_]).map Prod.fst).getD []) κ = laws_markPointS_body G2 n a k_ (fun v1 v2 => κ ⟨[.int .i64 v1], [.sl 33 .pt v2]⟩) := by kernel_rfl
theorem laws_markPointS_ev {α : Type} (n : Nat) (a : List (Int × Int)) (k_ : Int) (κ : Res → Option α) : evFn Try.prog (laws_markPointS_X n) Try.f22 (((buildDs laws_markPointS_sh [.rows .pt a, .int k_]).map Prod.fst).getD []) κ = laws_markPointS_run n [.rows .pt a, .int k_] κ := (laws_markPointS_gen laws_markPointS_l2 n a k_ κ).trans (by kernel_rfl)
theorem laws_markPointS_en (a : List (Int × Int)) (k_ : Int) : (entry 0 (((buildDs laws_markPointS_sh [.rows .pt a, .int k_]).map Prod.fst).getD [])).map (fun x => (x.1.length, x.2.lent)) = some (2, [(true, 0, .rows 1 33 .pt a)]) := by kernel_rfl
theorem laws_markPointS_good {α : Type} : ∀ n, GoodFn (α := α) Try.prog 22 (byShape laws_markPointS_sh (laws_markPointS_run n)) := by
  refine fn_good' Try.func22 (c := (Try.f22.body.getD .skip)) (by kernel_rfl) (by kernel_rfl) (by kernel_rfl) laws_markPointS_C laws_markPointS_M eqs laws_markPointS_lps (fun n => tabC_good (fun _ h => absurd h List.not_mem_nil)) eqs_ok laws_markPointS_Lt ?_ ?_ laws_markPointS_sh laws_markPointS_run ?_
  · refine List.forall_mem_cons.2 ⟨?_, (fun _ h => absurd h List.not_mem_nil)⟩
    · intro p brk ret; show laws_markPointS_u2 0 p brk ret = none; unfold laws_markPointS_u2 laws_markPointS_uG2; split <;> rfl
  · refine List.forall_mem_cons.2 ⟨?_, (fun _ h => absurd h List.not_mem_nil)⟩
    · intro np lent hL n p brk ret st r hb hr
      obtain ⟨rfl, a_0, rfl⟩ := hL
      rw [← tpl_of hb]
      change laws_markPointS_u2 (n + 1) p brk ret = some r at hr
      have hr0 := hr
      unfold laws_markPointS_u2 laws_markPointS_uG2 at hr
      split at hr
      · exact (laws_markPointS_l2_ev n _ _ _ _ brk ret).trans hr0
      · cases hr
  · intro n p κ r ds hd hr
    have hr0 := hr
    unfold laws_markPointS_run laws_markPointS_runG at hr
    split at hr
    · rw [← ds_of hd]
      exact ⟨en_of (laws_markPointS_en _ _) ⟨rfl, _, rfl⟩, (laws_markPointS_ev n _ _ κ).trans hr0⟩
    · cases hr

/-! loop.example/g01297/laws.heldPointS -/
def laws_heldPointS_sh : List SkD := [.sl 33 .pt, .int .i64]
def laws_heldPointS_runG {α : Type} (F : Nat → (List (Int × Int)) → Int → (Int → Option α) → Option α) (n : Nat) (p : List P1) (κ : Res → Option α) : Option α := match p with
  | [.rows .pt a, .int k_] => F n a k_ (fun v1 => κ ⟨[.int .i64 v1], []⟩)
  | _ => none
def laws_heldPointS_run {α : Type} (n : Nat) (p : List P1) (κ : Res → Option α) : Option α := laws_heldPointS_runG laws_heldPointS n p κ
def laws_heldPointS_CG {α : Type}  (n : Nat) : FuncId → List D → (Res → Option α) → Option α := tabC []
def laws_heldPointS_C {α : Type} (n : Nat) : FuncId → List D → (Res → Option α) → Option α := laws_heldPointS_CG n
def laws_heldPointS_M : FuncId → List Nat := tabM []
def laws_heldPointS_t2 : Tpl := ⟨[.sl 0, .int .i64, .any, .any, .any, .int .i64, .any, .any, .any, .any, .any, .any, .any, .any, .any, .any, .any, .any, .any, .any, .any, .any, .any, .any, .any, .any, .any, .any], [(0, .rows 0 33 .pt)], []⟩
def laws_heldPointS_uG2 {α : Type} (G : Nat → Int → Int → (List (Int × Int)) → (Int → Int → (List (Int × Int)) → Option α) → (Int → Option α) → Option α) (n : Nat) (p : List P1) (brk : Nat → List P1 → Option α) (ret : Res → Option α) : Option α := match p with
  | [.int k_1, .int i, .rows .pt a1] => G n k_1 i a1 (fun k_1 i a1 => brk 0 [.int k_1, .int i, .rows .pt a1]) (fun v1 => ret ⟨[.int .i64 v1], []⟩)
  | _ => none
def laws_heldPointS_u2 {α : Type} (n : Nat) (p : List P1) (brk : Nat → List P1 → Option α) (ret : Res → Option α) : Option α := laws_heldPointS_uG2 laws_heldPointS_l2 n p brk ret
def laws_heldPointS_lpsG {α : Type} (G2 : Nat → Int → Int → (List (Int × Int)) → (Int → Int → (List (Int × Int)) → Option α) → (Int → Option α) → Option α) : List (LoopT α) := [⟨2, laws_heldPointS_t2, laws_heldPointS_uG2 G2⟩]
def laws_heldPointS_lps {α : Type} : List (LoopT α) := laws_heldPointS_lpsG laws_heldPointS_l2
def laws_heldPointS_XG {α : Type}  (G2 : Nat → Int → Int → (List (Int × Int)) → (Int → Int → (List (Int × Int)) → Option α) → (Int → Option α) → Option α) (n : Nat) : Ctx α := ⟨laws_heldPointS_CG n, laws_heldPointS_M, eqs, lpOf (laws_heldPointS_lpsG G2) n⟩
def laws_heldPointS_X {α : Type} (n : Nat) : Ctx α := laws_heldPointS_XG laws_heldPointS_l2 n
def laws_heldPointS_Lt (np : Nat) (lent : List (Bool × Nat × Blk)) : Prop := np = 2 ∧ lent = []
def laws_heldPointS_lb2 {α : Type}  (G2 : Nat → Int → Int → (List (Int × Int)) → (Int → Int → (List (Int × Int)) → Option α) → (Int → Option α) → Option α) (k : Nat) (k_1 : Int) (i : Int) (a1 : List (Int × Int)) (b0 : Int → Int → (List (Int × Int)) → Option α) (r0 : Int → Option α) : Option α :=
  bif decide (i < (((List.length a1) : Nat) : Int)) then
    bif (decide (0 ≤ i) && decide (i < (((List.length a1) : Nat) : Int))) then
      (a1[i.toNat]?).bind fun e_ =>
      bif (!decide (e_.1 = k_1)) then
        r0 (-1)
      else
      bif (decide (0 ≤ i) && decide (i < (((List.length a1) : Nat) : Int))) then
        (a1[i.toNat]?).bind fun e_1 =>
        bif (!decide (e_1.2 = (w64 (k_1 + 1)))) then
          r0 (-1)
        else
          G2 k (w64 ((w64 (k_1 + 1)) + 1)) (w64 (i + 1)) a1 b0 r0
      else
        none
    else
      none
  else
    b0 k_1 i a1
theorem laws_heldPointS_l2_gen {α : Type}  (G2 : Nat → Int → Int → (List (Int × Int)) → (Int → Int → (List (Int × Int)) → Option α) → (Int → Option α) → Option α) (n : Nat) (k_1 : Int) (i : Int) (a1 : List (Int × Int)) (brk : Nat → List P1 → Option α) (ret : Res → Option α) : ev ((laws_heldPointS_XG G2 n).env Try.prog Try.f23 2 []) (findLoop (loopsIn (Try.f23.body.getD .skip)) 2) ((laws_heldPointS_t2.build [.int k_1, .int i, .rows .pt a1]).getD ⟨[], []⟩) (roundK (2 * 64) laws_heldPointS_t2 (fun q => laws_heldPointS_uG2 G2 n q brk ret) brk ret) = laws_heldPointS_lb2 G2 n k_1 i a1 (fun k_1 i a1 => brk 0 [.int k_1, .int i, .rows .pt a1]) (fun v1 => ret ⟨[.int .i64 v1], []⟩) := by kernel_rfl
theorem laws_heldPointS_l2_ev {α : Type} (n : Nat) (k_1 : Int) (i : Int) (a1 : List (Int × Int)) (brk : Nat → List P1 → Option α) (ret : Res → Option α) : ev ((laws_heldPointS_X n).env Try.prog Try.f23 2 []) (findLoop (loopsIn (Try.f23.body.getD .skip)) 2) ((laws_heldPointS_t2.build [.int k_1, .int i, .rows .pt a1]).getD ⟨[], []⟩) (roundK (2 * 64) laws_heldPointS_t2 (fun q => laws_heldPointS_u2 n q brk ret) brk ret) = laws_heldPointS_u2 (n + 1) [.int k_1, .int i, .rows .pt a1] brk ret := (laws_heldPointS_l2_gen laws_heldPointS_l2 n k_1 i a1 brk ret).trans (by kernel_rfl)
def laws_heldPointS_body {α : Type}  (G2 : Nat → Int → Int → (List (Int × Int)) → (Int → Int → (List (Int × Int)) → Option α) → (Int → Option α) → Option α) (k : Nat) (a : List (Int × Int)) (k_ : Int) (r0 : Int → Option α) : Option α :=
  G2 k k_ 0 a
    (fun k_2 i1 a2 =>
      r0 k_2)
    r0
theorem laws_heldPointS_gen {α : Type}  (G2 : Nat → Int → Int → (List (Int × Int)) → (Int → Int → (List (Int × Int)) → Option α) → (Int → Option α) → Option α) (n : Nat) (a : List (Int × Int)) (k_ : Int) (κ : Res → Option α) : evFn Try.prog (laws_heldPointS_XG G2 n) Try.f23 (((buildDs laws_heldPointS_sh [.rows .pt a, .int k_]).map Prod.fst).getD []) κ = laws_heldPointS_body G2 n a k_ (fun v1 => κ ⟨[.int .i64 v1], []⟩) := by kernel_rfl
theorem laws_heldPointS_ev {α : Type} (n : Nat) (a : List (Int × Int)) (k_ : Int) (κ : Res → Option α) : evFn Try.prog (laws_heldPointS_X n) Try.f23 (((buildDs laws_heldPointS_sh [.rows .pt a, .int k_]).map Prod.fst).getD []) κ = laws_heldPointS_run n [.rows .pt a, .int k_] κ := (laws_heldPointS_gen laws_heldPointS_l2 n a k_ κ).trans (by kernel_rfl)
theorem laws_heldPointS_en (a : List (Int × Int)) (k_ : Int) : (entry 0 (((buildDs laws_heldPointS_sh [.rows .pt a, .int k_]).map Prod.fst).getD [])).map (fun x => (x.1.length, x.2.lent)) = some (2, []) := by kernel_rfl
theorem laws_heldPointS_good {α : Type} : ∀ n, GoodFn (α := α) Try.prog 23 (byShape laws_heldPointS_sh (laws_heldPointS_run n)) := by
  refine fn_good' Try.func23 (c := (Try.f23.body.getD .skip)) (by kernel_rfl) (by kernel_rfl) (by kernel_rfl) laws_heldPointS_C laws_heldPointS_M eqs laws_heldPointS_lps (fun n => tabC_good (fun _ h => absurd h List.not_mem_nil)) eqs_ok laws_heldPointS_Lt ?_ ?_ laws_heldPointS_sh laws_heldPointS_run ?_
  · refine List.forall_mem_cons.2 ⟨?_, (fun _ h => absurd h List.not_mem_nil)⟩
    · intro p brk ret; show laws_heldPointS_u2 0 p brk ret = none; unfold laws_heldPointS_u2 laws_heldPointS_uG2; split <;> rfl
  · refine List.forall_mem_cons.2 ⟨?_, (fun _ h => absurd h List.not_mem_nil)⟩
    · intro np lent hL n p brk ret st r hb hr
      obtain ⟨rfl, rfl⟩ := hL
      rw [← tpl_of hb]
      change laws_heldPointS_u2 (n + 1) p brk ret = some r at hr
      have hr0 := hr
      unfold laws_heldPointS_u2 laws_heldPointS_uG2 at hr
      split at hr
      · exact (laws_heldPointS_l2_ev n _ _ _ brk ret).trans hr0
      · cases hr
  · intro n p κ r ds hd hr
    have hr0 := hr
    unfold laws_heldPointS_run laws_heldPointS_runG at hr
    split at hr
    · rw [← ds_of hd]
      exact ⟨en_of (laws_heldPointS_en _ _) ⟨rfl, rfl⟩, (laws_heldPointS_ev n _ _ κ).trans hr0⟩
    · cases hr

end Go.Proofs.Ytnfpidnnmgedfaa
