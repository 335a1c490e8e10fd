/- The program's functions hold to their readings without memory: printed by a program of ours. -/
import Derived.Test.YtnfpidnnmgedfaaSeXShapeOf
namespace Go.Proofs.Ytnfpidnnmgedfaa
open Go Go.Ev Go.Sh Go.Proofs

/-! loop.example/g01297/laws.toPoint -/
def laws_toPoint_sh : List SkD := [.agg [.int .i64, .int .i64]]
def laws_toPoint_runG {α : Type} (F : Nat → Int → Int → (Int → Int → Option α) → Option α) (n : Nat) (p : List P1) (κ : Res → Option α) : Option α := match p with
  | [.int a, .int a1] => F n a a1 (fun v1 v2 => κ ⟨[.agg [.int .i64 v1, .int .i64 v2]], []⟩)
  | _ => none
def laws_toPoint_run {α : Type} (n : Nat) (p : List P1) (κ : Res → Option α) : Option α := laws_toPoint_runG laws_toPoint n p κ
def laws_toPoint_CG {α : Type}  (n : Nat) : FuncId → List D → (Res → Option α) → Option α := tabC []
def laws_toPoint_C {α : Type} (n : Nat) : FuncId → List D → (Res → Option α) → Option α := laws_toPoint_CG n
def laws_toPoint_M : FuncId → List Nat := tabM []
def laws_toPoint_lpsG {α : Type}  : List (LoopT α) := []
def laws_toPoint_lps {α : Type} : List (LoopT α) := laws_toPoint_lpsG
def laws_toPoint_XG {α : Type}   (n : Nat) : Ctx α := ⟨laws_toPoint_CG n, laws_toPoint_M, eqs, lpOf (laws_toPoint_lpsG) n⟩
def laws_toPoint_X {α : Type} (n : Nat) : Ctx α := laws_toPoint_XG n
def laws_toPoint_Lt (np : Nat) (lent : List (Bool × Nat × Blk)) : Prop := np = 1 ∧ lent = []
def laws_toPoint_body {α : Type}   (k : Nat) (a : Int) (a1 : Int) (r0 : Int → Int → Option α) : Option α :=
  r0 a a1
theorem laws_toPoint_gen {α : Type}   (n : Nat) (a : Int) (a1 : Int) (κ : Res → Option α) : evFn Try.prog (laws_toPoint_XG n) Try.f19 (((buildDs laws_toPoint_sh [.int a, .int a1]).map Prod.fst).getD []) κ = laws_toPoint_body n a a1 (fun v1 v2 => κ ⟨[.agg [.int .i64 v1, .int .i64 v2]], []⟩) := by kernel_rfl
theorem laws_toPoint_ev {α : Type} (n : Nat) (a : Int) (a1 : Int) (κ : Res → Option α) : evFn Try.prog (laws_toPoint_X n) Try.f19 (((buildDs laws_toPoint_sh [.int a, .int a1]).map Prod.fst).getD []) κ = laws_toPoint_run n [.int a, .int a1] κ := (laws_toPoint_gen n a a1 κ).trans (by kernel_rfl)
theorem laws_toPoint_en (a : Int) (a1 : Int) : (entry 0 (((buildDs laws_toPoint_sh [.int a, .int a1]).map Prod.fst).getD [])).map (fun x => (x.1.length, x.2.lent)) = some (1, []) := by kernel_rfl
theorem laws_toPoint_good {α : Type} : ∀ n, GoodFn (α := α) Try.prog 19 (byShape laws_toPoint_sh (laws_toPoint_run n)) := by
  refine fn_good' Try.func19 (c := (Try.f19.body.getD .skip)) (by kernel_rfl) (by kernel_rfl) (by kernel_rfl) laws_toPoint_C laws_toPoint_M eqs laws_toPoint_lps (fun n => tabC_good (fun _ h => absurd h List.not_mem_nil)) eqs_ok laws_toPoint_Lt ?_ ?_ laws_toPoint_sh laws_toPoint_run ?_
  · exact (fun _ h => absurd h List.not_mem_nil)
  · exact (fun _ h => absurd h List.not_mem_nil)
  · intro n p κ r ds hd hr
    have hr0 := hr
    unfold laws_toPoint_run laws_toPoint_runG at hr
    split at hr
    · rw [← ds_of hd]
      exact ⟨en_of (laws_toPoint_en _ _) ⟨rfl, rfl⟩, (laws_toPoint_ev n _ _ κ).trans hr0⟩
    · cases hr

/-! loop.example/g01297/laws.toTriangle -/
def laws_toTriangle_sh : List SkD := [.agg [.int .i64, .int .i64, .int .i64, .int .i64, .int .i64, .int .i64]]
def laws_toTriangle_runG {α : Type} (F : Nat → Int → Int → Int → Int → Int → Int → (Int → Int → Int → Int → Int → Int → Option α) → Option α) (n : Nat) (p : List P1) (κ : Res → Option α) : Option α := match p with
  | [.int a, .int a1, .int a2, .int a3, .int a4, .int a5] => F n a a1 a2 a3 a4 a5 (fun v1 v2 v3 v4 v5 v6 => κ ⟨[.agg [.int .i64 v1, .int .i64 v2, .int .i64 v3, .int .i64 v4, .int .i64 v5, .int .i64 v6]], []⟩)
  | _ => none
def laws_toTriangle_run {α : Type} (n : Nat) (p : List P1) (κ : Res → Option α) : Option α := laws_toTriangle_runG laws_toTriangle n p κ
def laws_toTriangle_CG {α : Type} (F0 : Nat → Int → Int → (Int → Int → Option α) → Option α) (n : Nat) : FuncId → List D → (Res → Option α) → Option α := tabC [(19, (byShape laws_toPoint_sh (laws_toPoint_runG F0 n)))]
def laws_toTriangle_C {α : Type} (n : Nat) : FuncId → List D → (Res → Option α) → Option α := laws_toTriangle_CG laws_toPoint n
def laws_toTriangle_M : FuncId → List Nat := tabM []
def laws_toTriangle_lpsG {α : Type}  : List (LoopT α) := []
def laws_toTriangle_lps {α : Type} : List (LoopT α) := laws_toTriangle_lpsG
def laws_toTriangle_XG {α : Type} (F0 : Nat → Int → Int → (Int → Int → Option α) → Option α)  (n : Nat) : Ctx α := ⟨laws_toTriangle_CG F0 n, laws_toTriangle_M, eqs, lpOf (laws_toTriangle_lpsG) n⟩
def laws_toTriangle_X {α : Type} (n : Nat) : Ctx α := laws_toTriangle_XG laws_toPoint n
def laws_toTriangle_Lt (np : Nat) (lent : List (Bool × Nat × Blk)) : Prop := np = 1 ∧ lent = []
def laws_toTriangle_body {α : Type} (F0 : Nat → Int → Int → (Int → Int → Option α) → Option α)  (k : Nat) (a : Int) (a1 : Int) (a2 : Int) (a3 : Int) (a4 : Int) (a5 : Int) (r0 : Int → Int → Int → Int → Int → Int → Option α) : Option α :=
  F0 k a a1 fun v v1 =>
  F0 k a2 a3 fun v2 v3 =>
  F0 k a4 a5 fun v4 v5 =>
  r0 v v1 v2 v3 v4 v5
theorem laws_toTriangle_gen {α : Type} (F0 : Nat → Int → Int → (Int → Int → Option α) → Option α)  (n : Nat) (a : Int) (a1 : Int) (a2 : Int) (a3 : Int) (a4 : Int) (a5 : Int) (κ : Res → Option α) : evFn Try.prog (laws_toTriangle_XG F0 n) Try.f29 (((buildDs laws_toTriangle_sh [.int a, .int a1, .int a2, .int a3, .int a4, .int a5]).map Prod.fst).getD []) κ = laws_toTriangle_body F0 n a a1 a2 a3 a4 a5 (fun v1 v2 v3 v4 v5 v6 => κ ⟨[.agg [.int .i64 v1, .int .i64 v2, .int .i64 v3, .int .i64 v4, .int .i64 v5, .int .i64 v6]], []⟩) := by kernel_rfl
theorem laws_toTriangle_ev {α : Type} (n : Nat) (a : Int) (a1 : Int) (a2 : Int) (a3 : Int) (a4 : Int) (a5 : Int) (κ : Res → Option α) : evFn Try.prog (laws_toTriangle_X n) Try.f29 (((buildDs laws_toTriangle_sh [.int a, .int a1, .int a2, .int a3, .int a4, .int a5]).map Prod.fst).getD []) κ = laws_toTriangle_run n [.int a, .int a1, .int a2, .int a3, .int a4, .int a5] κ := (laws_toTriangle_gen laws_toPoint n a a1 a2 a3 a4 a5 κ).trans (by kernel_rfl)
theorem laws_toTriangle_en (a : Int) (a1 : Int) (a2 : Int) (a3 : Int) (a4 : Int) (a5 : Int) : (entry 0 (((buildDs laws_toTriangle_sh [.int a, .int a1, .int a2, .int a3, .int a4, .int a5]).map Prod.fst).getD [])).map (fun x => (x.1.length, x.2.lent)) = some (1, []) := by kernel_rfl
theorem laws_toTriangle_good {α : Type} : ∀ n, GoodFn (α := α) Try.prog 29 (byShape laws_toTriangle_sh (laws_toTriangle_run n)) := by
  refine fn_good' Try.func29 (c := (Try.f29.body.getD .skip)) (by kernel_rfl) (by kernel_rfl) (by kernel_rfl) laws_toTriangle_C laws_toTriangle_M eqs laws_toTriangle_lps (fun n => tabC_good (List.forall_mem_cons.2 ⟨(laws_toPoint_good n), (fun _ h => absurd h List.not_mem_nil)⟩)) eqs_ok laws_toTriangle_Lt ?_ ?_ laws_toTriangle_sh laws_toTriangle_run ?_
  · exact (fun _ h => absurd h List.not_mem_nil)
  · exact (fun _ h => absurd h List.not_mem_nil)
  · intro n p κ r ds hd hr
    have hr0 := hr
    unfold laws_toTriangle_run laws_toTriangle_runG at hr
    split at hr
    · rw [← ds_of hd]
      exact ⟨en_of (laws_toTriangle_en _ _ _ _ _ _) ⟨rfl, rfl⟩, (laws_toTriangle_ev n _ _ _ _ _ _ κ).trans hr0⟩
    · cases hr

/-! loop.example/g01297/spec.l01In -/
def spec_l01In_sh : List SkD := [.int .i64, .int .i64, .int .i64]
def spec_l01In_runG {α : Type} (F : Nat → Int → Int → Int → (Bool → Option α) → Option α) (n : Nat) (p : List P1) (κ : Res → Option α) : Option α := match p with
  | [.int n_, .int low, .int high] => F n n_ low high (fun v1 => κ ⟨[.bool v1], []⟩)
  | _ => none
def spec_l01In_run {α : Type} (n : Nat) (p : List P1) (κ : Res → Option α) : Option α := spec_l01In_runG spec_l01In n p κ
def spec_l01In_CG {α : Type}  (n : Nat) : FuncId → List D → (Res → Option α) → Option α := tabC []
def spec_l01In_C {α : Type} (n : Nat) : FuncId → List D → (Res → Option α) → Option α := spec_l01In_CG n
def spec_l01In_M : FuncId → List Nat := tabM []
def spec_l01In_lpsG {α : Type}  : List (LoopT α) := []
def spec_l01In_lps {α : Type} : List (LoopT α) := spec_l01In_lpsG
def spec_l01In_XG {α : Type}   (n : Nat) : Ctx α := ⟨spec_l01In_CG n, spec_l01In_M, eqs, lpOf (spec_l01In_lpsG) n⟩
def spec_l01In_X {α : Type} (n : Nat) : Ctx α := spec_l01In_XG n
def spec_l01In_Lt (np : Nat) (lent : List (Bool × Nat × Blk)) : Prop := np = 3 ∧ lent = []
def spec_l01In_body {α : Type}   (k : Nat) (n_ : Int) (low : Int) (high : Int) (r0 : Bool → Option α) : Option α :=
  bif decide (low ≤ n_) then
    r0 (decide (n_ ≤ high))
  else
    r0 false
theorem spec_l01In_gen {α : Type}   (n : Nat) (n_ : Int) (low : Int) (high : Int) (κ : Res → Option α) : evFn Try.prog (spec_l01In_XG n) Try.f73 (((buildDs spec_l01In_sh [.int n_, .int low, .int high]).map Prod.fst).getD []) κ = spec_l01In_body n n_ low high (fun v1 => κ ⟨[.bool v1], []⟩) := by kernel_rfl
theorem spec_l01In_ev {α : Type} (n : Nat) (n_ : Int) (low : Int) (high : Int) (κ : Res → Option α) : evFn Try.prog (spec_l01In_X n) Try.f73 (((buildDs spec_l01In_sh [.int n_, .int low, .int high]).map Prod.fst).getD []) κ = spec_l01In_run n [.int n_, .int low, .int high] κ := (spec_l01In_gen n n_ low high κ).trans (by kernel_rfl)
theorem spec_l01In_en (n_ : Int) (low : Int) (high : Int) : (entry 0 (((buildDs spec_l01In_sh [.int n_, .int low, .int high]).map Prod.fst).getD [])).map (fun x => (x.1.length, x.2.lent)) = some (3, []) := by kernel_rfl
theorem spec_l01In_good {α : Type} : ∀ n, GoodFn (α := α) Try.prog 73 (byShape spec_l01In_sh (spec_l01In_run n)) := by
  refine fn_good' Try.func73 (c := (Try.f73.body.getD .skip)) (by kernel_rfl) (by kernel_rfl) (by kernel_rfl) spec_l01In_C spec_l01In_M eqs spec_l01In_lps (fun n => tabC_good (fun _ h => absurd h List.not_mem_nil)) eqs_ok spec_l01In_Lt ?_ ?_ spec_l01In_sh spec_l01In_run ?_
  · exact (fun _ h => absurd h List.not_mem_nil)
  · exact (fun _ h => absurd h List.not_mem_nil)
  · intro n p κ r ds hd hr
    have hr0 := hr
    unfold spec_l01In_run spec_l01In_runG at hr
    split at hr
    · rw [← ds_of hd]
      exact ⟨en_of (spec_l01In_en _ _ _) ⟨rfl, rfl⟩, (spec_l01In_ev n _ _ _ κ).trans hr0⟩
    · cases hr

/-! loop.example/g01297/spec.l01Plus -/
def spec_l01Plus_sh : List SkD := [.agg [.int .i64, .int .i64], .agg [.int .i64, .int .i64], .int .i64]
def spec_l01Plus_runG {α : Type} (F : Nat → Int → Int → Int → Int → Int → (Int → Int → Option α) → Option α) (n : Nat) (p : List P1) (κ : Res → Option α) : Option α := match p with
  | [.int a, .int a1, .int b_, .int b_1, .int k_] => F n a a1 b_ b_1 k_ (fun v1 v2 => κ ⟨[.agg [.int .i64 v1, .int .i64 v2]], []⟩)
  | _ => none
def spec_l01Plus_run {α : Type} (n : Nat) (p : List P1) (κ : Res → Option α) : Option α := spec_l01Plus_runG spec_l01Plus n p κ
def spec_l01Plus_CG {α : Type}  (n : Nat) : FuncId → List D → (Res → Option α) → Option α := tabC []
def spec_l01Plus_C {α : Type} (n : Nat) : FuncId → List D → (Res → Option α) → Option α := spec_l01Plus_CG n
def spec_l01Plus_M : FuncId → List Nat := tabM []
def spec_l01Plus_lpsG {α : Type}  : List (LoopT α) := []
def spec_l01Plus_lps {α : Type} : List (LoopT α) := spec_l01Plus_lpsG
def spec_l01Plus_XG {α : Type}   (n : Nat) : Ctx α := ⟨spec_l01Plus_CG n, spec_l01Plus_M, eqs, lpOf (spec_l01Plus_lpsG) n⟩
def spec_l01Plus_X {α : Type} (n : Nat) : Ctx α := spec_l01Plus_XG n
def spec_l01Plus_Lt (np : Nat) (lent : List (Bool × Nat × Blk)) : Prop := np = 3 ∧ lent = []
def spec_l01Plus_body {α : Type}   (k : Nat) (a : Int) (a1 : Int) (b_ : Int) (b_1 : Int) (k_ : Int) (r0 : Int → Int → Option α) : Option α :=
  r0 (w64 (a + (w64 (k_ * b_)))) (w64 (a1 + (w64 (k_ * b_1))))
theorem spec_l01Plus_gen {α : Type}   (n : Nat) (a : Int) (a1 : Int) (b_ : Int) (b_1 : Int) (k_ : Int) (κ : Res → Option α) : evFn Try.prog (spec_l01Plus_XG n) Try.f112 (((buildDs spec_l01Plus_sh [.int a, .int a1, .int b_, .int b_1, .int k_]).map Prod.fst).getD []) κ = spec_l01Plus_body n a a1 b_ b_1 k_ (fun v1 v2 => κ ⟨[.agg [.int .i64 v1, .int .i64 v2]], []⟩) := by kernel_rfl
theorem spec_l01Plus_ev {α : Type} (n : Nat) (a : Int) (a1 : Int) (b_ : Int) (b_1 : Int) (k_ : Int) (κ : Res → Option α) : evFn Try.prog (spec_l01Plus_X n) Try.f112 (((buildDs spec_l01Plus_sh [.int a, .int a1, .int b_, .int b_1, .int k_]).map Prod.fst).getD []) κ = spec_l01Plus_run n [.int a, .int a1, .int b_, .int b_1, .int k_] κ := (spec_l01Plus_gen n a a1 b_ b_1 k_ κ).trans (by kernel_rfl)
theorem spec_l01Plus_en (a : Int) (a1 : Int) (b_ : Int) (b_1 : Int) (k_ : Int) : (entry 0 (((buildDs spec_l01Plus_sh [.int a, .int a1, .int b_, .int b_1, .int k_]).map Prod.fst).getD [])).map (fun x => (x.1.length, x.2.lent)) = some (3, []) := by kernel_rfl
theorem spec_l01Plus_good {α : Type} : ∀ n, GoodFn (α := α) Try.prog 112 (byShape spec_l01Plus_sh (spec_l01Plus_run n)) := by
  refine fn_good' Try.func112 (c := (Try.f112.body.getD .skip)) (by kernel_rfl) (by kernel_rfl) (by kernel_rfl) spec_l01Plus_C spec_l01Plus_M eqs spec_l01Plus_lps (fun n => tabC_good (fun _ h => absurd h List.not_mem_nil)) eqs_ok spec_l01Plus_Lt ?_ ?_ spec_l01Plus_sh spec_l01Plus_run ?_
  · exact (fun _ h => absurd h List.not_mem_nil)
  · exact (fun _ h => absurd h List.not_mem_nil)
  · intro n p κ r ds hd hr
    have hr0 := hr
    unfold spec_l01Plus_run spec_l01Plus_runG at hr
    split at hr
    · rw [← ds_of hd]
      exact ⟨en_of (spec_l01Plus_en _ _ _ _ _) ⟨rfl, rfl⟩, (spec_l01Plus_ev n _ _ _ _ _ κ).trans hr0⟩
    · cases hr

/-! loop.example/g01297/spec.l01Det -/
def spec_l01Det_sh : List SkD := [.agg [.int .i64, .int .i64], .agg [.int .i64, .int .i64]]
def spec_l01Det_runG {α : Type} (F : Nat → Int → Int → Int → Int → (Int → Option α) → Option α) (n : Nat) (p : List P1) (κ : Res → Option α) : Option α := match p with
  | [.int a, .int a1, .int b_, .int b_1] => F n a a1 b_ b_1 (fun v1 => κ ⟨[.int .i64 v1], []⟩)
  | _ => none
def spec_l01Det_run {α : Type} (n : Nat) (p : List P1) (κ : Res → Option α) : Option α := spec_l01Det_runG spec_l01Det n p κ
def spec_l01Det_CG {α : Type}  (n : Nat) : FuncId → List D → (Res → Option α) → Option α := tabC []
def spec_l01Det_C {α : Type} (n : Nat) : FuncId → List D → (Res → Option α) → Option α := spec_l01Det_CG n
def spec_l01Det_M : FuncId → List Nat := tabM []
def spec_l01Det_lpsG {α : Type}  : List (LoopT α) := []
def spec_l01Det_lps {α : Type} : List (LoopT α) := spec_l01Det_lpsG
def spec_l01Det_XG {α : Type}   (n : Nat) : Ctx α := ⟨spec_l01Det_CG n, spec_l01Det_M, eqs, lpOf (spec_l01Det_lpsG) n⟩
def spec_l01Det_X {α : Type} (n : Nat) : Ctx α := spec_l01Det_XG n
def spec_l01Det_Lt (np : Nat) (lent : List (Bool × Nat × Blk)) : Prop := np = 2 ∧ lent = []
def spec_l01Det_body {α : Type}   (k : Nat) (a : Int) (a1 : Int) (b_ : Int) (b_1 : Int) (r0 : Int → Option α) : Option α :=
  r0 (w64 ((w64 (a * b_1)) - (w64 (a1 * b_))))
theorem spec_l01Det_gen {α : Type}   (n : Nat) (a : Int) (a1 : Int) (b_ : Int) (b_1 : Int) (κ : Res → Option α) : evFn Try.prog (spec_l01Det_XG n) Try.f109 (((buildDs spec_l01Det_sh [.int a, .int a1, .int b_, .int b_1]).map Prod.fst).getD []) κ = spec_l01Det_body n a a1 b_ b_1 (fun v1 => κ ⟨[.int .i64 v1], []⟩) := by kernel_rfl
theorem spec_l01Det_ev {α : Type} (n : Nat) (a : Int) (a1 : Int) (b_ : Int) (b_1 : Int) (κ : Res → Option α) : evFn Try.prog (spec_l01Det_X n) Try.f109 (((buildDs spec_l01Det_sh [.int a, .int a1, .int b_, .int b_1]).map Prod.fst).getD []) κ = spec_l01Det_run n [.int a, .int a1, .int b_, .int b_1] κ := (spec_l01Det_gen n a a1 b_ b_1 κ).trans (by kernel_rfl)
theorem spec_l01Det_en (a : Int) (a1 : Int) (b_ : Int) (b_1 : Int) : (entry 0 (((buildDs spec_l01Det_sh [.int a, .int a1, .int b_, .int b_1]).map Prod.fst).getD [])).map (fun x => (x.1.length, x.2.lent)) = some (2, []) := by kernel_rfl
theorem spec_l01Det_good {α : Type} : ∀ n, GoodFn (α := α) Try.prog 109 (byShape spec_l01Det_sh (spec_l01Det_run n)) := by
  refine fn_good' Try.func109 (c := (Try.f109.body.getD .skip)) (by kernel_rfl) (by kernel_rfl) (by kernel_rfl) spec_l01Det_C spec_l01Det_M eqs spec_l01Det_lps (fun n => tabC_good (fun _ h => absurd h List.not_mem_nil)) eqs_ok spec_l01Det_Lt ?_ ?_ spec_l01Det_sh spec_l01Det_run ?_
  · exact (fun _ h => absurd h List.not_mem_nil)
  · exact (fun _ h => absurd h List.not_mem_nil)
  · intro n p κ r ds hd hr
    have hr0 := hr
    unfold spec_l01Det_run spec_l01Det_runG at hr
    split at hr
    · rw [← ds_of hd]
      exact ⟨en_of (spec_l01Det_en _ _ _ _) ⟨rfl, rfl⟩, (spec_l01Det_ev n _ _ _ _ κ).trans hr0⟩
    · cases hr

/-! loop.example/g01297/spec.l01Area -/
def spec_l01Area_sh : List SkD := [.agg [.int .i64, .int .i64], .agg [.int .i64, .int .i64], .agg [.int .i64, .int .i64]]
def spec_l01Area_runG {α : Type} (F : Nat → Int → Int → Int → Int → Int → Int → (Int → Option α) → Option α) (n : Nat) (p : List P1) (κ : Res → Option α) : Option α := match p with
  | [.int a, .int a1, .int b_, .int b_1, .int c, .int c1] => F n a a1 b_ b_1 c c1 (fun v1 => κ ⟨[.int .i64 v1], []⟩)
  | _ => none
def spec_l01Area_run {α : Type} (n : Nat) (p : List P1) (κ : Res → Option α) : Option α := spec_l01Area_runG spec_l01Area n p κ
def spec_l01Area_CG {α : Type} (F0 : Nat → Int → Int → Int → Int → Int → (Int → Int → Option α) → Option α) (F1 : Nat → Int → Int → Int → Int → (Int → Option α) → Option α) (n : Nat) : FuncId → List D → (Res → Option α) → Option α := tabC [(112, (byShape spec_l01Plus_sh (spec_l01Plus_runG F0 n))), (109, (byShape spec_l01Det_sh (spec_l01Det_runG F1 n)))]
def spec_l01Area_C {α : Type} (n : Nat) : FuncId → List D → (Res → Option α) → Option α := spec_l01Area_CG spec_l01Plus spec_l01Det n
def spec_l01Area_M : FuncId → List Nat := tabM []
def spec_l01Area_lpsG {α : Type}  : List (LoopT α) := []
def spec_l01Area_lps {α : Type} : List (LoopT α) := spec_l01Area_lpsG
def spec_l01Area_XG {α : Type} (F0 : Nat → Int → Int → Int → Int → Int → (Int → Int → Option α) → Option α) (F1 : Nat → Int → Int → Int → Int → (Int → Option α) → Option α)  (n : Nat) : Ctx α := ⟨spec_l01Area_CG F0 F1 n, spec_l01Area_M, eqs, lpOf (spec_l01Area_lpsG) n⟩
def spec_l01Area_X {α : Type} (n : Nat) : Ctx α := spec_l01Area_XG spec_l01Plus spec_l01Det n
def spec_l01Area_Lt (np : Nat) (lent : List (Bool × Nat × Blk)) : Prop := np = 3 ∧ lent = []
def spec_l01Area_body {α : Type} (F0 : Nat → Int → Int → Int → Int → Int → (Int → Int → Option α) → Option α) (F1 : Nat → Int → Int → Int → Int → (Int → Option α) → Option α)  (k : Nat) (a : Int) (a1 : Int) (b_ : Int) (b_1 : Int) (c : Int) (c1 : Int) (r0 : Int → Option α) : Option α :=
  F0 k b_ b_1 a a1 (-1) fun v v1 =>
  F0 k c c1 a a1 (-1) fun v2 v3 =>
  F1 k v v1 v2 v3 fun v4 =>
  r0 (max v4 (w64 (0 - v4)))
theorem spec_l01Area_gen {α : Type} (F0 : Nat → Int → Int → Int → Int → Int → (Int → Int → Option α) → Option α) (F1 : Nat → Int → Int → Int → Int → (Int → Option α) → Option α)  (n : Nat) (a : Int) (a1 : Int) (b_ : Int) (b_1 : Int) (c : Int) (c1 : Int) (κ : Res → Option α) : evFn Try.prog (spec_l01Area_XG F0 F1 n) Try.f118 (((buildDs spec_l01Area_sh [.int a, .int a1, .int b_, .int b_1, .int c, .int c1]).map Prod.fst).getD []) κ = spec_l01Area_body F0 F1 n a a1 b_ b_1 c c1 (fun v1 => κ ⟨[.int .i64 v1], []⟩) := by kernel_rfl
theorem spec_l01Area_ev {α : Type} (n : Nat) (a : Int) (a1 : Int) (b_ : Int) (b_1 : Int) (c : Int) (c1 : Int) (κ : Res → Option α) : evFn Try.prog (spec_l01Area_X n) Try.f118 (((buildDs spec_l01Area_sh [.int a, .int a1, .int b_, .int b_1, .int c, .int c1]).map Prod.fst).getD []) κ = spec_l01Area_run n [.int a, .int a1, .int b_, .int b_1, .int c, .int c1] κ := (spec_l01Area_gen spec_l01Plus spec_l01Det n a a1 b_ b_1 c c1 κ).trans (by kernel_rfl)
theorem spec_l01Area_en (a : Int) (a1 : Int) (b_ : Int) (b_1 : Int) (c : Int) (c1 : Int) : (entry 0 (((buildDs spec_l01Area_sh [.int a, .int a1, .int b_, .int b_1, .int c, .int c1]).map Prod.fst).getD [])).map (fun x => (x.1.length, x.2.lent)) = some (3, []) := by kernel_rfl
theorem spec_l01Area_good {α : Type} : ∀ n, GoodFn (α := α) Try.prog 118 (byShape spec_l01Area_sh (spec_l01Area_run n)) := by
  refine fn_good' Try.func118 (c := (Try.f118.body.getD .skip)) (by kernel_rfl) (by kernel_rfl) (by kernel_rfl) spec_l01Area_C spec_l01Area_M eqs spec_l01Area_lps (fun n => tabC_good (List.forall_mem_cons.2 ⟨(spec_l01Plus_good n), (List.forall_mem_cons.2 ⟨(spec_l01Det_good n), (fun _ h => absurd h List.not_mem_nil)⟩)⟩)) eqs_ok spec_l01Area_Lt ?_ ?_ spec_l01Area_sh spec_l01Area_run ?_
  · exact (fun _ h => absurd h List.not_mem_nil)
  · exact (fun _ h => absurd h List.not_mem_nil)
  · intro n p κ r ds hd hr
    have hr0 := hr
    unfold spec_l01Area_run spec_l01Area_runG at hr
    split at hr
    · rw [← ds_of hd]
      exact ⟨en_of (spec_l01Area_en _ _ _ _ _ _) ⟨rfl, rfl⟩, (spec_l01Area_ev n _ _ _ _ _ _ κ).trans hr0⟩
    · cases hr

/-! loop.example/g01297/spec.l04Is -/
def spec_l04Is_sh : List SkD := [.agg [.int .i64, .int .i64, .int .i64, .int .i64, .int .i64, .int .i64]]
def spec_l04Is_runG {α : Type} (F : Nat → Int → Int → Int → Int → Int → Int → (Bool → Option α) → Option α) (n : Nat) (p : List P1) (κ : Res → Option α) : Option α := match p with
  | [.int t, .int t1, .int t2, .int t3, .int t4, .int t5] => F n t t1 t2 t3 t4 t5 (fun v1 => κ ⟨[.bool v1], []⟩)
  | _ => none
def spec_l04Is_run {α : Type} (n : Nat) (p : List P1) (κ : Res → Option α) : Option α := spec_l04Is_runG spec_l04Is n p κ
def spec_l04Is_CG {α : Type} (F0 : Nat → Int → Int → Int → (Bool → Option α) → Option α) (F1 : Nat → Int → Int → Int → Int → Int → Int → (Int → Option α) → Option α) (n : Nat) : FuncId → List D → (Res → Option α) → Option α := tabC [(73, (byShape spec_l01In_sh (spec_l01In_runG F0 n))), (118, (byShape spec_l01Area_sh (spec_l01Area_runG F1 n)))]
def spec_l04Is_C {α : Type} (n : Nat) : FuncId → List D → (Res → Option α) → Option α := spec_l04Is_CG spec_l01In spec_l01Area n
def spec_l04Is_M : FuncId → List Nat := tabM []
def spec_l04Is_lpsG {α : Type}  : List (LoopT α) := []
def spec_l04Is_lps {α : Type} : List (LoopT α) := spec_l04Is_lpsG
def spec_l04Is_XG {α : Type} (F0 : Nat → Int → Int → Int → (Bool → Option α) → Option α) (F1 : Nat → Int → Int → Int → Int → Int → Int → (Int → Option α) → Option α)  (n : Nat) : Ctx α := ⟨spec_l04Is_CG F0 F1 n, spec_l04Is_M, eqs, lpOf (spec_l04Is_lpsG) n⟩
def spec_l04Is_X {α : Type} (n : Nat) : Ctx α := spec_l04Is_XG spec_l01In spec_l01Area n
def spec_l04Is_Lt (np : Nat) (lent : List (Bool × Nat × Blk)) : Prop := np = 1 ∧ lent = []
def spec_l04Is_body {α : Type} (F0 : Nat → Int → Int → Int → (Bool → Option α) → Option α) (F1 : Nat → Int → Int → Int → Int → Int → Int → (Int → Option α) → Option α)  (k : Nat) (t : Int) (t1 : Int) (t2 : Int) (t3 : Int) (t4 : Int) (t5 : Int) (r0 : Bool → Option α) : Option α :=
  F0 k t (-1000) 1000 fun v =>
  bif (!v) then
    r0 false
  else
    F0 k t1 (-1000) 1000 fun v1 =>
    bif (!v1) then
      r0 false
    else
      F0 k t2 (-1000) 1000 fun v2 =>
      bif (!v2) then
        r0 false
      else
        F0 k t3 (-1000) 1000 fun v3 =>
        bif (!v3) then
          r0 false
        else
          F0 k t4 (-1000) 1000 fun v4 =>
          bif (!v4) then
            r0 false
          else
            F0 k t5 (-1000) 1000 fun v5 =>
            bif (!v5) then
              r0 false
            else
              F1 k t t1 t2 t3 t4 t5 fun v6 =>
              r0 (!decide (v6 = 0))
theorem spec_l04Is_gen {α : Type} (F0 : Nat → Int → Int → Int → (Bool → Option α) → Option α) (F1 : Nat → Int → Int → Int → Int → Int → Int → (Int → Option α) → Option α)  (n : Nat) (t : Int) (t1 : Int) (t2 : Int) (t3 : Int) (t4 : Int) (t5 : Int) (κ : Res → Option α) : evFn Try.prog (spec_l04Is_XG F0 F1 n) Try.f72 (((buildDs spec_l04Is_sh [.int t, .int t1, .int t2, .int t3, .int t4, .int t5]).map Prod.fst).getD []) κ = spec_l04Is_body F0 F1 n t t1 t2 t3 t4 t5 (fun v1 => κ ⟨[.bool v1], []⟩) := by kernel_rfl
theorem spec_l04Is_ev {α : Type} (n : Nat) (t : Int) (t1 : Int) (t2 : Int) (t3 : Int) (t4 : Int) (t5 : Int) (κ : Res → Option α) : evFn Try.prog (spec_l04Is_X n) Try.f72 (((buildDs spec_l04Is_sh [.int t, .int t1, .int t2, .int t3, .int t4, .int t5]).map Prod.fst).getD []) κ = spec_l04Is_run n [.int t, .int t1, .int t2, .int t3, .int t4, .int t5] κ := (spec_l04Is_gen spec_l01In spec_l01Area n t t1 t2 t3 t4 t5 κ).trans (by kernel_rfl)
theorem spec_l04Is_en (t : Int) (t1 : Int) (t2 : Int) (t3 : Int) (t4 : Int) (t5 : Int) : (entry 0 (((buildDs spec_l04Is_sh [.int t, .int t1, .int t2, .int t3, .int t4, .int t5]).map Prod.fst).getD [])).map (fun x => (x.1.length, x.2.lent)) = some (1, []) := by kernel_rfl
theorem spec_l04Is_good {α : Type} : ∀ n, GoodFn (α := α) Try.prog 72 (byShape spec_l04Is_sh (spec_l04Is_run n)) := by
  refine fn_good' Try.func72 (c := (Try.f72.body.getD .skip)) (by kernel_rfl) (by kernel_rfl) (by kernel_rfl) spec_l04Is_C spec_l04Is_M eqs spec_l04Is_lps (fun n => tabC_good (List.forall_mem_cons.2 ⟨(spec_l01In_good n), (List.forall_mem_cons.2 ⟨(spec_l01Area_good n), (fun _ h => absurd h List.not_mem_nil)⟩)⟩)) eqs_ok spec_l04Is_Lt ?_ ?_ spec_l04Is_sh spec_l04Is_run ?_
  · exact (fun _ h => absurd h List.not_mem_nil)
  · exact (fun _ h => absurd h List.not_mem_nil)
  · intro n p κ r ds hd hr
    have hr0 := hr
    unfold spec_l04Is_run spec_l04Is_runG at hr
    split at hr
    · rw [← ds_of hd]
      exact ⟨en_of (spec_l04Is_en _ _ _ _ _ _) ⟨rfl, rfl⟩, (spec_l04Is_ev n _ _ _ _ _ _ κ).trans hr0⟩
    · cases hr

/-! loop.example/g01297/spec.l01Gcd -/
def spec_l01Gcd_sh : List SkD := [.int .i64, .int .i64]
def spec_l01Gcd_runG {α : Type} (F : Nat → Int → Int → (Int → Option α) → Option α) (n : Nat) (p : List P1) (κ : Res → Option α) : Option α := match p with
  | [.int a, .int b_] => F n a b_ (fun v1 => κ ⟨[.int .i64 v1], []⟩)
  | _ => none
def spec_l01Gcd_run {α : Type} (n : Nat) (p : List P1) (κ : Res → Option α) : Option α := spec_l01Gcd_runG spec_l01Gcd n p κ
def spec_l01Gcd_CG {α : Type}  (n : Nat) : FuncId → List D → (Res → Option α) → Option α := tabC []
def spec_l01Gcd_C {α : Type} (n : Nat) : FuncId → List D → (Res → Option α) → Option α := spec_l01Gcd_CG n
def spec_l01Gcd_M : FuncId → List Nat := tabM []
def spec_l01Gcd_t1 : Tpl := ⟨[.int .i64, .int .i64, .any, .any, .any, .any, .any, .any, .any, .any, .any, .any, .any, .any, .any, .any, .any], [], []⟩
def spec_l01Gcd_uG1 {α : Type} (G : Nat → Int → Int → (Int → Int → Option α) → (Int → Option α) → Option α) (n : Nat) (p : List P1) (brk : Nat → List P1 → Option α) (ret : Res → Option α) : Option α := match p with
  | [.int a1, .int b_1] => G n a1 b_1 (fun a1 b_1 => brk 0 [.int a1, .int b_1]) (fun v1 => ret ⟨[.int .i64 v1], []⟩)
  | _ => none
def spec_l01Gcd_u1 {α : Type} (n : Nat) (p : List P1) (brk : Nat → List P1 → Option α) (ret : Res → Option α) : Option α := spec_l01Gcd_uG1 spec_l01Gcd_l1 n p brk ret
def spec_l01Gcd_lpsG {α : Type} (G1 : Nat → Int → Int → (Int → Int → Option α) → (Int → Option α) → Option α) : List (LoopT α) := [⟨1, spec_l01Gcd_t1, spec_l01Gcd_uG1 G1⟩]
def spec_l01Gcd_lps {α : Type} : List (LoopT α) := spec_l01Gcd_lpsG spec_l01Gcd_l1
def spec_l01Gcd_XG {α : Type}  (G1 : Nat → Int → Int → (Int → Int → Option α) → (Int → Option α) → Option α) (n : Nat) : Ctx α := ⟨spec_l01Gcd_CG n, spec_l01Gcd_M, eqs, lpOf (spec_l01Gcd_lpsG G1) n⟩
def spec_l01Gcd_X {α : Type} (n : Nat) : Ctx α := spec_l01Gcd_XG spec_l01Gcd_l1 n
def spec_l01Gcd_Lt (np : Nat) (lent : List (Bool × Nat × Blk)) : Prop := np = 2 ∧ lent = []
def spec_l01Gcd_lb1 {α : Type}  (G1 : Nat → Int → Int → (Int → Int → Option α) → (Int → Option α) → Option α) (k : Nat) (a1 : Int) (b_1 : Int) (b0 : Int → Int → Option α) (r0 : Int → Option α) : Option α :=
  bif (!decide (b_1 = 0)) then
    bif decide (b_1 = 0) then
      none
    else
      G1 k b_1 (Int.tmod a1 b_1) b0 r0
  else
    b0 a1 b_1
theorem spec_l01Gcd_l1_gen {α : Type}  (G1 : Nat → Int → Int → (Int → Int → Option α) → (Int → Option α) → Option α) (n : Nat) (a1 : Int) (b_1 : Int) (brk : Nat → List P1 → Option α) (ret : Res → Option α) : ev ((spec_l01Gcd_XG G1 n).env Try.prog Try.f96 2 []) (findLoop (loopsIn (Try.f96.body.getD .skip)) 1) ((spec_l01Gcd_t1.build [.int a1, .int b_1]).getD ⟨[], []⟩) (roundK (2 * 64) spec_l01Gcd_t1 (fun q => spec_l01Gcd_uG1 G1 n q brk ret) brk ret) = spec_l01Gcd_lb1 G1 n a1 b_1 (fun a1 b_1 => brk 0 [.int a1, .int b_1]) (fun v1 => ret ⟨[.int .i64 v1], []⟩) := by kernel_rfl
theorem spec_l01Gcd_l1_ev {α : Type} (n : Nat) (a1 : Int) (b_1 : Int) (brk : Nat → List P1 → Option α) (ret : Res → Option α) : ev ((spec_l01Gcd_X n).env Try.prog Try.f96 2 []) (findLoop (loopsIn (Try.f96.body.getD .skip)) 1) ((spec_l01Gcd_t1.build [.int a1, .int b_1]).getD ⟨[], []⟩) (roundK (2 * 64) spec_l01Gcd_t1 (fun q => spec_l01Gcd_u1 n q brk ret) brk ret) = spec_l01Gcd_u1 (n + 1) [.int a1, .int b_1] brk ret := (spec_l01Gcd_l1_gen spec_l01Gcd_l1 n a1 b_1 brk ret).trans (by kernel_rfl)
def spec_l01Gcd_body {α : Type}  (G1 : Nat → Int → Int → (Int → Int → Option α) → (Int → Option α) → Option α) (k : Nat) (a : Int) (b_ : Int) (r0 : Int → Option α) : Option α :=
  G1 k a b_
    (fun a2 b_2 =>
      r0 (max a2 (w64 (0 - a2))))
    r0
theorem spec_l01Gcd_gen {α : Type}  (G1 : Nat → Int → Int → (Int → Int → Option α) → (Int → Option α) → Option α) (n : Nat) (a : Int) (b_ : Int) (κ : Res → Option α) : evFn Try.prog (spec_l01Gcd_XG G1 n) Try.f96 (((buildDs spec_l01Gcd_sh [.int a, .int b_]).map Prod.fst).getD []) κ = spec_l01Gcd_body G1 n a b_ (fun v1 => κ ⟨[.int .i64 v1], []⟩) := by kernel_rfl
theorem spec_l01Gcd_ev {α : Type} (n : Nat) (a : Int) (b_ : Int) (κ : Res → Option α) : evFn Try.prog (spec_l01Gcd_X n) Try.f96 (((buildDs spec_l01Gcd_sh [.int a, .int b_]).map Prod.fst).getD []) κ = spec_l01Gcd_run n [.int a, .int b_] κ := (spec_l01Gcd_gen spec_l01Gcd_l1 n a b_ κ).trans (by kernel_rfl)
theorem spec_l01Gcd_en (a : Int) (b_ : Int) : (entry 0 (((buildDs spec_l01Gcd_sh [.int a, .int b_]).map Prod.fst).getD [])).map (fun x => (x.1.length, x.2.lent)) = some (2, []) := by kernel_rfl
theorem spec_l01Gcd_good {α : Type} : ∀ n, GoodFn (α := α) Try.prog 96 (byShape spec_l01Gcd_sh (spec_l01Gcd_run n)) := by
  refine fn_good' Try.func96 (c := (Try.f96.body.getD .skip)) (by kernel_rfl) (by kernel_rfl) (by kernel_rfl) spec_l01Gcd_C spec_l01Gcd_M eqs spec_l01Gcd_lps (fun n => tabC_good (fun _ h => absurd h List.not_mem_nil)) eqs_ok spec_l01Gcd_Lt ?_ ?_ spec_l01Gcd_sh spec_l01Gcd_run ?_
  · refine List.forall_mem_cons.2 ⟨?_, (fun _ h => absurd h List.not_mem_nil)⟩
    · intro p brk ret; show spec_l01Gcd_u1 0 p brk ret = none; unfold spec_l01Gcd_u1 spec_l01Gcd_uG1; split <;> rfl
  · refine List.forall_mem_cons.2 ⟨?_, (fun _ h => absurd h List.not_mem_nil)⟩
    · intro np lent hL n p brk ret st r hb hr
      obtain ⟨rfl, rfl⟩ := hL
      rw [← tpl_of hb]
      change spec_l01Gcd_u1 (n + 1) p brk ret = some r at hr
      have hr0 := hr
      unfold spec_l01Gcd_u1 spec_l01Gcd_uG1 at hr
      split at hr
      · exact (spec_l01Gcd_l1_ev n _ _ brk ret).trans hr0
      · cases hr
  · intro n p κ r ds hd hr
    have hr0 := hr
    unfold spec_l01Gcd_run spec_l01Gcd_runG at hr
    split at hr
    · rw [← ds_of hd]
      exact ⟨en_of (spec_l01Gcd_en _ _) ⟨rfl, rfl⟩, (spec_l01Gcd_ev n _ _ κ).trans hr0⟩
    · cases hr

/-! loop.example/g01297/spec.l01Part -/
def spec_l01Part_sh : List SkD := [.agg [.int .i64, .int .i64]]
def spec_l01Part_runG {α : Type} (F : Nat → Int → Int → (Int → Int → Option α) → Option α) (n : Nat) (p : List P1) (κ : Res → Option α) : Option α := match p with
  | [.int a, .int a1] => F n a a1 (fun v1 v2 => κ ⟨[.agg [.int .i64 v1, .int .i64 v2]], []⟩)
  | _ => none
def spec_l01Part_run {α : Type} (n : Nat) (p : List P1) (κ : Res → Option α) : Option α := spec_l01Part_runG spec_l01Part n p κ
def spec_l01Part_CG {α : Type} (F0 : Nat → Int → Int → (Int → Option α) → Option α) (n : Nat) : FuncId → List D → (Res → Option α) → Option α := tabC [(96, (byShape spec_l01Gcd_sh (spec_l01Gcd_runG F0 n)))]
def spec_l01Part_C {α : Type} (n : Nat) : FuncId → List D → (Res → Option α) → Option α := spec_l01Part_CG spec_l01Gcd n
def spec_l01Part_M : FuncId → List Nat := tabM []
def spec_l01Part_lpsG {α : Type}  : List (LoopT α) := []
def spec_l01Part_lps {α : Type} : List (LoopT α) := spec_l01Part_lpsG
def spec_l01Part_XG {α : Type} (F0 : Nat → Int → Int → (Int → Option α) → Option α)  (n : Nat) : Ctx α := ⟨spec_l01Part_CG F0 n, spec_l01Part_M, eqs, lpOf (spec_l01Part_lpsG) n⟩
def spec_l01Part_X {α : Type} (n : Nat) : Ctx α := spec_l01Part_XG spec_l01Gcd n
def spec_l01Part_Lt (np : Nat) (lent : List (Bool × Nat × Blk)) : Prop := np = 1 ∧ lent = []
def spec_l01Part_body {α : Type} (F0 : Nat → Int → Int → (Int → Option α) → Option α)  (k : Nat) (a : Int) (a1 : Int) (r0 : Int → Int → Option α) : Option α :=
  F0 k a a1 fun v =>
  bif decide (v = 0) then
    none
  else
  bif decide (v = 0) then
    none
  else
    r0 (w64 (Int.tdiv a v)) (w64 (Int.tdiv a1 v))
theorem spec_l01Part_gen {α : Type} (F0 : Nat → Int → Int → (Int → Option α) → Option α)  (n : Nat) (a : Int) (a1 : Int) (κ : Res → Option α) : evFn Try.prog (spec_l01Part_XG F0 n) Try.f119 (((buildDs spec_l01Part_sh [.int a, .int a1]).map Prod.fst).getD []) κ = spec_l01Part_body F0 n a a1 (fun v1 v2 => κ ⟨[.agg [.int .i64 v1, .int .i64 v2]], []⟩) := by kernel_rfl
theorem spec_l01Part_ev {α : Type} (n : Nat) (a : Int) (a1 : Int) (κ : Res → Option α) : evFn Try.prog (spec_l01Part_X n) Try.f119 (((buildDs spec_l01Part_sh [.int a, .int a1]).map Prod.fst).getD []) κ = spec_l01Part_run n [.int a, .int a1] κ := (spec_l01Part_gen spec_l01Gcd n a a1 κ).trans (by kernel_rfl)
theorem spec_l01Part_en (a : Int) (a1 : Int) : (entry 0 (((buildDs spec_l01Part_sh [.int a, .int a1]).map Prod.fst).getD [])).map (fun x => (x.1.length, x.2.lent)) = some (1, []) := by kernel_rfl
theorem spec_l01Part_good {α : Type} : ∀ n, GoodFn (α := α) Try.prog 119 (byShape spec_l01Part_sh (spec_l01Part_run n)) := by
  refine fn_good' Try.func119 (c := (Try.f119.body.getD .skip)) (by kernel_rfl) (by kernel_rfl) (by kernel_rfl) spec_l01Part_C spec_l01Part_M eqs spec_l01Part_lps (fun n => tabC_good (List.forall_mem_cons.2 ⟨(spec_l01Gcd_good n), (fun _ h => absurd h List.not_mem_nil)⟩)) eqs_ok spec_l01Part_Lt ?_ ?_ spec_l01Part_sh spec_l01Part_run ?_
  · exact (fun _ h => absurd h List.not_mem_nil)
  · exact (fun _ h => absurd h List.not_mem_nil)
  · intro n p κ r ds hd hr
    have hr0 := hr
    unfold spec_l01Part_run spec_l01Part_runG at hr
    split at hr
    · rw [← ds_of hd]
      exact ⟨en_of (spec_l01Part_en _ _) ⟨rfl, rfl⟩, (spec_l01Part_ev n _ _ κ).trans hr0⟩
    · cases hr

/-! loop.example/g01297/spec.l01Length -/
def spec_l01Length_sh : List SkD := [.agg [.int .i64, .int .i64], .agg [.int .i64, .int .i64]]
def spec_l01Length_runG {α : Type} (F : Nat → Int → Int → Int → Int → (Int → Option α) → Option α) (n : Nat) (p : List P1) (κ : Res → Option α) : Option α := match p with
  | [.int a, .int a1, .int b_, .int b_1] => F n a a1 b_ b_1 (fun v1 => κ ⟨[.int .i64 v1], []⟩)
  | _ => none
def spec_l01Length_run {α : Type} (n : Nat) (p : List P1) (κ : Res → Option α) : Option α := spec_l01Length_runG spec_l01Length n p κ
def spec_l01Length_CG {α : Type} (F0 : Nat → Int → Int → (Int → Option α) → Option α) (n : Nat) : FuncId → List D → (Res → Option α) → Option α := tabC [(96, (byShape spec_l01Gcd_sh (spec_l01Gcd_runG F0 n)))]
def spec_l01Length_C {α : Type} (n : Nat) : FuncId → List D → (Res → Option α) → Option α := spec_l01Length_CG spec_l01Gcd n
def spec_l01Length_M : FuncId → List Nat := tabM []
def spec_l01Length_lpsG {α : Type}  : List (LoopT α) := []
def spec_l01Length_lps {α : Type} : List (LoopT α) := spec_l01Length_lpsG
def spec_l01Length_XG {α : Type} (F0 : Nat → Int → Int → (Int → Option α) → Option α)  (n : Nat) : Ctx α := ⟨spec_l01Length_CG F0 n, spec_l01Length_M, eqs, lpOf (spec_l01Length_lpsG) n⟩
def spec_l01Length_X {α : Type} (n : Nat) : Ctx α := spec_l01Length_XG spec_l01Gcd n
def spec_l01Length_Lt (np : Nat) (lent : List (Bool × Nat × Blk)) : Prop := np = 2 ∧ lent = []
def spec_l01Length_body {α : Type} (F0 : Nat → Int → Int → (Int → Option α) → Option α)  (k : Nat) (a : Int) (a1 : Int) (b_ : Int) (b_1 : Int) (r0 : Int → Option α) : Option α :=
  F0 k (w64 (b_ - a)) (w64 (b_1 - a1)) fun v =>
  r0 v
theorem spec_l01Length_gen {α : Type} (F0 : Nat → Int → Int → (Int → Option α) → Option α)  (n : Nat) (a : Int) (a1 : Int) (b_ : Int) (b_1 : Int) (κ : Res → Option α) : evFn Try.prog (spec_l01Length_XG F0 n) Try.f120 (((buildDs spec_l01Length_sh [.int a, .int a1, .int b_, .int b_1]).map Prod.fst).getD []) κ = spec_l01Length_body F0 n a a1 b_ b_1 (fun v1 => κ ⟨[.int .i64 v1], []⟩) := by kernel_rfl
theorem spec_l01Length_ev {α : Type} (n : Nat) (a : Int) (a1 : Int) (b_ : Int) (b_1 : Int) (κ : Res → Option α) : evFn Try.prog (spec_l01Length_X n) Try.f120 (((buildDs spec_l01Length_sh [.int a, .int a1, .int b_, .int b_1]).map Prod.fst).getD []) κ = spec_l01Length_run n [.int a, .int a1, .int b_, .int b_1] κ := (spec_l01Length_gen spec_l01Gcd n a a1 b_ b_1 κ).trans (by kernel_rfl)
theorem spec_l01Length_en (a : Int) (a1 : Int) (b_ : Int) (b_1 : Int) : (entry 0 (((buildDs spec_l01Length_sh [.int a, .int a1, .int b_, .int b_1]).map Prod.fst).getD [])).map (fun x => (x.1.length, x.2.lent)) = some (2, []) := by kernel_rfl
theorem spec_l01Length_good {α : Type} : ∀ n, GoodFn (α := α) Try.prog 120 (byShape spec_l01Length_sh (spec_l01Length_run n)) := by
  refine fn_good' Try.func120 (c := (Try.f120.body.getD .skip)) (by kernel_rfl) (by kernel_rfl) (by kernel_rfl) spec_l01Length_C spec_l01Length_M eqs spec_l01Length_lps (fun n => tabC_good (List.forall_mem_cons.2 ⟨(spec_l01Gcd_good n), (fun _ h => absurd h List.not_mem_nil)⟩)) eqs_ok spec_l01Length_Lt ?_ ?_ spec_l01Length_sh spec_l01Length_run ?_
  · exact (fun _ h => absurd h List.not_mem_nil)
  · exact (fun _ h => absurd h List.not_mem_nil)
  · intro n p κ r ds hd hr
    have hr0 := hr
    unfold spec_l01Length_run spec_l01Length_runG at hr
    split at hr
    · rw [← ds_of hd]
      exact ⟨en_of (spec_l01Length_en _ _ _ _) ⟨rfl, rfl⟩, (spec_l01Length_ev n _ _ _ _ κ).trans hr0⟩
    · cases hr

/-! loop.example/g01297/spec.l04Area -/
def spec_l04Area_sh : List SkD := [.agg [.int .i64, .int .i64, .int .i64, .int .i64, .int .i64, .int .i64]]
def spec_l04Area_runG {α : Type} (F : Nat → Int → Int → Int → Int → Int → Int → (Int → Option α) → Option α) (n : Nat) (p : List P1) (κ : Res → Option α) : Option α := match p with
  | [.int t, .int t1, .int t2, .int t3, .int t4, .int t5] => F n t t1 t2 t3 t4 t5 (fun v1 => κ ⟨[.int .i64 v1], []⟩)
  | _ => none
def spec_l04Area_run {α : Type} (n : Nat) (p : List P1) (κ : Res → Option α) : Option α := spec_l04Area_runG spec_l04Area n p κ
def spec_l04Area_CG {α : Type} (F0 : Nat → Int → Int → Int → Int → Int → Int → (Int → Option α) → Option α) (n : Nat) : FuncId → List D → (Res → Option α) → Option α := tabC [(118, (byShape spec_l01Area_sh (spec_l01Area_runG F0 n)))]
def spec_l04Area_C {α : Type} (n : Nat) : FuncId → List D → (Res → Option α) → Option α := spec_l04Area_CG spec_l01Area n
def spec_l04Area_M : FuncId → List Nat := tabM []
def spec_l04Area_lpsG {α : Type}  : List (LoopT α) := []
def spec_l04Area_lps {α : Type} : List (LoopT α) := spec_l04Area_lpsG
def spec_l04Area_XG {α : Type} (F0 : Nat → Int → Int → Int → Int → Int → Int → (Int → Option α) → Option α)  (n : Nat) : Ctx α := ⟨spec_l04Area_CG F0 n, spec_l04Area_M, eqs, lpOf (spec_l04Area_lpsG) n⟩
def spec_l04Area_X {α : Type} (n : Nat) : Ctx α := spec_l04Area_XG spec_l01Area n
def spec_l04Area_Lt (np : Nat) (lent : List (Bool × Nat × Blk)) : Prop := np = 1 ∧ lent = []
def spec_l04Area_body {α : Type} (F0 : Nat → Int → Int → Int → Int → Int → Int → (Int → Option α) → Option α)  (k : Nat) (t : Int) (t1 : Int) (t2 : Int) (t3 : Int) (t4 : Int) (t5 : Int) (r0 : Int → Option α) : Option α :=
  F0 k t t1 t2 t3 t4 t5 fun v =>
  r0 v
theorem spec_l04Area_gen {α : Type} (F0 : Nat → Int → Int → Int → Int → Int → Int → (Int → Option α) → Option α)  (n : Nat) (t : Int) (t1 : Int) (t2 : Int) (t3 : Int) (t4 : Int) (t5 : Int) (κ : Res → Option α) : evFn Try.prog (spec_l04Area_XG F0 n) Try.f121 (((buildDs spec_l04Area_sh [.int t, .int t1, .int t2, .int t3, .int t4, .int t5]).map Prod.fst).getD []) κ = spec_l04Area_body F0 n t t1 t2 t3 t4 t5 (fun v1 => κ ⟨[.int .i64 v1], []⟩) := by kernel_rfl
theorem spec_l04Area_ev {α : Type} (n : Nat) (t : Int) (t1 : Int) (t2 : Int) (t3 : Int) (t4 : Int) (t5 : Int) (κ : Res → Option α) : evFn Try.prog (spec_l04Area_X n) Try.f121 (((buildDs spec_l04Area_sh [.int t, .int t1, .int t2, .int t3, .int t4, .int t5]).map Prod.fst).getD []) κ = spec_l04Area_run n [.int t, .int t1, .int t2, .int t3, .int t4, .int t5] κ := (spec_l04Area_gen spec_l01Area n t t1 t2 t3 t4 t5 κ).trans (by kernel_rfl)
theorem spec_l04Area_en (t : Int) (t1 : Int) (t2 : Int) (t3 : Int) (t4 : Int) (t5 : Int) : (entry 0 (((buildDs spec_l04Area_sh [.int t, .int t1, .int t2, .int t3, .int t4, .int t5]).map Prod.fst).getD [])).map (fun x => (x.1.length, x.2.lent)) = some (1, []) := by kernel_rfl
theorem spec_l04Area_good {α : Type} : ∀ n, GoodFn (α := α) Try.prog 121 (byShape spec_l04Area_sh (spec_l04Area_run n)) := by
  refine fn_good' Try.func121 (c := (Try.f121.body.getD .skip)) (by kernel_rfl) (by kernel_rfl) (by kernel_rfl) spec_l04Area_C spec_l04Area_M eqs spec_l04Area_lps (fun n => tabC_good (List.forall_mem_cons.2 ⟨(spec_l01Area_good n), (fun _ h => absurd h List.not_mem_nil)⟩)) eqs_ok spec_l04Area_Lt ?_ ?_ spec_l04Area_sh spec_l04Area_run ?_
  · exact (fun _ h => absurd h List.not_mem_nil)
  · exact (fun _ h => absurd h List.not_mem_nil)
  · intro n p κ r ds hd hr
    have hr0 := hr
    unfold spec_l04Area_run spec_l04Area_runG at hr
    split at hr
    · rw [← ds_of hd]
      exact ⟨en_of (spec_l04Area_en _ _ _ _ _ _) ⟨rfl, rfl⟩, (spec_l04Area_ev n _ _ _ _ _ _ κ).trans hr0⟩
    · cases hr

/-! loop.example/g01297/spec.l01Rest -/
def spec_l01Rest_sh : List SkD := [.int .i64, .int .i64]
def spec_l01Rest_runG {α : Type} (F : Nat → Int → Int → (Int → Option α) → Option α) (n : Nat) (p : List P1) (κ : Res → Option α) : Option α := match p with
  | [.int n_, .int x] => F n n_ x (fun v1 => κ ⟨[.int .i64 v1], []⟩)
  | _ => none
def spec_l01Rest_run {α : Type} (n : Nat) (p : List P1) (κ : Res → Option α) : Option α := spec_l01Rest_runG spec_l01Rest n p κ
def spec_l01Rest_CG {α : Type}  (n : Nat) : FuncId → List D → (Res → Option α) → Option α := tabC []
def spec_l01Rest_C {α : Type} (n : Nat) : FuncId → List D → (Res → Option α) → Option α := spec_l01Rest_CG n
def spec_l01Rest_M : FuncId → List Nat := tabM []
def spec_l01Rest_lpsG {α : Type}  : List (LoopT α) := []
def spec_l01Rest_lps {α : Type} : List (LoopT α) := spec_l01Rest_lpsG
def spec_l01Rest_XG {α : Type}   (n : Nat) : Ctx α := ⟨spec_l01Rest_CG n, spec_l01Rest_M, eqs, lpOf (spec_l01Rest_lpsG) n⟩
def spec_l01Rest_X {α : Type} (n : Nat) : Ctx α := spec_l01Rest_XG n
def spec_l01Rest_Lt (np : Nat) (lent : List (Bool × Nat × Blk)) : Prop := np = 2 ∧ lent = []
def spec_l01Rest_body {α : Type}   (k : Nat) (n_ : Int) (x : Int) (r0 : Int → Option α) : Option α :=
  bif decide (n_ = 0) then
    none
  else
  bif decide (n_ = 0) then
    none
  else
    r0 (Int.tmod (w64 ((Int.tmod x n_) + n_)) n_)
theorem spec_l01Rest_gen {α : Type}   (n : Nat) (n_ : Int) (x : Int) (κ : Res → Option α) : evFn Try.prog (spec_l01Rest_XG n) Try.f122 (((buildDs spec_l01Rest_sh [.int n_, .int x]).map Prod.fst).getD []) κ = spec_l01Rest_body n n_ x (fun v1 => κ ⟨[.int .i64 v1], []⟩) := by kernel_rfl
theorem spec_l01Rest_ev {α : Type} (n : Nat) (n_ : Int) (x : Int) (κ : Res → Option α) : evFn Try.prog (spec_l01Rest_X n) Try.f122 (((buildDs spec_l01Rest_sh [.int n_, .int x]).map Prod.fst).getD []) κ = spec_l01Rest_run n [.int n_, .int x] κ := (spec_l01Rest_gen n n_ x κ).trans (by kernel_rfl)
theorem spec_l01Rest_en (n_ : Int) (x : Int) : (entry 0 (((buildDs spec_l01Rest_sh [.int n_, .int x]).map Prod.fst).getD [])).map (fun x => (x.1.length, x.2.lent)) = some (2, []) := by kernel_rfl
theorem spec_l01Rest_good {α : Type} : ∀ n, GoodFn (α := α) Try.prog 122 (byShape spec_l01Rest_sh (spec_l01Rest_run n)) := by
  refine fn_good' Try.func122 (c := (Try.f122.body.getD .skip)) (by kernel_rfl) (by kernel_rfl) (by kernel_rfl) spec_l01Rest_C spec_l01Rest_M eqs spec_l01Rest_lps (fun n => tabC_good (fun _ h => absurd h List.not_mem_nil)) eqs_ok spec_l01Rest_Lt ?_ ?_ spec_l01Rest_sh spec_l01Rest_run ?_
  · exact (fun _ h => absurd h List.not_mem_nil)
  · exact (fun _ h => absurd h List.not_mem_nil)
  · intro n p κ r ds hd hr
    have hr0 := hr
    unfold spec_l01Rest_run spec_l01Rest_runG at hr
    split at hr
    · rw [← ds_of hd]
      exact ⟨en_of (spec_l01Rest_en _ _) ⟨rfl, rfl⟩, (spec_l01Rest_ev n _ _ κ).trans hr0⟩
    · cases hr

/-! loop.example/g01297/spec.l01Base -/
def spec_l01Base_sh : List SkD := [.agg [.int .i64, .int .i64]]
def spec_l01Base_runG {α : Type} (F : Nat → Int → Int → (Int → Int → Option α) → Option α) (n : Nat) (p : List P1) (κ : Res → Option α) : Option α := match p with
  | [.int a, .int a1] => F n a a1 (fun v1 v2 => κ ⟨[.agg [.int .i64 v1, .int .i64 v2]], []⟩)
  | _ => none
def spec_l01Base_run {α : Type} (n : Nat) (p : List P1) (κ : Res → Option α) : Option α := spec_l01Base_runG spec_l01Base n p κ
def spec_l01Base_CG {α : Type} (F0 : Nat → Int → Int → (Int → Option α) → Option α) (n : Nat) : FuncId → List D → (Res → Option α) → Option α := tabC [(122, (byShape spec_l01Rest_sh (spec_l01Rest_runG F0 n)))]
def spec_l01Base_C {α : Type} (n : Nat) : FuncId → List D → (Res → Option α) → Option α := spec_l01Base_CG spec_l01Rest n
def spec_l01Base_M : FuncId → List Nat := tabM []
def spec_l01Base_t5 : Tpl := ⟨[.any, .ptr 64 0 0, .ptr 128 0 0, .int .i64, .int .i64, .int .i64, .int .i64, .int .i64, .any, .any, .any, .any, .any, .any, .any, .any, .any, .any, .any, .any, .any, .any, .any, .any, .any, .any, .any, .any, .any, .any, .any, .any, .any, .any, .any, .any, .any, .any, .any, .any, .any, .any, .any, .any, .any, .any, .any, .any, .any, .any, .any, .any, .any, .any, .any, .any, .any, .any], [(64, .ints 2 33 .i64 2), (128, .ints 2 33 .i64 2)], []⟩
def spec_l01Base_uG5 {α : Type} (G : Nat → Int → Int → Int → Int → Int → Int → Int → Int → Int → (Int → Int → Int → Int → Int → Int → Int → Int → Int → Option α) → (Int → Int → Option α) → Option α) (n : Nat) (p : List P1) (brk : Nat → List P1 → Option α) (ret : Res → Option α) : Option α := match p with
  | [.int n_, .int x, .int before, .int rest, .int next, .int a2, .int a3, .int x1, .int x2] => G n n_ x before rest next a2 a3 x1 x2 (fun n_ x before rest next a2 a3 x1 x2 => brk 0 [.int n_, .int x, .int before, .int rest, .int next, .int a2, .int a3, .int x1, .int x2]) (fun v1 v2 => ret ⟨[.agg [.int .i64 v1, .int .i64 v2]], []⟩)
  | _ => none
def spec_l01Base_u5 {α : Type} (n : Nat) (p : List P1) (brk : Nat → List P1 → Option α) (ret : Res → Option α) : Option α := spec_l01Base_uG5 spec_l01Base_l5 n p brk ret
def spec_l01Base_lpsG {α : Type} (G5 : Nat → Int → Int → Int → Int → Int → Int → Int → Int → Int → (Int → Int → Int → Int → Int → Int → Int → Int → Int → Option α) → (Int → Int → Option α) → Option α) : List (LoopT α) := [⟨5, spec_l01Base_t5, spec_l01Base_uG5 G5⟩]
def spec_l01Base_lps {α : Type} : List (LoopT α) := spec_l01Base_lpsG spec_l01Base_l5
def spec_l01Base_XG {α : Type} (F0 : Nat → Int → Int → (Int → Option α) → Option α) (G5 : Nat → Int → Int → Int → Int → Int → Int → Int → Int → Int → (Int → Int → Int → Int → Int → Int → Int → Int → Int → Option α) → (Int → Int → Option α) → Option α) (n : Nat) : Ctx α := ⟨spec_l01Base_CG F0 n, spec_l01Base_M, eqs, lpOf (spec_l01Base_lpsG G5) n⟩
def spec_l01Base_X {α : Type} (n : Nat) : Ctx α := spec_l01Base_XG spec_l01Rest spec_l01Base_l5 n
def spec_l01Base_Lt (np : Nat) (lent : List (Bool × Nat × Blk)) : Prop := np = 1 ∧ lent = []
def spec_l01Base_lb5 {α : Type} (F0 : Nat → Int → Int → (Int → Option α) → Option α) (G5 : Nat → Int → Int → Int → Int → Int → Int → Int → Int → Int → (Int → Int → Int → Int → Int → Int → Int → Int → Int → Option α) → (Int → Int → Option α) → Option α) (k : Nat) (n_ : Int) (x : Int) (before : Int) (rest : Int) (next : Int) (a2 : Int) (a3 : Int) (x1 : Int) (x2 : Int) (b0 : Int → Int → Int → Int → Int → Int → Int → Int → Int → Option α) (r0 : Int → Int → Option α) : Option α :=
  bif (!decide (next = 0)) then
    bif decide (next = 0) then
      none
    else
      G5 k n_ before (w64 (x - (w64 ((w64 (Int.tdiv rest next)) * before)))) next (w64 (rest - (w64 ((w64 (Int.tdiv rest next)) * next)))) a2 a3 x1 x2 b0 r0
  else
    b0 n_ x before rest next a2 a3 x1 x2
theorem spec_l01Base_l5_gen {α : Type} (F0 : Nat → Int → Int → (Int → Option α) → Option α) (G5 : Nat → Int → Int → Int → Int → Int → Int → Int → Int → Int → (Int → Int → Int → Int → Int → Int → Int → Int → Int → Option α) → (Int → Int → Option α) → Option α) (n : Nat) (n_ : Int) (x : Int) (before : Int) (rest : Int) (next : Int) (a2 : Int) (a3 : Int) (x1 : Int) (x2 : Int) (brk : Nat → List P1 → Option α) (ret : Res → Option α) : ev ((spec_l01Base_XG F0 G5 n).env Try.prog Try.f123 1 []) (findLoop (loopsIn (Try.f123.body.getD .skip)) 5) ((spec_l01Base_t5.build [.int n_, .int x, .int before, .int rest, .int next, .int a2, .int a3, .int x1, .int x2]).getD ⟨[], []⟩) (roundK (1 * 64) spec_l01Base_t5 (fun q => spec_l01Base_uG5 G5 n q brk ret) brk ret) = spec_l01Base_lb5 F0 G5 n n_ x before rest next a2 a3 x1 x2 (fun n_ x before rest next a2 a3 x1 x2 => brk 0 [.int n_, .int x, .int before, .int rest, .int next, .int a2, .int a3, .int x1, .int x2]) (fun v1 v2 => ret ⟨[.agg [.int .i64 v1, .int .i64 v2]], []⟩) := by kernel_rfl
theorem spec_l01Base_l5_ev {α : Type} (n : Nat) (n_ : Int) (x : Int) (before : Int) (rest : Int) (next : Int) (a2 : Int) (a3 : Int) (x1 : Int) (x2 : Int) (brk : Nat → List P1 → Option α) (ret : Res → Option α) : ev ((spec_l01Base_X n).env Try.prog Try.f123 1 []) (findLoop (loopsIn (Try.f123.body.getD .skip)) 5) ((spec_l01Base_t5.build [.int n_, .int x, .int before, .int rest, .int next, .int a2, .int a3, .int x1, .int x2]).getD ⟨[], []⟩) (roundK (1 * 64) spec_l01Base_t5 (fun q => spec_l01Base_u5 n q brk ret) brk ret) = spec_l01Base_u5 (n + 1) [.int n_, .int x, .int before, .int rest, .int next, .int a2, .int a3, .int x1, .int x2] brk ret := (spec_l01Base_l5_gen spec_l01Rest spec_l01Base_l5 n n_ x before rest next a2 a3 x1 x2 brk ret).trans (by kernel_rfl)
def spec_l01Base_body {α : Type} (F0 : Nat → Int → Int → (Int → Option α) → Option α) (G5 : Nat → Int → Int → Int → Int → Int → Int → Int → Int → Int → (Int → Int → Int → Int → Int → Int → Int → Int → Int → Option α) → (Int → Int → Option α) → Option α) (k : Nat) (a : Int) (a1 : Int) (r0 : Int → Int → Option α) : Option α :=
  bif decide (a = 0) then
    r0 (w64 (0 - a1)) 0
  else
    F0 k (max a (w64 (0 - a))) a1 fun v =>
    G5 k (max a (w64 (0 - a))) 1 0 v (max a (w64 (0 - a))) a a1 0 0
      (fun n_1 x3 before1 rest1 next1 a4 a5 x4 x5 =>
        F0 k n_1 (w64 (0 - x3)) fun v1 =>
        bif decide (a4 = 0) then
          none
        else
          r0 v1 (w64 (Int.tdiv (w64 (1 + (w64 (a5 * v1)))) a4)))
      r0
theorem spec_l01Base_gen {α : Type} (F0 : Nat → Int → Int → (Int → Option α) → Option α) (G5 : Nat → Int → Int → Int → Int → Int → Int → Int → Int → Int → (Int → Int → Int → Int → Int → Int → Int → Int → Int → Option α) → (Int → Int → Option α) → Option α) (n : Nat) (a : Int) (a1 : Int) (κ : Res → Option α) : evFn Try.prog (spec_l01Base_XG F0 G5 n) Try.f123 (((buildDs spec_l01Base_sh [.int a, .int a1]).map Prod.fst).getD []) κ = spec_l01Base_body F0 G5 n a a1 (fun v1 v2 => κ ⟨[.agg [.int .i64 v1, .int .i64 v2]], []⟩) := by kernel_rfl
theorem spec_l01Base_ev {α : Type} (n : Nat) (a : Int) (a1 : Int) (κ : Res → Option α) : evFn Try.prog (spec_l01Base_X n) Try.f123 (((buildDs spec_l01Base_sh [.int a, .int a1]).map Prod.fst).getD []) κ = spec_l01Base_run n [.int a, .int a1] κ := (spec_l01Base_gen spec_l01Rest spec_l01Base_l5 n a a1 κ).trans (by kernel_rfl)
theorem spec_l01Base_en (a : Int) (a1 : Int) : (entry 0 (((buildDs spec_l01Base_sh [.int a, .int a1]).map Prod.fst).getD [])).map (fun x => (x.1.length, x.2.lent)) = some (1, []) := by kernel_rfl
theorem spec_l01Base_good {α : Type} : ∀ n, GoodFn (α := α) Try.prog 123 (byShape spec_l01Base_sh (spec_l01Base_run n)) := by
  refine fn_good' Try.func123 (c := (Try.f123.body.getD .skip)) (by kernel_rfl) (by kernel_rfl) (by kernel_rfl) spec_l01Base_C spec_l01Base_M eqs spec_l01Base_lps (fun n => tabC_good (List.forall_mem_cons.2 ⟨(spec_l01Rest_good n), (fun _ h => absurd h List.not_mem_nil)⟩)) eqs_ok spec_l01Base_Lt ?_ ?_ spec_l01Base_sh spec_l01Base_run ?_
  · refine List.forall_mem_cons.2 ⟨?_, (fun _ h => absurd h List.not_mem_nil)⟩
    · intro p brk ret; show spec_l01Base_u5 0 p brk ret = none; unfold spec_l01Base_u5 spec_l01Base_uG5; split <;> rfl
  · refine List.forall_mem_cons.2 ⟨?_, (fun _ h => absurd h List.not_mem_nil)⟩
    · intro np lent hL n p brk ret st r hb hr
      obtain ⟨rfl, rfl⟩ := hL
      rw [← tpl_of hb]
      change spec_l01Base_u5 (n + 1) p brk ret = some r at hr
      have hr0 := hr
      unfold spec_l01Base_u5 spec_l01Base_uG5 at hr
      split at hr
      · exact (spec_l01Base_l5_ev n _ _ _ _ _ _ _ _ _ brk ret).trans hr0
      · cases hr
  · intro n p κ r ds hd hr
    have hr0 := hr
    unfold spec_l01Base_run spec_l01Base_runG at hr
    split at hr
    · rw [← ds_of hd]
      exact ⟨en_of (spec_l01Base_en _ _) ⟨rfl, rfl⟩, (spec_l01Base_ev n _ _ κ).trans hr0⟩
    · cases hr

/-! loop.example/g01297/spec.l04Shape -/
def spec_l04Shape_sh : List SkD := [.agg [.int .i64, .int .i64, .int .i64, .int .i64, .int .i64, .int .i64], .int .i64, .int .i64]
def spec_l04Shape_runG {α : Type} (F : Nat → Int → Int → Int → Int → Int → Int → Int → Int → (Int → Int → Int → Option α) → Option α) (n : Nat) (p : List P1) (κ : Res → Option α) : Option α := match p with
  | [.int t, .int t1, .int t2, .int t3, .int t4, .int t5, .int i, .int j] => F n t t1 t2 t3 t4 t5 i j (fun v1 v2 v3 => κ ⟨[.agg [.int .i64 v1, .int .i64 v2, .int .i64 v3]], []⟩)
  | _ => none
def spec_l04Shape_run {α : Type} (n : Nat) (p : List P1) (κ : Res → Option α) : Option α := spec_l04Shape_runG spec_l04Shape n p κ
def spec_l04Shape_CG {α : Type} (F0 : Nat → Int → Int → Int → Int → Int → (Int → Int → Option α) → Option α) (F1 : Nat → Int → Int → (Int → Int → Option α) → Option α) (F2 : Nat → Int → Int → Int → Int → (Int → Option α) → Option α) (F3 : Nat → Int → Int → Int → Int → Int → Int → (Int → Option α) → Option α) (F4 : Nat → Int → Int → (Int → Int → Option α) → Option α) (F5 : Nat → Int → Int → Int → Int → (Int → Option α) → Option α) (F6 : Nat → Int → Int → (Int → Option α) → Option α) (n : Nat) : FuncId → List D → (Res → Option α) → Option α := tabC [(112, (byShape spec_l01Plus_sh (spec_l01Plus_runG F0 n))), (119, (byShape spec_l01Part_sh (spec_l01Part_runG F1 n))), (120, (byShape spec_l01Length_sh (spec_l01Length_runG F2 n))), (121, (byShape spec_l04Area_sh (spec_l04Area_runG F3 n))), (123, (byShape spec_l01Base_sh (spec_l01Base_runG F4 n))), (109, (byShape spec_l01Det_sh (spec_l01Det_runG F5 n))), (122, (byShape spec_l01Rest_sh (spec_l01Rest_runG F6 n)))]
def spec_l04Shape_C {α : Type} (n : Nat) : FuncId → List D → (Res → Option α) → Option α := spec_l04Shape_CG spec_l01Plus spec_l01Part spec_l01Length spec_l04Area spec_l01Base spec_l01Det spec_l01Rest n
def spec_l04Shape_M : FuncId → List Nat := tabM []
def spec_l04Shape_lpsG {α : Type}  : List (LoopT α) := []
def spec_l04Shape_lps {α : Type} : List (LoopT α) := spec_l04Shape_lpsG
def spec_l04Shape_XG {α : Type} (F0 : Nat → Int → Int → Int → Int → Int → (Int → Int → Option α) → Option α) (F1 : Nat → Int → Int → (Int → Int → Option α) → Option α) (F2 : Nat → Int → Int → Int → Int → (Int → Option α) → Option α) (F3 : Nat → Int → Int → Int → Int → Int → Int → (Int → Option α) → Option α) (F4 : Nat → Int → Int → (Int → Int → Option α) → Option α) (F5 : Nat → Int → Int → Int → Int → (Int → Option α) → Option α) (F6 : Nat → Int → Int → (Int → Option α) → Option α)  (n : Nat) : Ctx α := ⟨spec_l04Shape_CG F0 F1 F2 F3 F4 F5 F6 n, spec_l04Shape_M, eqs, lpOf (spec_l04Shape_lpsG) n⟩
def spec_l04Shape_X {α : Type} (n : Nat) : Ctx α := spec_l04Shape_XG spec_l01Plus spec_l01Part spec_l01Length spec_l04Area spec_l01Base spec_l01Det spec_l01Rest n
def spec_l04Shape_Lt (np : Nat) (lent : List (Bool × Nat × Blk)) : Prop := np = 3 ∧ lent = []
def spec_l04Shape_body {α : Type} (F0 : Nat → Int → Int → Int → Int → Int → (Int → Int → Option α) → Option α) (F1 : Nat → Int → Int → (Int → Int → Option α) → Option α) (F2 : Nat → Int → Int → Int → Int → (Int → Option α) → Option α) (F3 : Nat → Int → Int → Int → Int → Int → Int → (Int → Option α) → Option α) (F4 : Nat → Int → Int → (Int → Int → Option α) → Option α) (F5 : Nat → Int → Int → Int → Int → (Int → Option α) → Option α) (F6 : Nat → Int → Int → (Int → Option α) → Option α)  (k : Nat) (t : Int) (t1 : Int) (t2 : Int) (t3 : Int) (t4 : Int) (t5 : Int) (i : Int) (j : Int) (r0 : Int → Int → Int → Option α) : Option α :=
  bif (decide (0 ≤ j) && decide (j < 3)) then
    ([t, t1, t2, t3, t4, t5][(j.toNat * 2)]?).bind fun e_ =>
    ([t, t1, t2, t3, t4, t5][((j.toNat * 2) + 1)]?).bind fun e_1 =>
    bif (decide (0 ≤ i) && decide (i < 3)) then
      ([t, t1, t2, t3, t4, t5][(i.toNat * 2)]?).bind fun e_2 =>
      ([t, t1, t2, t3, t4, t5][((i.toNat * 2) + 1)]?).bind fun e_3 =>
      bif (decide (0 ≤ (w64 ((w64 (3 - i)) - j))) && decide ((w64 ((w64 (3 - i)) - j)) < 3)) then
        ([t, t1, t2, t3, t4, t5][((w64 ((w64 (3 - i)) - j)).toNat * 2)]?).bind fun e_4 =>
        ([t, t1, t2, t3, t4, t5][(((w64 ((w64 (3 - i)) - j)).toNat * 2) + 1)]?).bind fun e_5 =>
        bif (decide (0 ≤ i) && decide (i < 3)) then
          ([t, t1, t2, t3, t4, t5][(i.toNat * 2)]?).bind fun e_6 =>
          ([t, t1, t2, t3, t4, t5][((i.toNat * 2) + 1)]?).bind fun e_7 =>
          F0 k e_ e_1 e_2 e_3 (-1) fun v v1 =>
          F0 k e_4 e_5 e_6 e_7 (-1) fun v2 v3 =>
          F1 k v v1 fun v4 v5 =>
          bif (decide (0 ≤ i) && decide (i < 3)) then
            ([t, t1, t2, t3, t4, t5][(i.toNat * 2)]?).bind fun e_8 =>
            ([t, t1, t2, t3, t4, t5][((i.toNat * 2) + 1)]?).bind fun e_9 =>
            bif (decide (0 ≤ j) && decide (j < 3)) then
              ([t, t1, t2, t3, t4, t5][(j.toNat * 2)]?).bind fun e_10 =>
              ([t, t1, t2, t3, t4, t5][((j.toNat * 2) + 1)]?).bind fun e_11 =>
              F2 k e_8 e_9 e_10 e_11 fun v6 =>
              F3 k t t1 t2 t3 t4 t5 fun v7 =>
              bif decide (v6 = 0) then
                none
              else
                F4 k v4 v5 fun v8 v9 =>
                F5 k v2 v3 v8 v9 fun v10 =>
                F6 k (w64 (Int.tdiv v7 v6)) v10 fun v11 =>
                r0 v6 v11 (w64 (Int.tdiv v7 v6))
            else
              none
          else
            none
        else
          none
      else
        none
    else
      none
  else
    none
theorem spec_l04Shape_gen {α : Type} (F0 : Nat → Int → Int → Int → Int → Int → (Int → Int → Option α) → Option α) (F1 : Nat → Int → Int → (Int → Int → Option α) → Option α) (F2 : Nat → Int → Int → Int → Int → (Int → Option α) → Option α) (F3 : Nat → Int → Int → Int → Int → Int → Int → (Int → Option α) → Option α) (F4 : Nat → Int → Int → (Int → Int → Option α) → Option α) (F5 : Nat → Int → Int → Int → Int → (Int → Option α) → Option α) (F6 : Nat → Int → Int → (Int → Option α) → Option α)  (n : Nat) (t : Int) (t1 : Int) (t2 : Int) (t3 : Int) (t4 : Int) (t5 : Int) (i : Int) (j : Int) (κ : Res → Option α) : evFn Try.prog (spec_l04Shape_XG F0 F1 F2 F3 F4 F5 F6 n) Try.f74 (((buildDs spec_l04Shape_sh [.int t, .int t1, .int t2, .int t3, .int t4, .int t5, .int i, .int j]).map Prod.fst).getD []) κ = spec_l04Shape_body F0 F1 F2 F3 F4 F5 F6 n t t1 t2 t3 t4 t5 i j (fun v1 v2 v3 => κ ⟨[.agg [.int .i64 v1, .int .i64 v2, .int .i64 v3]], []⟩) := by kernel_rfl
theorem spec_l04Shape_ev {α : Type} (n : Nat) (t : Int) (t1 : Int) (t2 : Int) (t3 : Int) (t4 : Int) (t5 : Int) (i : Int) (j : Int) (κ : Res → Option α) : evFn Try.prog (spec_l04Shape_X n) Try.f74 (((buildDs spec_l04Shape_sh [.int t, .int t1, .int t2, .int t3, .int t4, .int t5, .int i, .int j]).map Prod.fst).getD []) κ = spec_l04Shape_run n [.int t, .int t1, .int t2, .int t3, .int t4, .int t5, .int i, .int j] κ := (spec_l04Shape_gen spec_l01Plus spec_l01Part spec_l01Length spec_l04Area spec_l01Base spec_l01Det spec_l01Rest n t t1 t2 t3 t4 t5 i j κ).trans (by kernel_rfl)
theorem spec_l04Shape_en (t : Int) (t1 : Int) (t2 : Int) (t3 : Int) (t4 : Int) (t5 : Int) (i : Int) (j : Int) : (entry 0 (((buildDs spec_l04Shape_sh [.int t, .int t1, .int t2, .int t3, .int t4, .int t5, .int i, .int j]).map Prod.fst).getD [])).map (fun x => (x.1.length, x.2.lent)) = some (3, []) := by kernel_rfl
theorem spec_l04Shape_good {α : Type} : ∀ n, GoodFn (α := α) Try.prog 74 (byShape spec_l04Shape_sh (spec_l04Shape_run n)) := by
  refine fn_good' Try.func74 (c := (Try.f74.body.getD .skip)) (by kernel_rfl) (by kernel_rfl) (by kernel_rfl) spec_l04Shape_C spec_l04Shape_M eqs spec_l04Shape_lps (fun n => tabC_good (List.forall_mem_cons.2 ⟨(spec_l01Plus_good n), (List.forall_mem_cons.2 ⟨(spec_l01Part_good n), (List.forall_mem_cons.2 ⟨(spec_l01Length_good n), (List.forall_mem_cons.2 ⟨(spec_l04Area_good n), (List.forall_mem_cons.2 ⟨(spec_l01Base_good n), (List.forall_mem_cons.2 ⟨(spec_l01Det_good n), (List.forall_mem_cons.2 ⟨(spec_l01Rest_good n), (fun _ h => absurd h List.not_mem_nil)⟩)⟩)⟩)⟩)⟩)⟩)⟩)) eqs_ok spec_l04Shape_Lt ?_ ?_ spec_l04Shape_sh spec_l04Shape_run ?_
  · exact (fun _ h => absurd h List.not_mem_nil)
  · exact (fun _ h => absurd h List.not_mem_nil)
  · intro n p κ r ds hd hr
    have hr0 := hr
    unfold spec_l04Shape_run spec_l04Shape_runG at hr
    split at hr
    · rw [← ds_of hd]
      exact ⟨en_of (spec_l04Shape_en _ _ _ _ _ _ _ _) ⟨rfl, rfl⟩, (spec_l04Shape_ev n _ _ _ _ _ _ _ _ κ).trans hr0⟩
    · cases hr

/-! loop.example/g01297/spec.ShapeOf -/
def spec_ShapeOf_sh : List SkD := [.agg [.int .i64, .int .i64, .int .i64, .int .i64, .int .i64, .int .i64], .int .i64, .int .i64]
def spec_ShapeOf_runG {α : Type} (F : Nat → Int → Int → Int → Int → Int → Int → Int → Int → (Int → Int → Int → Int → Option α) → Option α) (n : Nat) (p : List P1) (κ : Res → Option α) : Option α := match p with
  | [.int t, .int t1, .int t2, .int t3, .int t4, .int t5, .int i, .int j] => F n t t1 t2 t3 t4 t5 i j (fun v1 v2 v3 v4 => κ ⟨[.agg [.int .i64 v1, .int .i64 v2, .int .i64 v3], .int .i64 v4], []⟩)
  | _ => none
def spec_ShapeOf_run {α : Type} (n : Nat) (p : List P1) (κ : Res → Option α) : Option α := spec_ShapeOf_runG spec_ShapeOf n p κ
def spec_ShapeOf_CG {α : Type} (F0 : Nat → Int → Int → Int → Int → Int → Int → (Bool → Option α) → Option α) (F1 : Nat → Int → Int → Int → (Bool → Option α) → Option α) (F2 : Nat → Int → Int → Int → Int → Int → Int → Int → Int → (Int → Int → Int → Option α) → Option α) (n : Nat) : FuncId → List D → (Res → Option α) → Option α := tabC [(72, (byShape spec_l04Is_sh (spec_l04Is_runG F0 n))), (73, (byShape spec_l01In_sh (spec_l01In_runG F1 n))), (74, (byShape spec_l04Shape_sh (spec_l04Shape_runG F2 n)))]
def spec_ShapeOf_C {α : Type} (n : Nat) : FuncId → List D → (Res → Option α) → Option α := spec_ShapeOf_CG spec_l04Is spec_l01In spec_l04Shape n
def spec_ShapeOf_M : FuncId → List Nat := tabM []
def spec_ShapeOf_lpsG {α : Type}  : List (LoopT α) := []
def spec_ShapeOf_lps {α : Type} : List (LoopT α) := spec_ShapeOf_lpsG
def spec_ShapeOf_XG {α : Type} (F0 : Nat → Int → Int → Int → Int → Int → Int → (Bool → Option α) → Option α) (F1 : Nat → Int → Int → Int → (Bool → Option α) → Option α) (F2 : Nat → Int → Int → Int → Int → Int → Int → Int → Int → (Int → Int → Int → Option α) → Option α)  (n : Nat) : Ctx α := ⟨spec_ShapeOf_CG F0 F1 F2 n, spec_ShapeOf_M, eqs, lpOf (spec_ShapeOf_lpsG) n⟩
def spec_ShapeOf_X {α : Type} (n : Nat) : Ctx α := spec_ShapeOf_XG spec_l04Is spec_l01In spec_l04Shape n
def spec_ShapeOf_Lt (np : Nat) (lent : List (Bool × Nat × Blk)) : Prop := np = 3 ∧ lent = []
def spec_ShapeOf_body {α : Type} (F0 : Nat → Int → Int → Int → Int → Int → Int → (Bool → Option α) → Option α) (F1 : Nat → Int → Int → Int → (Bool → Option α) → Option α) (F2 : Nat → Int → Int → Int → Int → Int → Int → Int → Int → (Int → Int → Int → Option α) → Option α)  (k : Nat) (t : Int) (t1 : Int) (t2 : Int) (t3 : Int) (t4 : Int) (t5 : Int) (i : Int) (j : Int) (r0 : Int → Int → Int → Int → Option α) : Option α :=
  F0 k t t1 t2 t3 t4 t5 fun v =>
  bif (!v) then
    r0 0 0 0 1
  else
    F1 k i 0 2 fun v1 =>
    bif (!v1) then
      r0 0 0 0 2
    else
      F1 k j 0 2 fun v2 =>
      bif (!v2) then
        r0 0 0 0 2
      else
      bif decide (i = j) then
        r0 0 0 0 2
      else
        F2 k t t1 t2 t3 t4 t5 i j fun v3 v4 v5 =>
        r0 v3 v4 v5 0
theorem spec_ShapeOf_gen {α : Type} (F0 : Nat → Int → Int → Int → Int → Int → Int → (Bool → Option α) → Option α) (F1 : Nat → Int → Int → Int → (Bool → Option α) → Option α) (F2 : Nat → Int → Int → Int → Int → Int → Int → Int → Int → (Int → Int → Int → Option α) → Option α)  (n : Nat) (t : Int) (t1 : Int) (t2 : Int) (t3 : Int) (t4 : Int) (t5 : Int) (i : Int) (j : Int) (κ : Res → Option α) : evFn Try.prog (spec_ShapeOf_XG F0 F1 F2 n) Try.f28 (((buildDs spec_ShapeOf_sh [.int t, .int t1, .int t2, .int t3, .int t4, .int t5, .int i, .int j]).map Prod.fst).getD []) κ = spec_ShapeOf_body F0 F1 F2 n t t1 t2 t3 t4 t5 i j (fun v1 v2 v3 v4 => κ ⟨[.agg [.int .i64 v1, .int .i64 v2, .int .i64 v3], .int .i64 v4], []⟩) := by kernel_rfl
theorem spec_ShapeOf_ev {α : Type} (n : Nat) (t : Int) (t1 : Int) (t2 : Int) (t3 : Int) (t4 : Int) (t5 : Int) (i : Int) (j : Int) (κ : Res → Option α) : evFn Try.prog (spec_ShapeOf_X n) Try.f28 (((buildDs spec_ShapeOf_sh [.int t, .int t1, .int t2, .int t3, .int t4, .int t5, .int i, .int j]).map Prod.fst).getD []) κ = spec_ShapeOf_run n [.int t, .int t1, .int t2, .int t3, .int t4, .int t5, .int i, .int j] κ := (spec_ShapeOf_gen spec_l04Is spec_l01In spec_l04Shape n t t1 t2 t3 t4 t5 i j κ).trans (by kernel_rfl)
theorem spec_ShapeOf_en (t : Int) (t1 : Int) (t2 : Int) (t3 : Int) (t4 : Int) (t5 : Int) (i : Int) (j : Int) : (entry 0 (((buildDs spec_ShapeOf_sh [.int t, .int t1, .int t2, .int t3, .int t4, .int t5, .int i, .int j]).map Prod.fst).getD [])).map (fun x => (x.1.length, x.2.lent)) = some (3, []) := by kernel_rfl
theorem spec_ShapeOf_good {α : Type} : ∀ n, GoodFn (α := α) Try.prog 28 (byShape spec_ShapeOf_sh (spec_ShapeOf_run n)) := by
  refine fn_good' Try.func28 (c := (Try.f28.body.getD .skip)) (by kernel_rfl) (by kernel_rfl) (by kernel_rfl) spec_ShapeOf_C spec_ShapeOf_M eqs spec_ShapeOf_lps (fun n => tabC_good (List.forall_mem_cons.2 ⟨(spec_l04Is_good n), (List.forall_mem_cons.2 ⟨(spec_l01In_good n), (List.forall_mem_cons.2 ⟨(spec_l04Shape_good n), (fun _ h => absurd h List.not_mem_nil)⟩)⟩)⟩)) eqs_ok spec_ShapeOf_Lt ?_ ?_ spec_ShapeOf_sh spec_ShapeOf_run ?_
  · exact (fun _ h => absurd h List.not_mem_nil)
  · exact (fun _ h => absurd h List.not_mem_nil)
  · intro n p κ r ds hd hr
    have hr0 := hr
    unfold spec_ShapeOf_run spec_ShapeOf_runG at hr
    split at hr
    · rw [← ds_of hd]
      exact ⟨en_of (spec_ShapeOf_en _ _ _ _ _ _ _ _) ⟨rfl, rfl⟩, (spec_ShapeOf_ev n _ _ _ _ _ _ _ _ κ).trans hr0⟩
    · cases hr

/-! loop.example/g01297/impl.in -/
def impl_in_sh : List SkD := [.int .i64, .int .i64, .int .i64]
def impl_in_runG {α : Type} (F : Nat → Int → Int → Int → (Bool → Option α) → Option α) (n : Nat) (p : List P1) (κ : Res → Option α) : Option α := match p with
  | [.int n_, .int low, .int high] => F n n_ low high (fun v1 => κ ⟨[.bool v1], []⟩)
  | _ => none
def impl_in_run {α : Type} (n : Nat) (p : List P1) (κ : Res → Option α) : Option α := impl_in_runG impl_in n p κ
def impl_in_CG {α : Type}  (n : Nat) : FuncId → List D → (Res → Option α) → Option α := tabC []
def impl_in_C {α : Type} (n : Nat) : FuncId → List D → (Res → Option α) → Option α := impl_in_CG n
def impl_in_M : FuncId → List Nat := tabM []
def impl_in_lpsG {α : Type}  : List (LoopT α) := []
def impl_in_lps {α : Type} : List (LoopT α) := impl_in_lpsG
def impl_in_XG {α : Type}   (n : Nat) : Ctx α := ⟨impl_in_CG n, impl_in_M, eqs, lpOf (impl_in_lpsG) n⟩
def impl_in_X {α : Type} (n : Nat) : Ctx α := impl_in_XG n
def impl_in_Lt (np : Nat) (lent : List (Bool × Nat × Blk)) : Prop := np = 3 ∧ lent = []
def impl_in_body {α : Type}   (k : Nat) (n_ : Int) (low : Int) (high : Int) (r0 : Bool → Option α) : Option α :=
  bif decide (low ≤ n_) then
    r0 (decide (n_ ≤ high))
  else
    r0 false
theorem impl_in_gen {α : Type}   (n : Nat) (n_ : Int) (low : Int) (high : Int) (κ : Res → Option α) : evFn Try.prog (impl_in_XG n) Try.f76 (((buildDs impl_in_sh [.int n_, .int low, .int high]).map Prod.fst).getD []) κ = impl_in_body n n_ low high (fun v1 => κ ⟨[.bool v1], []⟩) := by kernel_rfl
theorem impl_in_ev {α : Type} (n : Nat) (n_ : Int) (low : Int) (high : Int) (κ : Res → Option α) : evFn Try.prog (impl_in_X n) Try.f76 (((buildDs impl_in_sh [.int n_, .int low, .int high]).map Prod.fst).getD []) κ = impl_in_run n [.int n_, .int low, .int high] κ := (impl_in_gen n n_ low high κ).trans (by kernel_rfl)
theorem impl_in_en (n_ : Int) (low : Int) (high : Int) : (entry 0 (((buildDs impl_in_sh [.int n_, .int low, .int high]).map Prod.fst).getD [])).map (fun x => (x.1.length, x.2.lent)) = some (3, []) := by kernel_rfl
theorem impl_in_good {α : Type} : ∀ n, GoodFn (α := α) Try.prog 76 (byShape impl_in_sh (impl_in_run n)) := by
  refine fn_good' Try.func76 (c := (Try.f76.body.getD .skip)) (by kernel_rfl) (by kernel_rfl) (by kernel_rfl) impl_in_C impl_in_M eqs impl_in_lps (fun n => tabC_good (fun _ h => absurd h List.not_mem_nil)) eqs_ok impl_in_Lt ?_ ?_ impl_in_sh impl_in_run ?_
  · exact (fun _ h => absurd h List.not_mem_nil)
  · exact (fun _ h => absurd h List.not_mem_nil)
  · intro n p κ r ds hd hr
    have hr0 := hr
    unfold impl_in_run impl_in_runG at hr
    split at hr
    · rw [← ds_of hd]
      exact ⟨en_of (impl_in_en _ _ _) ⟨rfl, rfl⟩, (impl_in_ev n _ _ _ κ).trans hr0⟩
    · cases hr

/-! loop.example/g01297/impl.small -/
def impl_small_sh : List SkD := [.agg [.int .i64, .int .i64]]
def impl_small_runG {α : Type} (F : Nat → Int → Int → (Bool → Option α) → Option α) (n : Nat) (p : List P1) (κ : Res → Option α) : Option α := match p with
  | [.int a, .int a1] => F n a a1 (fun v1 => κ ⟨[.bool v1], []⟩)
  | _ => none
def impl_small_run {α : Type} (n : Nat) (p : List P1) (κ : Res → Option α) : Option α := impl_small_runG impl_small n p κ
def impl_small_CG {α : Type} (F0 : Nat → Int → Int → Int → (Bool → Option α) → Option α) (n : Nat) : FuncId → List D → (Res → Option α) → Option α := tabC [(76, (byShape impl_in_sh (impl_in_runG F0 n)))]
def impl_small_C {α : Type} (n : Nat) : FuncId → List D → (Res → Option α) → Option α := impl_small_CG impl_in n
def impl_small_M : FuncId → List Nat := tabM []
def impl_small_lpsG {α : Type}  : List (LoopT α) := []
def impl_small_lps {α : Type} : List (LoopT α) := impl_small_lpsG
def impl_small_XG {α : Type} (F0 : Nat → Int → Int → Int → (Bool → Option α) → Option α)  (n : Nat) : Ctx α := ⟨impl_small_CG F0 n, impl_small_M, eqs, lpOf (impl_small_lpsG) n⟩
def impl_small_X {α : Type} (n : Nat) : Ctx α := impl_small_XG impl_in n
def impl_small_Lt (np : Nat) (lent : List (Bool × Nat × Blk)) : Prop := np = 1 ∧ lent = []
def impl_small_body {α : Type} (F0 : Nat → Int → Int → Int → (Bool → Option α) → Option α)  (k : Nat) (a : Int) (a1 : Int) (r0 : Bool → Option α) : Option α :=
  F0 k a (-1000) 1000 fun v =>
  bif v then
    F0 k a1 (-1000) 1000 fun v1 =>
    r0 v1
  else
    r0 false
theorem impl_small_gen {α : Type} (F0 : Nat → Int → Int → Int → (Bool → Option α) → Option α)  (n : Nat) (a : Int) (a1 : Int) (κ : Res → Option α) : evFn Try.prog (impl_small_XG F0 n) Try.f124 (((buildDs impl_small_sh [.int a, .int a1]).map Prod.fst).getD []) κ = impl_small_body F0 n a a1 (fun v1 => κ ⟨[.bool v1], []⟩) := by kernel_rfl
theorem impl_small_ev {α : Type} (n : Nat) (a : Int) (a1 : Int) (κ : Res → Option α) : evFn Try.prog (impl_small_X n) Try.f124 (((buildDs impl_small_sh [.int a, .int a1]).map Prod.fst).getD []) κ = impl_small_run n [.int a, .int a1] κ := (impl_small_gen impl_in n a a1 κ).trans (by kernel_rfl)
theorem impl_small_en (a : Int) (a1 : Int) : (entry 0 (((buildDs impl_small_sh [.int a, .int a1]).map Prod.fst).getD [])).map (fun x => (x.1.length, x.2.lent)) = some (1, []) := by kernel_rfl
theorem impl_small_good {α : Type} : ∀ n, GoodFn (α := α) Try.prog 124 (byShape impl_small_sh (impl_small_run n)) := by
  refine fn_good' Try.func124 (c := (Try.f124.body.getD .skip)) (by kernel_rfl) (by kernel_rfl) (by kernel_rfl) impl_small_C impl_small_M eqs impl_small_lps (fun n => tabC_good (List.forall_mem_cons.2 ⟨(impl_in_good n), (fun _ h => absurd h List.not_mem_nil)⟩)) eqs_ok impl_small_Lt ?_ ?_ impl_small_sh impl_small_run ?_
  · exact (fun _ h => absurd h List.not_mem_nil)
  · exact (fun _ h => absurd h List.not_mem_nil)
  · intro n p κ r ds hd hr
    have hr0 := hr
    unfold impl_small_run impl_small_runG at hr
    split at hr
    · rw [← ds_of hd]
      exact ⟨en_of (impl_small_en _ _) ⟨rfl, rfl⟩, (impl_small_ev n _ _ κ).trans hr0⟩
    · cases hr

/-! (loop.example/g01297/impl.Point).plus -/
def impl_Point_plus_sh : List SkD := [.agg [.int .i64, .int .i64], .agg [.int .i64, .int .i64], .int .i64]
def impl_Point_plus_runG {α : Type} (F : Nat → Int → Int → Int → Int → Int → (Int → Int → Option α) → Option α) (n : Nat) (p : List P1) (κ : Res → Option α) : Option α := match p with
  | [.int a, .int a1, .int b_, .int b_1, .int k_] => F n a a1 b_ b_1 k_ (fun v1 v2 => κ ⟨[.agg [.int .i64 v1, .int .i64 v2]], []⟩)
  | _ => none
def impl_Point_plus_run {α : Type} (n : Nat) (p : List P1) (κ : Res → Option α) : Option α := impl_Point_plus_runG impl_Point_plus n p κ
def impl_Point_plus_CG {α : Type}  (n : Nat) : FuncId → List D → (Res → Option α) → Option α := tabC []
def impl_Point_plus_C {α : Type} (n : Nat) : FuncId → List D → (Res → Option α) → Option α := impl_Point_plus_CG n
def impl_Point_plus_M : FuncId → List Nat := tabM []
def impl_Point_plus_lpsG {α : Type}  : List (LoopT α) := []
def impl_Point_plus_lps {α : Type} : List (LoopT α) := impl_Point_plus_lpsG
def impl_Point_plus_XG {α : Type}   (n : Nat) : Ctx α := ⟨impl_Point_plus_CG n, impl_Point_plus_M, eqs, lpOf (impl_Point_plus_lpsG) n⟩
def impl_Point_plus_X {α : Type} (n : Nat) : Ctx α := impl_Point_plus_XG n
def impl_Point_plus_Lt (np : Nat) (lent : List (Bool × Nat × Blk)) : Prop := np = 3 ∧ lent = []
def impl_Point_plus_body {α : Type}   (k : Nat) (a : Int) (a1 : Int) (b_ : Int) (b_1 : Int) (k_ : Int) (r0 : Int → Int → Option α) : Option α :=
  r0 (w64 (a + (w64 (k_ * b_)))) (w64 (a1 + (w64 (k_ * b_1))))
theorem impl_Point_plus_gen {α : Type}   (n : Nat) (a : Int) (a1 : Int) (b_ : Int) (b_1 : Int) (k_ : Int) (κ : Res → Option α) : evFn Try.prog (impl_Point_plus_XG n) Try.f64 (((buildDs impl_Point_plus_sh [.int a, .int a1, .int b_, .int b_1, .int k_]).map Prod.fst).getD []) κ = impl_Point_plus_body n a a1 b_ b_1 k_ (fun v1 v2 => κ ⟨[.agg [.int .i64 v1, .int .i64 v2]], []⟩) := by kernel_rfl
theorem impl_Point_plus_ev {α : Type} (n : Nat) (a : Int) (a1 : Int) (b_ : Int) (b_1 : Int) (k_ : Int) (κ : Res → Option α) : evFn Try.prog (impl_Point_plus_X n) Try.f64 (((buildDs impl_Point_plus_sh [.int a, .int a1, .int b_, .int b_1, .int k_]).map Prod.fst).getD []) κ = impl_Point_plus_run n [.int a, .int a1, .int b_, .int b_1, .int k_] κ := (impl_Point_plus_gen n a a1 b_ b_1 k_ κ).trans (by kernel_rfl)
theorem impl_Point_plus_en (a : Int) (a1 : Int) (b_ : Int) (b_1 : Int) (k_ : Int) : (entry 0 (((buildDs impl_Point_plus_sh [.int a, .int a1, .int b_, .int b_1, .int k_]).map Prod.fst).getD [])).map (fun x => (x.1.length, x.2.lent)) = some (3, []) := by kernel_rfl
theorem impl_Point_plus_good {α : Type} : ∀ n, GoodFn (α := α) Try.prog 64 (byShape impl_Point_plus_sh (impl_Point_plus_run n)) := by
  refine fn_good' Try.func64 (c := (Try.f64.body.getD .skip)) (by kernel_rfl) (by kernel_rfl) (by kernel_rfl) impl_Point_plus_C impl_Point_plus_M eqs impl_Point_plus_lps (fun n => tabC_good (fun _ h => absurd h List.not_mem_nil)) eqs_ok impl_Point_plus_Lt ?_ ?_ impl_Point_plus_sh impl_Point_plus_run ?_
  · exact (fun _ h => absurd h List.not_mem_nil)
  · exact (fun _ h => absurd h List.not_mem_nil)
  · intro n p κ r ds hd hr
    have hr0 := hr
    unfold impl_Point_plus_run impl_Point_plus_runG at hr
    split at hr
    · rw [← ds_of hd]
      exact ⟨en_of (impl_Point_plus_en _ _ _ _ _) ⟨rfl, rfl⟩, (impl_Point_plus_ev n _ _ _ _ _ κ).trans hr0⟩
    · cases hr

/-! (loop.example/g01297/impl.Point).less -/
def impl_Point_less_sh : List SkD := [.agg [.int .i64, .int .i64], .agg [.int .i64, .int .i64]]
def impl_Point_less_runG {α : Type} (F : Nat → Int → Int → Int → Int → (Int → Int → Option α) → Option α) (n : Nat) (p : List P1) (κ : Res → Option α) : Option α := match p with
  | [.int a, .int a1, .int b_, .int b_1] => F n a a1 b_ b_1 (fun v1 v2 => κ ⟨[.agg [.int .i64 v1, .int .i64 v2]], []⟩)
  | _ => none
def impl_Point_less_run {α : Type} (n : Nat) (p : List P1) (κ : Res → Option α) : Option α := impl_Point_less_runG impl_Point_less n p κ
def impl_Point_less_CG {α : Type} (F0 : Nat → Int → Int → Int → Int → Int → (Int → Int → Option α) → Option α) (n : Nat) : FuncId → List D → (Res → Option α) → Option α := tabC [(64, (byShape impl_Point_plus_sh (impl_Point_plus_runG F0 n)))]
def impl_Point_less_C {α : Type} (n : Nat) : FuncId → List D → (Res → Option α) → Option α := impl_Point_less_CG impl_Point_plus n
def impl_Point_less_M : FuncId → List Nat := tabM []
def impl_Point_less_lpsG {α : Type}  : List (LoopT α) := []
def impl_Point_less_lps {α : Type} : List (LoopT α) := impl_Point_less_lpsG
def impl_Point_less_XG {α : Type} (F0 : Nat → Int → Int → Int → Int → Int → (Int → Int → Option α) → Option α)  (n : Nat) : Ctx α := ⟨impl_Point_less_CG F0 n, impl_Point_less_M, eqs, lpOf (impl_Point_less_lpsG) n⟩
def impl_Point_less_X {α : Type} (n : Nat) : Ctx α := impl_Point_less_XG impl_Point_plus n
def impl_Point_less_Lt (np : Nat) (lent : List (Bool × Nat × Blk)) : Prop := np = 2 ∧ lent = []
def impl_Point_less_body {α : Type} (F0 : Nat → Int → Int → Int → Int → Int → (Int → Int → Option α) → Option α)  (k : Nat) (a : Int) (a1 : Int) (b_ : Int) (b_1 : Int) (r0 : Int → Int → Option α) : Option α :=
  F0 k a a1 b_ b_1 (-1) fun v v1 =>
  r0 v v1
theorem impl_Point_less_gen {α : Type} (F0 : Nat → Int → Int → Int → Int → Int → (Int → Int → Option α) → Option α)  (n : Nat) (a : Int) (a1 : Int) (b_ : Int) (b_1 : Int) (κ : Res → Option α) : evFn Try.prog (impl_Point_less_XG F0 n) Try.f134 (((buildDs impl_Point_less_sh [.int a, .int a1, .int b_, .int b_1]).map Prod.fst).getD []) κ = impl_Point_less_body F0 n a a1 b_ b_1 (fun v1 v2 => κ ⟨[.agg [.int .i64 v1, .int .i64 v2]], []⟩) := by kernel_rfl
theorem impl_Point_less_ev {α : Type} (n : Nat) (a : Int) (a1 : Int) (b_ : Int) (b_1 : Int) (κ : Res → Option α) : evFn Try.prog (impl_Point_less_X n) Try.f134 (((buildDs impl_Point_less_sh [.int a, .int a1, .int b_, .int b_1]).map Prod.fst).getD []) κ = impl_Point_less_run n [.int a, .int a1, .int b_, .int b_1] κ := (impl_Point_less_gen impl_Point_plus n a a1 b_ b_1 κ).trans (by kernel_rfl)
theorem impl_Point_less_en (a : Int) (a1 : Int) (b_ : Int) (b_1 : Int) : (entry 0 (((buildDs impl_Point_less_sh [.int a, .int a1, .int b_, .int b_1]).map Prod.fst).getD [])).map (fun x => (x.1.length, x.2.lent)) = some (2, []) := by kernel_rfl
theorem impl_Point_less_good {α : Type} : ∀ n, GoodFn (α := α) Try.prog 134 (byShape impl_Point_less_sh (impl_Point_less_run n)) := by
  refine fn_good' Try.func134 (c := (Try.f134.body.getD .skip)) (by kernel_rfl) (by kernel_rfl) (by kernel_rfl) impl_Point_less_C impl_Point_less_M eqs impl_Point_less_lps (fun n => tabC_good (List.forall_mem_cons.2 ⟨(impl_Point_plus_good n), (fun _ h => absurd h List.not_mem_nil)⟩)) eqs_ok impl_Point_less_Lt ?_ ?_ impl_Point_less_sh impl_Point_less_run ?_
  · exact (fun _ h => absurd h List.not_mem_nil)
  · exact (fun _ h => absurd h List.not_mem_nil)
  · intro n p κ r ds hd hr
    have hr0 := hr
    unfold impl_Point_less_run impl_Point_less_runG at hr
    split at hr
    · rw [← ds_of hd]
      exact ⟨en_of (impl_Point_less_en _ _ _ _) ⟨rfl, rfl⟩, (impl_Point_less_ev n _ _ _ _ κ).trans hr0⟩
    · cases hr

/-! loop.example/g01297/impl.det -/
def impl_det_sh : List SkD := [.agg [.int .i64, .int .i64], .agg [.int .i64, .int .i64]]
def impl_det_runG {α : Type} (F : Nat → Int → Int → Int → Int → (Int → Option α) → Option α) (n : Nat) (p : List P1) (κ : Res → Option α) : Option α := match p with
  | [.int a, .int a1, .int b_, .int b_1] => F n a a1 b_ b_1 (fun v1 => κ ⟨[.int .i64 v1], []⟩)
  | _ => none
def impl_det_run {α : Type} (n : Nat) (p : List P1) (κ : Res → Option α) : Option α := impl_det_runG impl_det n p κ
def impl_det_CG {α : Type}  (n : Nat) : FuncId → List D → (Res → Option α) → Option α := tabC []
def impl_det_C {α : Type} (n : Nat) : FuncId → List D → (Res → Option α) → Option α := impl_det_CG n
def impl_det_M : FuncId → List Nat := tabM []
def impl_det_lpsG {α : Type}  : List (LoopT α) := []
def impl_det_lps {α : Type} : List (LoopT α) := impl_det_lpsG
def impl_det_XG {α : Type}   (n : Nat) : Ctx α := ⟨impl_det_CG n, impl_det_M, eqs, lpOf (impl_det_lpsG) n⟩
def impl_det_X {α : Type} (n : Nat) : Ctx α := impl_det_XG n
def impl_det_Lt (np : Nat) (lent : List (Bool × Nat × Blk)) : Prop := np = 2 ∧ lent = []
def impl_det_body {α : Type}   (k : Nat) (a : Int) (a1 : Int) (b_ : Int) (b_1 : Int) (r0 : Int → Option α) : Option α :=
  r0 (w64 ((w64 (a * b_1)) - (w64 (a1 * b_))))
theorem impl_det_gen {α : Type}   (n : Nat) (a : Int) (a1 : Int) (b_ : Int) (b_1 : Int) (κ : Res → Option α) : evFn Try.prog (impl_det_XG n) Try.f115 (((buildDs impl_det_sh [.int a, .int a1, .int b_, .int b_1]).map Prod.fst).getD []) κ = impl_det_body n a a1 b_ b_1 (fun v1 => κ ⟨[.int .i64 v1], []⟩) := by kernel_rfl
theorem impl_det_ev {α : Type} (n : Nat) (a : Int) (a1 : Int) (b_ : Int) (b_1 : Int) (κ : Res → Option α) : evFn Try.prog (impl_det_X n) Try.f115 (((buildDs impl_det_sh [.int a, .int a1, .int b_, .int b_1]).map Prod.fst).getD []) κ = impl_det_run n [.int a, .int a1, .int b_, .int b_1] κ := (impl_det_gen n a a1 b_ b_1 κ).trans (by kernel_rfl)
theorem impl_det_en (a : Int) (a1 : Int) (b_ : Int) (b_1 : Int) : (entry 0 (((buildDs impl_det_sh [.int a, .int a1, .int b_, .int b_1]).map Prod.fst).getD [])).map (fun x => (x.1.length, x.2.lent)) = some (2, []) := by kernel_rfl
theorem impl_det_good {α : Type} : ∀ n, GoodFn (α := α) Try.prog 115 (byShape impl_det_sh (impl_det_run n)) := by
  refine fn_good' Try.func115 (c := (Try.f115.body.getD .skip)) (by kernel_rfl) (by kernel_rfl) (by kernel_rfl) impl_det_C impl_det_M eqs impl_det_lps (fun n => tabC_good (fun _ h => absurd h List.not_mem_nil)) eqs_ok impl_det_Lt ?_ ?_ impl_det_sh impl_det_run ?_
  · exact (fun _ h => absurd h List.not_mem_nil)
  · exact (fun _ h => absurd h List.not_mem_nil)
  · intro n p κ r ds hd hr
    have hr0 := hr
    unfold impl_det_run impl_det_runG at hr
    split at hr
    · rw [← ds_of hd]
      exact ⟨en_of (impl_det_en _ _ _ _) ⟨rfl, rfl⟩, (impl_det_ev n _ _ _ _ κ).trans hr0⟩
    · cases hr

/-! loop.example/g01297/impl.size -/
def impl_size_sh : List SkD := [.int .i64]
def impl_size_runG {α : Type} (F : Nat → Int → (Int → Option α) → Option α) (n : Nat) (p : List P1) (κ : Res → Option α) : Option α := match p with
  | [.int n_] => F n n_ (fun v1 => κ ⟨[.int .i64 v1], []⟩)
  | _ => none
def impl_size_run {α : Type} (n : Nat) (p : List P1) (κ : Res → Option α) : Option α := impl_size_runG impl_size n p κ
def impl_size_CG {α : Type}  (n : Nat) : FuncId → List D → (Res → Option α) → Option α := tabC []
def impl_size_C {α : Type} (n : Nat) : FuncId → List D → (Res → Option α) → Option α := impl_size_CG n
def impl_size_M : FuncId → List Nat := tabM []
def impl_size_lpsG {α : Type}  : List (LoopT α) := []
def impl_size_lps {α : Type} : List (LoopT α) := impl_size_lpsG
def impl_size_XG {α : Type}   (n : Nat) : Ctx α := ⟨impl_size_CG n, impl_size_M, eqs, lpOf (impl_size_lpsG) n⟩
def impl_size_X {α : Type} (n : Nat) : Ctx α := impl_size_XG n
def impl_size_Lt (np : Nat) (lent : List (Bool × Nat × Blk)) : Prop := np = 1 ∧ lent = []
def impl_size_body {α : Type}   (k : Nat) (n_ : Int) (r0 : Int → Option α) : Option α :=
  r0 (max n_ (w64 (0 - n_)))
theorem impl_size_gen {α : Type}   (n : Nat) (n_ : Int) (κ : Res → Option α) : evFn Try.prog (impl_size_XG n) Try.f116 (((buildDs impl_size_sh [.int n_]).map Prod.fst).getD []) κ = impl_size_body n n_ (fun v1 => κ ⟨[.int .i64 v1], []⟩) := by kernel_rfl
theorem impl_size_ev {α : Type} (n : Nat) (n_ : Int) (κ : Res → Option α) : evFn Try.prog (impl_size_X n) Try.f116 (((buildDs impl_size_sh [.int n_]).map Prod.fst).getD []) κ = impl_size_run n [.int n_] κ := (impl_size_gen n n_ κ).trans (by kernel_rfl)
theorem impl_size_en (n_ : Int) : (entry 0 (((buildDs impl_size_sh [.int n_]).map Prod.fst).getD [])).map (fun x => (x.1.length, x.2.lent)) = some (1, []) := by kernel_rfl
theorem impl_size_good {α : Type} : ∀ n, GoodFn (α := α) Try.prog 116 (byShape impl_size_sh (impl_size_run n)) := by
  refine fn_good' Try.func116 (c := (Try.f116.body.getD .skip)) (by kernel_rfl) (by kernel_rfl) (by kernel_rfl) impl_size_C impl_size_M eqs impl_size_lps (fun n => tabC_good (fun _ h => absurd h List.not_mem_nil)) eqs_ok impl_size_Lt ?_ ?_ impl_size_sh impl_size_run ?_
  · exact (fun _ h => absurd h List.not_mem_nil)
  · exact (fun _ h => absurd h List.not_mem_nil)
  · intro n p κ r ds hd hr
    have hr0 := hr
    unfold impl_size_run impl_size_runG at hr
    split at hr
    · rw [← ds_of hd]
      exact ⟨en_of (impl_size_en _) ⟨rfl, rfl⟩, (impl_size_ev n _ κ).trans hr0⟩
    · cases hr

/-! loop.example/g01297/impl.area -/
def impl_area_sh : List SkD := [.agg [.int .i64, .int .i64], .agg [.int .i64, .int .i64], .agg [.int .i64, .int .i64]]
def impl_area_runG {α : Type} (F : Nat → Int → Int → Int → Int → Int → Int → (Int → Option α) → Option α) (n : Nat) (p : List P1) (κ : Res → Option α) : Option α := match p with
  | [.int a, .int a1, .int b_, .int b_1, .int c, .int c1] => F n a a1 b_ b_1 c c1 (fun v1 => κ ⟨[.int .i64 v1], []⟩)
  | _ => none
def impl_area_run {α : Type} (n : Nat) (p : List P1) (κ : Res → Option α) : Option α := impl_area_runG impl_area n p κ
def impl_area_CG {α : Type} (F0 : Nat → Int → Int → Int → Int → (Int → Int → Option α) → Option α) (F1 : Nat → Int → Int → Int → Int → (Int → Option α) → Option α) (F2 : Nat → Int → (Int → Option α) → Option α) (n : Nat) : FuncId → List D → (Res → Option α) → Option α := tabC [(134, (byShape impl_Point_less_sh (impl_Point_less_runG F0 n))), (115, (byShape impl_det_sh (impl_det_runG F1 n))), (116, (byShape impl_size_sh (impl_size_runG F2 n)))]
def impl_area_C {α : Type} (n : Nat) : FuncId → List D → (Res → Option α) → Option α := impl_area_CG impl_Point_less impl_det impl_size n
def impl_area_M : FuncId → List Nat := tabM []
def impl_area_lpsG {α : Type}  : List (LoopT α) := []
def impl_area_lps {α : Type} : List (LoopT α) := impl_area_lpsG
def impl_area_XG {α : Type} (F0 : Nat → Int → Int → Int → Int → (Int → Int → Option α) → Option α) (F1 : Nat → Int → Int → Int → Int → (Int → Option α) → Option α) (F2 : Nat → Int → (Int → Option α) → Option α)  (n : Nat) : Ctx α := ⟨impl_area_CG F0 F1 F2 n, impl_area_M, eqs, lpOf (impl_area_lpsG) n⟩
def impl_area_X {α : Type} (n : Nat) : Ctx α := impl_area_XG impl_Point_less impl_det impl_size n
def impl_area_Lt (np : Nat) (lent : List (Bool × Nat × Blk)) : Prop := np = 3 ∧ lent = []
def impl_area_body {α : Type} (F0 : Nat → Int → Int → Int → Int → (Int → Int → Option α) → Option α) (F1 : Nat → Int → Int → Int → Int → (Int → Option α) → Option α) (F2 : Nat → Int → (Int → Option α) → Option α)  (k : Nat) (a : Int) (a1 : Int) (b_ : Int) (b_1 : Int) (c : Int) (c1 : Int) (r0 : Int → Option α) : Option α :=
  F0 k b_ b_1 a a1 fun v v1 =>
  F0 k c c1 a a1 fun v2 v3 =>
  F1 k v v1 v2 v3 fun v4 =>
  F2 k v4 fun v5 =>
  r0 v5
theorem impl_area_gen {α : Type} (F0 : Nat → Int → Int → Int → Int → (Int → Int → Option α) → Option α) (F1 : Nat → Int → Int → Int → Int → (Int → Option α) → Option α) (F2 : Nat → Int → (Int → Option α) → Option α)  (n : Nat) (a : Int) (a1 : Int) (b_ : Int) (b_1 : Int) (c : Int) (c1 : Int) (κ : Res → Option α) : evFn Try.prog (impl_area_XG F0 F1 F2 n) Try.f125 (((buildDs impl_area_sh [.int a, .int a1, .int b_, .int b_1, .int c, .int c1]).map Prod.fst).getD []) κ = impl_area_body F0 F1 F2 n a a1 b_ b_1 c c1 (fun v1 => κ ⟨[.int .i64 v1], []⟩) := by kernel_rfl
theorem impl_area_ev {α : Type} (n : Nat) (a : Int) (a1 : Int) (b_ : Int) (b_1 : Int) (c : Int) (c1 : Int) (κ : Res → Option α) : evFn Try.prog (impl_area_X n) Try.f125 (((buildDs impl_area_sh [.int a, .int a1, .int b_, .int b_1, .int c, .int c1]).map Prod.fst).getD []) κ = impl_area_run n [.int a, .int a1, .int b_, .int b_1, .int c, .int c1] κ := (impl_area_gen impl_Point_less impl_det impl_size n a a1 b_ b_1 c c1 κ).trans (by kernel_rfl)
theorem impl_area_en (a : Int) (a1 : Int) (b_ : Int) (b_1 : Int) (c : Int) (c1 : Int) : (entry 0 (((buildDs impl_area_sh [.int a, .int a1, .int b_, .int b_1, .int c, .int c1]).map Prod.fst).getD [])).map (fun x => (x.1.length, x.2.lent)) = some (3, []) := by kernel_rfl
theorem impl_area_good {α : Type} : ∀ n, GoodFn (α := α) Try.prog 125 (byShape impl_area_sh (impl_area_run n)) := by
  refine fn_good' Try.func125 (c := (Try.f125.body.getD .skip)) (by kernel_rfl) (by kernel_rfl) (by kernel_rfl) impl_area_C impl_area_M eqs impl_area_lps (fun n => tabC_good (List.forall_mem_cons.2 ⟨(impl_Point_less_good n), (List.forall_mem_cons.2 ⟨(impl_det_good n), (List.forall_mem_cons.2 ⟨(impl_size_good n), (fun _ h => absurd h List.not_mem_nil)⟩)⟩)⟩)) eqs_ok impl_area_Lt ?_ ?_ impl_area_sh impl_area_run ?_
  · exact (fun _ h => absurd h List.not_mem_nil)
  · exact (fun _ h => absurd h List.not_mem_nil)
  · intro n p κ r ds hd hr
    have hr0 := hr
    unfold impl_area_run impl_area_runG at hr
    split at hr
    · rw [← ds_of hd]
      exact ⟨en_of (impl_area_en _ _ _ _ _ _) ⟨rfl, rfl⟩, (impl_area_ev n _ _ _ _ _ _ κ).trans hr0⟩
    · cases hr

/-! loop.example/g01297/impl.IsTriangle -/
def impl_IsTriangle_sh : List SkD := [.agg [.int .i64, .int .i64, .int .i64, .int .i64, .int .i64, .int .i64]]
def impl_IsTriangle_runG {α : Type} (F : Nat → Int → Int → Int → Int → Int → Int → (Bool → Option α) → Option α) (n : Nat) (p : List P1) (κ : Res → Option α) : Option α := match p with
  | [.int t, .int t1, .int t2, .int t3, .int t4, .int t5] => F n t t1 t2 t3 t4 t5 (fun v1 => κ ⟨[.bool v1], []⟩)
  | _ => none
def impl_IsTriangle_run {α : Type} (n : Nat) (p : List P1) (κ : Res → Option α) : Option α := impl_IsTriangle_runG impl_IsTriangle n p κ
def impl_IsTriangle_CG {α : Type} (F0 : Nat → Int → Int → (Bool → Option α) → Option α) (F1 : Nat → Int → Int → Int → Int → Int → Int → (Int → Option α) → Option α) (n : Nat) : FuncId → List D → (Res → Option α) → Option α := tabC [(124, (byShape impl_small_sh (impl_small_runG F0 n))), (125, (byShape impl_area_sh (impl_area_runG F1 n)))]
def impl_IsTriangle_C {α : Type} (n : Nat) : FuncId → List D → (Res → Option α) → Option α := impl_IsTriangle_CG impl_small impl_area n
def impl_IsTriangle_M : FuncId → List Nat := tabM []
def impl_IsTriangle_lpsG {α : Type}  : List (LoopT α) := []
def impl_IsTriangle_lps {α : Type} : List (LoopT α) := impl_IsTriangle_lpsG
def impl_IsTriangle_XG {α : Type} (F0 : Nat → Int → Int → (Bool → Option α) → Option α) (F1 : Nat → Int → Int → Int → Int → Int → Int → (Int → Option α) → Option α)  (n : Nat) : Ctx α := ⟨impl_IsTriangle_CG F0 F1 n, impl_IsTriangle_M, eqs, lpOf (impl_IsTriangle_lpsG) n⟩
def impl_IsTriangle_X {α : Type} (n : Nat) : Ctx α := impl_IsTriangle_XG impl_small impl_area n
def impl_IsTriangle_Lt (np : Nat) (lent : List (Bool × Nat × Blk)) : Prop := np = 1 ∧ lent = []
def impl_IsTriangle_body {α : Type} (F0 : Nat → Int → Int → (Bool → Option α) → Option α) (F1 : Nat → Int → Int → Int → Int → Int → Int → (Int → Option α) → Option α)  (k : Nat) (t : Int) (t1 : Int) (t2 : Int) (t3 : Int) (t4 : Int) (t5 : Int) (r0 : Bool → Option α) : Option α :=
  F0 k t t1 fun v =>
  bif v then
    F0 k t2 t3 fun v1 =>
    bif v1 then
      F0 k t4 t5 fun v2 =>
      bif v2 then
        F1 k t t1 t2 t3 t4 t5 fun v3 =>
        r0 (!decide (v3 = 0))
      else
        r0 false
    else
      r0 false
  else
    r0 false
theorem impl_IsTriangle_gen {α : Type} (F0 : Nat → Int → Int → (Bool → Option α) → Option α) (F1 : Nat → Int → Int → Int → Int → Int → Int → (Int → Option α) → Option α)  (n : Nat) (t : Int) (t1 : Int) (t2 : Int) (t3 : Int) (t4 : Int) (t5 : Int) (κ : Res → Option α) : evFn Try.prog (impl_IsTriangle_XG F0 F1 n) Try.f75 (((buildDs impl_IsTriangle_sh [.int t, .int t1, .int t2, .int t3, .int t4, .int t5]).map Prod.fst).getD []) κ = impl_IsTriangle_body F0 F1 n t t1 t2 t3 t4 t5 (fun v1 => κ ⟨[.bool v1], []⟩) := by kernel_rfl
theorem impl_IsTriangle_ev {α : Type} (n : Nat) (t : Int) (t1 : Int) (t2 : Int) (t3 : Int) (t4 : Int) (t5 : Int) (κ : Res → Option α) : evFn Try.prog (impl_IsTriangle_X n) Try.f75 (((buildDs impl_IsTriangle_sh [.int t, .int t1, .int t2, .int t3, .int t4, .int t5]).map Prod.fst).getD []) κ = impl_IsTriangle_run n [.int t, .int t1, .int t2, .int t3, .int t4, .int t5] κ := (impl_IsTriangle_gen impl_small impl_area n t t1 t2 t3 t4 t5 κ).trans (by kernel_rfl)
theorem impl_IsTriangle_en (t : Int) (t1 : Int) (t2 : Int) (t3 : Int) (t4 : Int) (t5 : Int) : (entry 0 (((buildDs impl_IsTriangle_sh [.int t, .int t1, .int t2, .int t3, .int t4, .int t5]).map Prod.fst).getD [])).map (fun x => (x.1.length, x.2.lent)) = some (1, []) := by kernel_rfl
theorem impl_IsTriangle_good {α : Type} : ∀ n, GoodFn (α := α) Try.prog 75 (byShape impl_IsTriangle_sh (impl_IsTriangle_run n)) := by
  refine fn_good' Try.func75 (c := (Try.f75.body.getD .skip)) (by kernel_rfl) (by kernel_rfl) (by kernel_rfl) impl_IsTriangle_C impl_IsTriangle_M eqs impl_IsTriangle_lps (fun n => tabC_good (List.forall_mem_cons.2 ⟨(impl_small_good n), (List.forall_mem_cons.2 ⟨(impl_area_good n), (fun _ h => absurd h List.not_mem_nil)⟩)⟩)) eqs_ok impl_IsTriangle_Lt ?_ ?_ impl_IsTriangle_sh impl_IsTriangle_run ?_
  · exact (fun _ h => absurd h List.not_mem_nil)
  · exact (fun _ h => absurd h List.not_mem_nil)
  · intro n p κ r ds hd hr
    have hr0 := hr
    unfold impl_IsTriangle_run impl_IsTriangle_runG at hr
    split at hr
    · rw [← ds_of hd]
      exact ⟨en_of (impl_IsTriangle_en _ _ _ _ _ _) ⟨rfl, rfl⟩, (impl_IsTriangle_ev n _ _ _ _ _ _ κ).trans hr0⟩
    · cases hr

/-! (loop.example/g01297/impl.Triangle).side -/
def impl_Triangle_side_sh : List SkD := [.agg [.int .i64, .int .i64, .int .i64, .int .i64, .int .i64, .int .i64], .int .i64, .int .i64]
def impl_Triangle_side_runG {α : Type} (F : Nat → Int → Int → Int → Int → Int → Int → Int → Int → (Int → Int → Option α) → Option α) (n : Nat) (p : List P1) (κ : Res → Option α) : Option α := match p with
  | [.int t, .int t1, .int t2, .int t3, .int t4, .int t5, .int i, .int k_] => F n t t1 t2 t3 t4 t5 i k_ (fun v1 v2 => κ ⟨[.agg [.int .i64 v1, .int .i64 v2]], []⟩)
  | _ => none
def impl_Triangle_side_run {α : Type} (n : Nat) (p : List P1) (κ : Res → Option α) : Option α := impl_Triangle_side_runG impl_Triangle_side n p κ
def impl_Triangle_side_CG {α : Type} (F0 : Nat → Int → Int → Int → Int → (Int → Int → Option α) → Option α) (n : Nat) : FuncId → List D → (Res → Option α) → Option α := tabC [(134, (byShape impl_Point_less_sh (impl_Point_less_runG F0 n)))]
def impl_Triangle_side_C {α : Type} (n : Nat) : FuncId → List D → (Res → Option α) → Option α := impl_Triangle_side_CG impl_Point_less n
def impl_Triangle_side_M : FuncId → List Nat := tabM []
def impl_Triangle_side_lpsG {α : Type}  : List (LoopT α) := []
def impl_Triangle_side_lps {α : Type} : List (LoopT α) := impl_Triangle_side_lpsG
def impl_Triangle_side_XG {α : Type} (F0 : Nat → Int → Int → Int → Int → (Int → Int → Option α) → Option α)  (n : Nat) : Ctx α := ⟨impl_Triangle_side_CG F0 n, impl_Triangle_side_M, eqs, lpOf (impl_Triangle_side_lpsG) n⟩
def impl_Triangle_side_X {α : Type} (n : Nat) : Ctx α := impl_Triangle_side_XG impl_Point_less n
def impl_Triangle_side_Lt (np : Nat) (lent : List (Bool × Nat × Blk)) : Prop := np = 3 ∧ lent = []
def impl_Triangle_side_body {α : Type} (F0 : Nat → Int → Int → Int → Int → (Int → Int → Option α) → Option α)  (k : Nat) (t : Int) (t1 : Int) (t2 : Int) (t3 : Int) (t4 : Int) (t5 : Int) (i : Int) (k_ : Int) (r0 : Int → Int → Option α) : Option α :=
  bif (decide (0 ≤ k_) && decide (k_ < 3)) then
    ([t, t1, t2, t3, t4, t5][(k_.toNat * 2)]?).bind fun e_ =>
    ([t, t1, t2, t3, t4, t5][((k_.toNat * 2) + 1)]?).bind fun e_1 =>
    bif (decide (0 ≤ i) && decide (i < 3)) then
      ([t, t1, t2, t3, t4, t5][(i.toNat * 2)]?).bind fun e_2 =>
      ([t, t1, t2, t3, t4, t5][((i.toNat * 2) + 1)]?).bind fun e_3 =>
      F0 k e_ e_1 e_2 e_3 fun v v1 =>
      r0 v v1
    else
      none
  else
    none
theorem impl_Triangle_side_gen {α : Type} (F0 : Nat → Int → Int → Int → Int → (Int → Int → Option α) → Option α)  (n : Nat) (t : Int) (t1 : Int) (t2 : Int) (t3 : Int) (t4 : Int) (t5 : Int) (i : Int) (k_ : Int) (κ : Res → Option α) : evFn Try.prog (impl_Triangle_side_XG F0 n) Try.f126 (((buildDs impl_Triangle_side_sh [.int t, .int t1, .int t2, .int t3, .int t4, .int t5, .int i, .int k_]).map Prod.fst).getD []) κ = impl_Triangle_side_body F0 n t t1 t2 t3 t4 t5 i k_ (fun v1 v2 => κ ⟨[.agg [.int .i64 v1, .int .i64 v2]], []⟩) := by kernel_rfl
theorem impl_Triangle_side_ev {α : Type} (n : Nat) (t : Int) (t1 : Int) (t2 : Int) (t3 : Int) (t4 : Int) (t5 : Int) (i : Int) (k_ : Int) (κ : Res → Option α) : evFn Try.prog (impl_Triangle_side_X n) Try.f126 (((buildDs impl_Triangle_side_sh [.int t, .int t1, .int t2, .int t3, .int t4, .int t5, .int i, .int k_]).map Prod.fst).getD []) κ = impl_Triangle_side_run n [.int t, .int t1, .int t2, .int t3, .int t4, .int t5, .int i, .int k_] κ := (impl_Triangle_side_gen impl_Point_less n t t1 t2 t3 t4 t5 i k_ κ).trans (by kernel_rfl)
theorem impl_Triangle_side_en (t : Int) (t1 : Int) (t2 : Int) (t3 : Int) (t4 : Int) (t5 : Int) (i : Int) (k_ : Int) : (entry 0 (((buildDs impl_Triangle_side_sh [.int t, .int t1, .int t2, .int t3, .int t4, .int t5, .int i, .int k_]).map Prod.fst).getD [])).map (fun x => (x.1.length, x.2.lent)) = some (3, []) := by kernel_rfl
theorem impl_Triangle_side_good {α : Type} : ∀ n, GoodFn (α := α) Try.prog 126 (byShape impl_Triangle_side_sh (impl_Triangle_side_run n)) := by
  refine fn_good' Try.func126 (c := (Try.f126.body.getD .skip)) (by kernel_rfl) (by kernel_rfl) (by kernel_rfl) impl_Triangle_side_C impl_Triangle_side_M eqs impl_Triangle_side_lps (fun n => tabC_good (List.forall_mem_cons.2 ⟨(impl_Point_less_good n), (fun _ h => absurd h List.not_mem_nil)⟩)) eqs_ok impl_Triangle_side_Lt ?_ ?_ impl_Triangle_side_sh impl_Triangle_side_run ?_
  · exact (fun _ h => absurd h List.not_mem_nil)
  · exact (fun _ h => absurd h List.not_mem_nil)
  · intro n p κ r ds hd hr
    have hr0 := hr
    unfold impl_Triangle_side_run impl_Triangle_side_runG at hr
    split at hr
    · rw [← ds_of hd]
      exact ⟨en_of (impl_Triangle_side_en _ _ _ _ _ _ _ _) ⟨rfl, rfl⟩, (impl_Triangle_side_ev n _ _ _ _ _ _ _ _ κ).trans hr0⟩
    · cases hr

/-! loop.example/g01297/impl.gcd -/
def impl_gcd_sh : List SkD := [.int .i64, .int .i64]
def impl_gcd_runG {α : Type} (F : Nat → Int → Int → (Int → Option α) → Option α) (n : Nat) (p : List P1) (κ : Res → Option α) : Option α := match p with
  | [.int a, .int b_] => F n a b_ (fun v1 => κ ⟨[.int .i64 v1], []⟩)
  | _ => none
def impl_gcd_run {α : Type} (n : Nat) (p : List P1) (κ : Res → Option α) : Option α := impl_gcd_runG impl_gcd n p κ
def impl_gcd_CG {α : Type} (F0 : Nat → Int → (Int → Option α) → Option α) (n : Nat) : FuncId → List D → (Res → Option α) → Option α := tabC [(116, (byShape impl_size_sh (impl_size_runG F0 n)))]
def impl_gcd_C {α : Type} (n : Nat) : FuncId → List D → (Res → Option α) → Option α := impl_gcd_CG impl_size n
def impl_gcd_M : FuncId → List Nat := tabM []
def impl_gcd_t1 : Tpl := ⟨[.int .i64, .int .i64, .any, .any, .any, .any, .any, .any, .any, .any, .any, .any, .any], [], []⟩
def impl_gcd_uG1 {α : Type} (G : Nat → Int → Int → (Int → Int → Option α) → (Int → Option α) → Option α) (n : Nat) (p : List P1) (brk : Nat → List P1 → Option α) (ret : Res → Option α) : Option α := match p with
  | [.int a1, .int b_1] => G n a1 b_1 (fun a1 b_1 => brk 0 [.int a1, .int b_1]) (fun v1 => ret ⟨[.int .i64 v1], []⟩)
  | _ => none
def impl_gcd_u1 {α : Type} (n : Nat) (p : List P1) (brk : Nat → List P1 → Option α) (ret : Res → Option α) : Option α := impl_gcd_uG1 impl_gcd_l1 n p brk ret
def impl_gcd_lpsG {α : Type} (G1 : Nat → Int → Int → (Int → Int → Option α) → (Int → Option α) → Option α) : List (LoopT α) := [⟨1, impl_gcd_t1, impl_gcd_uG1 G1⟩]
def impl_gcd_lps {α : Type} : List (LoopT α) := impl_gcd_lpsG impl_gcd_l1
def impl_gcd_XG {α : Type} (F0 : Nat → Int → (Int → Option α) → Option α) (G1 : Nat → Int → Int → (Int → Int → Option α) → (Int → Option α) → Option α) (n : Nat) : Ctx α := ⟨impl_gcd_CG F0 n, impl_gcd_M, eqs, lpOf (impl_gcd_lpsG G1) n⟩
def impl_gcd_X {α : Type} (n : Nat) : Ctx α := impl_gcd_XG impl_size impl_gcd_l1 n
def impl_gcd_Lt (np : Nat) (lent : List (Bool × Nat × Blk)) : Prop := np = 2 ∧ lent = []
def impl_gcd_lb1 {α : Type} (F0 : Nat → Int → (Int → Option α) → Option α) (G1 : Nat → Int → Int → (Int → Int → Option α) → (Int → Option α) → Option α) (k : Nat) (a1 : Int) (b_1 : Int) (b0 : Int → Int → Option α) (r0 : Int → Option α) : Option α :=
  bif (!decide (b_1 = 0)) then
    bif decide (b_1 = 0) then
      none
    else
      G1 k b_1 (Int.tmod a1 b_1) b0 r0
  else
    b0 a1 b_1
theorem impl_gcd_l1_gen {α : Type} (F0 : Nat → Int → (Int → Option α) → Option α) (G1 : Nat → Int → Int → (Int → Int → Option α) → (Int → Option α) → Option α) (n : Nat) (a1 : Int) (b_1 : Int) (brk : Nat → List P1 → Option α) (ret : Res → Option α) : ev ((impl_gcd_XG F0 G1 n).env Try.prog Try.f147 2 []) (findLoop (loopsIn (Try.f147.body.getD .skip)) 1) ((impl_gcd_t1.build [.int a1, .int b_1]).getD ⟨[], []⟩) (roundK (2 * 64) impl_gcd_t1 (fun q => impl_gcd_uG1 G1 n q brk ret) brk ret) = impl_gcd_lb1 F0 G1 n a1 b_1 (fun a1 b_1 => brk 0 [.int a1, .int b_1]) (fun v1 => ret ⟨[.int .i64 v1], []⟩) := by kernel_rfl
theorem impl_gcd_l1_ev {α : Type} (n : Nat) (a1 : Int) (b_1 : Int) (brk : Nat → List P1 → Option α) (ret : Res → Option α) : ev ((impl_gcd_X n).env Try.prog Try.f147 2 []) (findLoop (loopsIn (Try.f147.body.getD .skip)) 1) ((impl_gcd_t1.build [.int a1, .int b_1]).getD ⟨[], []⟩) (roundK (2 * 64) impl_gcd_t1 (fun q => impl_gcd_u1 n q brk ret) brk ret) = impl_gcd_u1 (n + 1) [.int a1, .int b_1] brk ret := (impl_gcd_l1_gen impl_size impl_gcd_l1 n a1 b_1 brk ret).trans (by kernel_rfl)
def impl_gcd_body {α : Type} (F0 : Nat → Int → (Int → Option α) → Option α) (G1 : Nat → Int → Int → (Int → Int → Option α) → (Int → Option α) → Option α) (k : Nat) (a : Int) (b_ : Int) (r0 : Int → Option α) : Option α :=
  G1 k a b_
    (fun a2 b_2 =>
      F0 k a2 fun v =>
      r0 v)
    r0
theorem impl_gcd_gen {α : Type} (F0 : Nat → Int → (Int → Option α) → Option α) (G1 : Nat → Int → Int → (Int → Int → Option α) → (Int → Option α) → Option α) (n : Nat) (a : Int) (b_ : Int) (κ : Res → Option α) : evFn Try.prog (impl_gcd_XG F0 G1 n) Try.f147 (((buildDs impl_gcd_sh [.int a, .int b_]).map Prod.fst).getD []) κ = impl_gcd_body F0 G1 n a b_ (fun v1 => κ ⟨[.int .i64 v1], []⟩) := by kernel_rfl
theorem impl_gcd_ev {α : Type} (n : Nat) (a : Int) (b_ : Int) (κ : Res → Option α) : evFn Try.prog (impl_gcd_X n) Try.f147 (((buildDs impl_gcd_sh [.int a, .int b_]).map Prod.fst).getD []) κ = impl_gcd_run n [.int a, .int b_] κ := (impl_gcd_gen impl_size impl_gcd_l1 n a b_ κ).trans (by kernel_rfl)
theorem impl_gcd_en (a : Int) (b_ : Int) : (entry 0 (((buildDs impl_gcd_sh [.int a, .int b_]).map Prod.fst).getD [])).map (fun x => (x.1.length, x.2.lent)) = some (2, []) := by kernel_rfl
theorem impl_gcd_good {α : Type} : ∀ n, GoodFn (α := α) Try.prog 147 (byShape impl_gcd_sh (impl_gcd_run n)) := by
  refine fn_good' Try.func147 (c := (Try.f147.body.getD .skip)) (by kernel_rfl) (by kernel_rfl) (by kernel_rfl) impl_gcd_C impl_gcd_M eqs impl_gcd_lps (fun n => tabC_good (List.forall_mem_cons.2 ⟨(impl_size_good n), (fun _ h => absurd h List.not_mem_nil)⟩)) eqs_ok impl_gcd_Lt ?_ ?_ impl_gcd_sh impl_gcd_run ?_
  · refine List.forall_mem_cons.2 ⟨?_, (fun _ h => absurd h List.not_mem_nil)⟩
    · intro p brk ret; show impl_gcd_u1 0 p brk ret = none; unfold impl_gcd_u1 impl_gcd_uG1; split <;> rfl
  · refine List.forall_mem_cons.2 ⟨?_, (fun _ h => absurd h List.not_mem_nil)⟩
    · intro np lent hL n p brk ret st r hb hr
      obtain ⟨rfl, rfl⟩ := hL
      rw [← tpl_of hb]
      change impl_gcd_u1 (n + 1) p brk ret = some r at hr
      have hr0 := hr
      unfold impl_gcd_u1 impl_gcd_uG1 at hr
      split at hr
      · exact (impl_gcd_l1_ev n _ _ brk ret).trans hr0
      · cases hr
  · intro n p κ r ds hd hr
    have hr0 := hr
    unfold impl_gcd_run impl_gcd_runG at hr
    split at hr
    · rw [← ds_of hd]
      exact ⟨en_of (impl_gcd_en _ _) ⟨rfl, rfl⟩, (impl_gcd_ev n _ _ κ).trans hr0⟩
    · cases hr

/-! (loop.example/g01297/impl.Point).length -/
def impl_Point_length_sh : List SkD := [.agg [.int .i64, .int .i64]]
def impl_Point_length_runG {α : Type} (F : Nat → Int → Int → (Int → Option α) → Option α) (n : Nat) (p : List P1) (κ : Res → Option α) : Option α := match p with
  | [.int a, .int a1] => F n a a1 (fun v1 => κ ⟨[.int .i64 v1], []⟩)
  | _ => none
def impl_Point_length_run {α : Type} (n : Nat) (p : List P1) (κ : Res → Option α) : Option α := impl_Point_length_runG impl_Point_length n p κ
def impl_Point_length_CG {α : Type} (F0 : Nat → Int → Int → (Int → Option α) → Option α) (n : Nat) : FuncId → List D → (Res → Option α) → Option α := tabC [(147, (byShape impl_gcd_sh (impl_gcd_runG F0 n)))]
def impl_Point_length_C {α : Type} (n : Nat) : FuncId → List D → (Res → Option α) → Option α := impl_Point_length_CG impl_gcd n
def impl_Point_length_M : FuncId → List Nat := tabM []
def impl_Point_length_lpsG {α : Type}  : List (LoopT α) := []
def impl_Point_length_lps {α : Type} : List (LoopT α) := impl_Point_length_lpsG
def impl_Point_length_XG {α : Type} (F0 : Nat → Int → Int → (Int → Option α) → Option α)  (n : Nat) : Ctx α := ⟨impl_Point_length_CG F0 n, impl_Point_length_M, eqs, lpOf (impl_Point_length_lpsG) n⟩
def impl_Point_length_X {α : Type} (n : Nat) : Ctx α := impl_Point_length_XG impl_gcd n
def impl_Point_length_Lt (np : Nat) (lent : List (Bool × Nat × Blk)) : Prop := np = 1 ∧ lent = []
def impl_Point_length_body {α : Type} (F0 : Nat → Int → Int → (Int → Option α) → Option α)  (k : Nat) (a : Int) (a1 : Int) (r0 : Int → Option α) : Option α :=
  F0 k a a1 fun v =>
  r0 v
theorem impl_Point_length_gen {α : Type} (F0 : Nat → Int → Int → (Int → Option α) → Option α)  (n : Nat) (a : Int) (a1 : Int) (κ : Res → Option α) : evFn Try.prog (impl_Point_length_XG F0 n) Try.f127 (((buildDs impl_Point_length_sh [.int a, .int a1]).map Prod.fst).getD []) κ = impl_Point_length_body F0 n a a1 (fun v1 => κ ⟨[.int .i64 v1], []⟩) := by kernel_rfl
theorem impl_Point_length_ev {α : Type} (n : Nat) (a : Int) (a1 : Int) (κ : Res → Option α) : evFn Try.prog (impl_Point_length_X n) Try.f127 (((buildDs impl_Point_length_sh [.int a, .int a1]).map Prod.fst).getD []) κ = impl_Point_length_run n [.int a, .int a1] κ := (impl_Point_length_gen impl_gcd n a a1 κ).trans (by kernel_rfl)
theorem impl_Point_length_en (a : Int) (a1 : Int) : (entry 0 (((buildDs impl_Point_length_sh [.int a, .int a1]).map Prod.fst).getD [])).map (fun x => (x.1.length, x.2.lent)) = some (1, []) := by kernel_rfl
theorem impl_Point_length_good {α : Type} : ∀ n, GoodFn (α := α) Try.prog 127 (byShape impl_Point_length_sh (impl_Point_length_run n)) := by
  refine fn_good' Try.func127 (c := (Try.f127.body.getD .skip)) (by kernel_rfl) (by kernel_rfl) (by kernel_rfl) impl_Point_length_C impl_Point_length_M eqs impl_Point_length_lps (fun n => tabC_good (List.forall_mem_cons.2 ⟨(impl_gcd_good n), (fun _ h => absurd h List.not_mem_nil)⟩)) eqs_ok impl_Point_length_Lt ?_ ?_ impl_Point_length_sh impl_Point_length_run ?_
  · exact (fun _ h => absurd h List.not_mem_nil)
  · exact (fun _ h => absurd h List.not_mem_nil)
  · intro n p κ r ds hd hr
    have hr0 := hr
    unfold impl_Point_length_run impl_Point_length_runG at hr
    split at hr
    · rw [← ds_of hd]
      exact ⟨en_of (impl_Point_length_en _ _) ⟨rfl, rfl⟩, (impl_Point_length_ev n _ _ κ).trans hr0⟩
    · cases hr

/-! (loop.example/g01297/impl.Triangle).area -/
def impl_Triangle_area_sh : List SkD := [.agg [.int .i64, .int .i64, .int .i64, .int .i64, .int .i64, .int .i64]]
def impl_Triangle_area_runG {α : Type} (F : Nat → Int → Int → Int → Int → Int → Int → (Int → Option α) → Option α) (n : Nat) (p : List P1) (κ : Res → Option α) : Option α := match p with
  | [.int t, .int t1, .int t2, .int t3, .int t4, .int t5] => F n t t1 t2 t3 t4 t5 (fun v1 => κ ⟨[.int .i64 v1], []⟩)
  | _ => none
def impl_Triangle_area_run {α : Type} (n : Nat) (p : List P1) (κ : Res → Option α) : Option α := impl_Triangle_area_runG impl_Triangle_area n p κ
def impl_Triangle_area_CG {α : Type} (F0 : Nat → Int → Int → Int → Int → Int → Int → (Int → Option α) → Option α) (n : Nat) : FuncId → List D → (Res → Option α) → Option α := tabC [(125, (byShape impl_area_sh (impl_area_runG F0 n)))]
def impl_Triangle_area_C {α : Type} (n : Nat) : FuncId → List D → (Res → Option α) → Option α := impl_Triangle_area_CG impl_area n
def impl_Triangle_area_M : FuncId → List Nat := tabM []
def impl_Triangle_area_lpsG {α : Type}  : List (LoopT α) := []
def impl_Triangle_area_lps {α : Type} : List (LoopT α) := impl_Triangle_area_lpsG
def impl_Triangle_area_XG {α : Type} (F0 : Nat → Int → Int → Int → Int → Int → Int → (Int → Option α) → Option α)  (n : Nat) : Ctx α := ⟨impl_Triangle_area_CG F0 n, impl_Triangle_area_M, eqs, lpOf (impl_Triangle_area_lpsG) n⟩
def impl_Triangle_area_X {α : Type} (n : Nat) : Ctx α := impl_Triangle_area_XG impl_area n
def impl_Triangle_area_Lt (np : Nat) (lent : List (Bool × Nat × Blk)) : Prop := np = 1 ∧ lent = []
def impl_Triangle_area_body {α : Type} (F0 : Nat → Int → Int → Int → Int → Int → Int → (Int → Option α) → Option α)  (k : Nat) (t : Int) (t1 : Int) (t2 : Int) (t3 : Int) (t4 : Int) (t5 : Int) (r0 : Int → Option α) : Option α :=
  F0 k t t1 t2 t3 t4 t5 fun v =>
  r0 v
theorem impl_Triangle_area_gen {α : Type} (F0 : Nat → Int → Int → Int → Int → Int → Int → (Int → Option α) → Option α)  (n : Nat) (t : Int) (t1 : Int) (t2 : Int) (t3 : Int) (t4 : Int) (t5 : Int) (κ : Res → Option α) : evFn Try.prog (impl_Triangle_area_XG F0 n) Try.f128 (((buildDs impl_Triangle_area_sh [.int t, .int t1, .int t2, .int t3, .int t4, .int t5]).map Prod.fst).getD []) κ = impl_Triangle_area_body F0 n t t1 t2 t3 t4 t5 (fun v1 => κ ⟨[.int .i64 v1], []⟩) := by kernel_rfl
theorem impl_Triangle_area_ev {α : Type} (n : Nat) (t : Int) (t1 : Int) (t2 : Int) (t3 : Int) (t4 : Int) (t5 : Int) (κ : Res → Option α) : evFn Try.prog (impl_Triangle_area_X n) Try.f128 (((buildDs impl_Triangle_area_sh [.int t, .int t1, .int t2, .int t3, .int t4, .int t5]).map Prod.fst).getD []) κ = impl_Triangle_area_run n [.int t, .int t1, .int t2, .int t3, .int t4, .int t5] κ := (impl_Triangle_area_gen impl_area n t t1 t2 t3 t4 t5 κ).trans (by kernel_rfl)
theorem impl_Triangle_area_en (t : Int) (t1 : Int) (t2 : Int) (t3 : Int) (t4 : Int) (t5 : Int) : (entry 0 (((buildDs impl_Triangle_area_sh [.int t, .int t1, .int t2, .int t3, .int t4, .int t5]).map Prod.fst).getD [])).map (fun x => (x.1.length, x.2.lent)) = some (1, []) := by kernel_rfl
theorem impl_Triangle_area_good {α : Type} : ∀ n, GoodFn (α := α) Try.prog 128 (byShape impl_Triangle_area_sh (impl_Triangle_area_run n)) := by
  refine fn_good' Try.func128 (c := (Try.f128.body.getD .skip)) (by kernel_rfl) (by kernel_rfl) (by kernel_rfl) impl_Triangle_area_C impl_Triangle_area_M eqs impl_Triangle_area_lps (fun n => tabC_good (List.forall_mem_cons.2 ⟨(impl_area_good n), (fun _ h => absurd h List.not_mem_nil)⟩)) eqs_ok impl_Triangle_area_Lt ?_ ?_ impl_Triangle_area_sh impl_Triangle_area_run ?_
  · exact (fun _ h => absurd h List.not_mem_nil)
  · exact (fun _ h => absurd h List.not_mem_nil)
  · intro n p κ r ds hd hr
    have hr0 := hr
    unfold impl_Triangle_area_run impl_Triangle_area_runG at hr
    split at hr
    · rw [← ds_of hd]
      exact ⟨en_of (impl_Triangle_area_en _ _ _ _ _ _) ⟨rfl, rfl⟩, (impl_Triangle_area_ev n _ _ _ _ _ _ κ).trans hr0⟩
    · cases hr

/-! (loop.example/g01297/impl.Point).primitive -/
def impl_Point_primitive_sh : List SkD := [.agg [.int .i64, .int .i64]]
def impl_Point_primitive_runG {α : Type} (F : Nat → Int → Int → (Int → Int → Option α) → Option α) (n : Nat) (p : List P1) (κ : Res → Option α) : Option α := match p with
  | [.int a, .int a1] => F n a a1 (fun v1 v2 => κ ⟨[.agg [.int .i64 v1, .int .i64 v2]], []⟩)
  | _ => none
def impl_Point_primitive_run {α : Type} (n : Nat) (p : List P1) (κ : Res → Option α) : Option α := impl_Point_primitive_runG impl_Point_primitive n p κ
def impl_Point_primitive_CG {α : Type} (F0 : Nat → Int → Int → (Int → Option α) → Option α) (n : Nat) : FuncId → List D → (Res → Option α) → Option α := tabC [(127, (byShape impl_Point_length_sh (impl_Point_length_runG F0 n)))]
def impl_Point_primitive_C {α : Type} (n : Nat) : FuncId → List D → (Res → Option α) → Option α := impl_Point_primitive_CG impl_Point_length n
def impl_Point_primitive_M : FuncId → List Nat := tabM []
def impl_Point_primitive_lpsG {α : Type}  : List (LoopT α) := []
def impl_Point_primitive_lps {α : Type} : List (LoopT α) := impl_Point_primitive_lpsG
def impl_Point_primitive_XG {α : Type} (F0 : Nat → Int → Int → (Int → Option α) → Option α)  (n : Nat) : Ctx α := ⟨impl_Point_primitive_CG F0 n, impl_Point_primitive_M, eqs, lpOf (impl_Point_primitive_lpsG) n⟩
def impl_Point_primitive_X {α : Type} (n : Nat) : Ctx α := impl_Point_primitive_XG impl_Point_length n
def impl_Point_primitive_Lt (np : Nat) (lent : List (Bool × Nat × Blk)) : Prop := np = 1 ∧ lent = []
def impl_Point_primitive_body {α : Type} (F0 : Nat → Int → Int → (Int → Option α) → Option α)  (k : Nat) (a : Int) (a1 : Int) (r0 : Int → Int → Option α) : Option α :=
  F0 k a a1 fun v =>
  bif decide (v = 0) then
    none
  else
  bif decide (v = 0) then
    none
  else
    r0 (w64 (Int.tdiv a v)) (w64 (Int.tdiv a1 v))
theorem impl_Point_primitive_gen {α : Type} (F0 : Nat → Int → Int → (Int → Option α) → Option α)  (n : Nat) (a : Int) (a1 : Int) (κ : Res → Option α) : evFn Try.prog (impl_Point_primitive_XG F0 n) Try.f130 (((buildDs impl_Point_primitive_sh [.int a, .int a1]).map Prod.fst).getD []) κ = impl_Point_primitive_body F0 n a a1 (fun v1 v2 => κ ⟨[.agg [.int .i64 v1, .int .i64 v2]], []⟩) := by kernel_rfl
theorem impl_Point_primitive_ev {α : Type} (n : Nat) (a : Int) (a1 : Int) (κ : Res → Option α) : evFn Try.prog (impl_Point_primitive_X n) Try.f130 (((buildDs impl_Point_primitive_sh [.int a, .int a1]).map Prod.fst).getD []) κ = impl_Point_primitive_run n [.int a, .int a1] κ := (impl_Point_primitive_gen impl_Point_length n a a1 κ).trans (by kernel_rfl)
theorem impl_Point_primitive_en (a : Int) (a1 : Int) : (entry 0 (((buildDs impl_Point_primitive_sh [.int a, .int a1]).map Prod.fst).getD [])).map (fun x => (x.1.length, x.2.lent)) = some (1, []) := by kernel_rfl
theorem impl_Point_primitive_good {α : Type} : ∀ n, GoodFn (α := α) Try.prog 130 (byShape impl_Point_primitive_sh (impl_Point_primitive_run n)) := by
  refine fn_good' Try.func130 (c := (Try.f130.body.getD .skip)) (by kernel_rfl) (by kernel_rfl) (by kernel_rfl) impl_Point_primitive_C impl_Point_primitive_M eqs impl_Point_primitive_lps (fun n => tabC_good (List.forall_mem_cons.2 ⟨(impl_Point_length_good n), (fun _ h => absurd h List.not_mem_nil)⟩)) eqs_ok impl_Point_primitive_Lt ?_ ?_ impl_Point_primitive_sh impl_Point_primitive_run ?_
  · exact (fun _ h => absurd h List.not_mem_nil)
  · exact (fun _ h => absurd h List.not_mem_nil)
  · intro n p κ r ds hd hr
    have hr0 := hr
    unfold impl_Point_primitive_run impl_Point_primitive_runG at hr
    split at hr
    · rw [← ds_of hd]
      exact ⟨en_of (impl_Point_primitive_en _ _) ⟨rfl, rfl⟩, (impl_Point_primitive_ev n _ _ κ).trans hr0⟩
    · cases hr

/-! loop.example/g01297/impl.floor -/
def impl_floor_sh : List SkD := [.int .i64, .int .i64]
def impl_floor_runG {α : Type} (F : Nat → Int → Int → (Int → Option α) → Option α) (n : Nat) (p : List P1) (κ : Res → Option α) : Option α := match p with
  | [.int a, .int b_] => F n a b_ (fun v1 => κ ⟨[.int .i64 v1], []⟩)
  | _ => none
def impl_floor_run {α : Type} (n : Nat) (p : List P1) (κ : Res → Option α) : Option α := impl_floor_runG impl_floor n p κ
def impl_floor_CG {α : Type}  (n : Nat) : FuncId → List D → (Res → Option α) → Option α := tabC []
def impl_floor_C {α : Type} (n : Nat) : FuncId → List D → (Res → Option α) → Option α := impl_floor_CG n
def impl_floor_M : FuncId → List Nat := tabM []
def impl_floor_lpsG {α : Type}  : List (LoopT α) := []
def impl_floor_lps {α : Type} : List (LoopT α) := impl_floor_lpsG
def impl_floor_XG {α : Type}   (n : Nat) : Ctx α := ⟨impl_floor_CG n, impl_floor_M, eqs, lpOf (impl_floor_lpsG) n⟩
def impl_floor_X {α : Type} (n : Nat) : Ctx α := impl_floor_XG n
def impl_floor_Lt (np : Nat) (lent : List (Bool × Nat × Blk)) : Prop := np = 2 ∧ lent = []
def impl_floor_body {α : Type}   (k : Nat) (a : Int) (b_ : Int) (r0 : Int → Option α) : Option α :=
  bif decide (b_ = 0) then
    none
  else
  bif decide (b_ = 0) then
    none
  else
  bif (!decide ((Int.tmod a b_) = 0)) then
    bif (!(decide (a < 0) == decide (b_ < 0))) then
      r0 (w64 ((w64 (Int.tdiv a b_)) - 1))
    else
      r0 (w64 (Int.tdiv a b_))
  else
    r0 (w64 (Int.tdiv a b_))
theorem impl_floor_gen {α : Type}   (n : Nat) (a : Int) (b_ : Int) (κ : Res → Option α) : evFn Try.prog (impl_floor_XG n) Try.f65 (((buildDs impl_floor_sh [.int a, .int b_]).map Prod.fst).getD []) κ = impl_floor_body n a b_ (fun v1 => κ ⟨[.int .i64 v1], []⟩) := by kernel_rfl
theorem impl_floor_ev {α : Type} (n : Nat) (a : Int) (b_ : Int) (κ : Res → Option α) : evFn Try.prog (impl_floor_X n) Try.f65 (((buildDs impl_floor_sh [.int a, .int b_]).map Prod.fst).getD []) κ = impl_floor_run n [.int a, .int b_] κ := (impl_floor_gen n a b_ κ).trans (by kernel_rfl)
theorem impl_floor_en (a : Int) (b_ : Int) : (entry 0 (((buildDs impl_floor_sh [.int a, .int b_]).map Prod.fst).getD [])).map (fun x => (x.1.length, x.2.lent)) = some (2, []) := by kernel_rfl
theorem impl_floor_good {α : Type} : ∀ n, GoodFn (α := α) Try.prog 65 (byShape impl_floor_sh (impl_floor_run n)) := by
  refine fn_good' Try.func65 (c := (Try.f65.body.getD .skip)) (by kernel_rfl) (by kernel_rfl) (by kernel_rfl) impl_floor_C impl_floor_M eqs impl_floor_lps (fun n => tabC_good (fun _ h => absurd h List.not_mem_nil)) eqs_ok impl_floor_Lt ?_ ?_ impl_floor_sh impl_floor_run ?_
  · exact (fun _ h => absurd h List.not_mem_nil)
  · exact (fun _ h => absurd h List.not_mem_nil)
  · intro n p κ r ds hd hr
    have hr0 := hr
    unfold impl_floor_run impl_floor_runG at hr
    split at hr
    · rw [← ds_of hd]
      exact ⟨en_of (impl_floor_en _ _) ⟨rfl, rfl⟩, (impl_floor_ev n _ _ κ).trans hr0⟩
    · cases hr

/-! loop.example/g01297/impl.mod -/
def impl_mod_sh : List SkD := [.int .i64, .int .i64]
def impl_mod_runG {α : Type} (F : Nat → Int → Int → (Int → Option α) → Option α) (n : Nat) (p : List P1) (κ : Res → Option α) : Option α := match p with
  | [.int a, .int b_] => F n a b_ (fun v1 => κ ⟨[.int .i64 v1], []⟩)
  | _ => none
def impl_mod_run {α : Type} (n : Nat) (p : List P1) (κ : Res → Option α) : Option α := impl_mod_runG impl_mod n p κ
def impl_mod_CG {α : Type} (F0 : Nat → Int → Int → (Int → Option α) → Option α) (n : Nat) : FuncId → List D → (Res → Option α) → Option α := tabC [(65, (byShape impl_floor_sh (impl_floor_runG F0 n)))]
def impl_mod_C {α : Type} (n : Nat) : FuncId → List D → (Res → Option α) → Option α := impl_mod_CG impl_floor n
def impl_mod_M : FuncId → List Nat := tabM []
def impl_mod_lpsG {α : Type}  : List (LoopT α) := []
def impl_mod_lps {α : Type} : List (LoopT α) := impl_mod_lpsG
def impl_mod_XG {α : Type} (F0 : Nat → Int → Int → (Int → Option α) → Option α)  (n : Nat) : Ctx α := ⟨impl_mod_CG F0 n, impl_mod_M, eqs, lpOf (impl_mod_lpsG) n⟩
def impl_mod_X {α : Type} (n : Nat) : Ctx α := impl_mod_XG impl_floor n
def impl_mod_Lt (np : Nat) (lent : List (Bool × Nat × Blk)) : Prop := np = 2 ∧ lent = []
def impl_mod_body {α : Type} (F0 : Nat → Int → Int → (Int → Option α) → Option α)  (k : Nat) (a : Int) (b_ : Int) (r0 : Int → Option α) : Option α :=
  F0 k a b_ fun v =>
  r0 (w64 (a - (w64 (b_ * v))))
theorem impl_mod_gen {α : Type} (F0 : Nat → Int → Int → (Int → Option α) → Option α)  (n : Nat) (a : Int) (b_ : Int) (κ : Res → Option α) : evFn Try.prog (impl_mod_XG F0 n) Try.f129 (((buildDs impl_mod_sh [.int a, .int b_]).map Prod.fst).getD []) κ = impl_mod_body F0 n a b_ (fun v1 => κ ⟨[.int .i64 v1], []⟩) := by kernel_rfl
theorem impl_mod_ev {α : Type} (n : Nat) (a : Int) (b_ : Int) (κ : Res → Option α) : evFn Try.prog (impl_mod_X n) Try.f129 (((buildDs impl_mod_sh [.int a, .int b_]).map Prod.fst).getD []) κ = impl_mod_run n [.int a, .int b_] κ := (impl_mod_gen impl_floor n a b_ κ).trans (by kernel_rfl)
theorem impl_mod_en (a : Int) (b_ : Int) : (entry 0 (((buildDs impl_mod_sh [.int a, .int b_]).map Prod.fst).getD [])).map (fun x => (x.1.length, x.2.lent)) = some (2, []) := by kernel_rfl
theorem impl_mod_good {α : Type} : ∀ n, GoodFn (α := α) Try.prog 129 (byShape impl_mod_sh (impl_mod_run n)) := by
  refine fn_good' Try.func129 (c := (Try.f129.body.getD .skip)) (by kernel_rfl) (by kernel_rfl) (by kernel_rfl) impl_mod_C impl_mod_M eqs impl_mod_lps (fun n => tabC_good (List.forall_mem_cons.2 ⟨(impl_floor_good n), (fun _ h => absurd h List.not_mem_nil)⟩)) eqs_ok impl_mod_Lt ?_ ?_ impl_mod_sh impl_mod_run ?_
  · exact (fun _ h => absurd h List.not_mem_nil)
  · exact (fun _ h => absurd h List.not_mem_nil)
  · intro n p κ r ds hd hr
    have hr0 := hr
    unfold impl_mod_run impl_mod_runG at hr
    split at hr
    · rw [← ds_of hd]
      exact ⟨en_of (impl_mod_en _ _) ⟨rfl, rfl⟩, (impl_mod_ev n _ _ κ).trans hr0⟩
    · cases hr

/-! loop.example/g01297/impl.bezout -/
def impl_bezout_sh : List SkD := [.int .i64, .int .i64]
def impl_bezout_runG {α : Type} (F : Nat → Int → Int → (Int → Option α) → Option α) (n : Nat) (p : List P1) (κ : Res → Option α) : Option α := match p with
  | [.int a, .int m] => F n a m (fun v1 => κ ⟨[.int .i64 v1], []⟩)
  | _ => none
def impl_bezout_run {α : Type} (n : Nat) (p : List P1) (κ : Res → Option α) : Option α := impl_bezout_runG impl_bezout n p κ
def impl_bezout_CG {α : Type} (F0 : Nat → Int → Int → (Int → Option α) → Option α) (n : Nat) : FuncId → List D → (Res → Option α) → Option α := tabC [(129, (byShape impl_mod_sh (impl_mod_runG F0 n)))]
def impl_bezout_C {α : Type} (n : Nat) : FuncId → List D → (Res → Option α) → Option α := impl_bezout_CG impl_mod n
def impl_bezout_M : FuncId → List Nat := tabM []
def impl_bezout_t2 : Tpl := ⟨[.any, .int .i64, .any, .any, .any, .int .i64, .int .i64, .int .i64, .int .i64, .any, .any, .any, .any, .any, .any, .any, .any, .any, .any, .any, .any, .any, .any, .any, .any, .any, .any, .any, .any, .any, .any, .any, .any, .any], [], []⟩
def impl_bezout_uG2 {α : Type} (G : Nat → Int → Int → Int → Int → Int → (Int → Int → Int → Int → Int → Option α) → (Int → Option α) → Option α) (n : Nat) (p : List P1) (brk : Nat → List P1 → Option α) (ret : Res → Option α) : Option α := match p with
  | [.int m1, .int r_, .int s, .int x, .int y] => G n m1 r_ s x y (fun m1 r_ s x y => brk 0 [.int m1, .int r_, .int s, .int x, .int y]) (fun v1 => ret ⟨[.int .i64 v1], []⟩)
  | _ => none
def impl_bezout_u2 {α : Type} (n : Nat) (p : List P1) (brk : Nat → List P1 → Option α) (ret : Res → Option α) : Option α := impl_bezout_uG2 impl_bezout_l2 n p brk ret
def impl_bezout_lpsG {α : Type} (G2 : Nat → Int → Int → Int → Int → Int → (Int → Int → Int → Int → Int → Option α) → (Int → Option α) → Option α) : List (LoopT α) := [⟨2, impl_bezout_t2, impl_bezout_uG2 G2⟩]
def impl_bezout_lps {α : Type} : List (LoopT α) := impl_bezout_lpsG impl_bezout_l2
def impl_bezout_XG {α : Type} (F0 : Nat → Int → Int → (Int → Option α) → Option α) (G2 : Nat → Int → Int → Int → Int → Int → (Int → Int → Int → Int → Int → Option α) → (Int → Option α) → Option α) (n : Nat) : Ctx α := ⟨impl_bezout_CG F0 n, impl_bezout_M, eqs, lpOf (impl_bezout_lpsG G2) n⟩
def impl_bezout_X {α : Type} (n : Nat) : Ctx α := impl_bezout_XG impl_mod impl_bezout_l2 n
def impl_bezout_Lt (np : Nat) (lent : List (Bool × Nat × Blk)) : Prop := np = 2 ∧ lent = []
def impl_bezout_lb2 {α : Type} (F0 : Nat → Int → Int → (Int → Option α) → Option α) (G2 : Nat → Int → Int → Int → Int → Int → (Int → Int → Int → Int → Int → Option α) → (Int → Option α) → Option α) (k : Nat) (m1 : Int) (r_ : Int) (s : Int) (x : Int) (y : Int) (b0 : Int → Int → Int → Int → Int → Option α) (r0 : Int → Option α) : Option α :=
  bif (!decide (s = 0)) then
    bif decide (s = 0) then
      none
    else
      G2 k m1 s (w64 (r_ - (w64 ((w64 (Int.tdiv r_ s)) * s)))) y (w64 (x - (w64 ((w64 (Int.tdiv r_ s)) * y)))) b0 r0
  else
    b0 m1 r_ s x y
theorem impl_bezout_l2_gen {α : Type} (F0 : Nat → Int → Int → (Int → Option α) → Option α) (G2 : Nat → Int → Int → Int → Int → Int → (Int → Int → Int → Int → Int → Option α) → (Int → Option α) → Option α) (n : Nat) (m1 : Int) (r_ : Int) (s : Int) (x : Int) (y : Int) (brk : Nat → List P1 → Option α) (ret : Res → Option α) : ev ((impl_bezout_XG F0 G2 n).env Try.prog Try.f148 2 []) (findLoop (loopsIn (Try.f148.body.getD .skip)) 2) ((impl_bezout_t2.build [.int m1, .int r_, .int s, .int x, .int y]).getD ⟨[], []⟩) (roundK (2 * 64) impl_bezout_t2 (fun q => impl_bezout_uG2 G2 n q brk ret) brk ret) = impl_bezout_lb2 F0 G2 n m1 r_ s x y (fun m1 r_ s x y => brk 0 [.int m1, .int r_, .int s, .int x, .int y]) (fun v1 => ret ⟨[.int .i64 v1], []⟩) := by kernel_rfl
theorem impl_bezout_l2_ev {α : Type} (n : Nat) (m1 : Int) (r_ : Int) (s : Int) (x : Int) (y : Int) (brk : Nat → List P1 → Option α) (ret : Res → Option α) : ev ((impl_bezout_X n).env Try.prog Try.f148 2 []) (findLoop (loopsIn (Try.f148.body.getD .skip)) 2) ((impl_bezout_t2.build [.int m1, .int r_, .int s, .int x, .int y]).getD ⟨[], []⟩) (roundK (2 * 64) impl_bezout_t2 (fun q => impl_bezout_u2 n q brk ret) brk ret) = impl_bezout_u2 (n + 1) [.int m1, .int r_, .int s, .int x, .int y] brk ret := (impl_bezout_l2_gen impl_mod impl_bezout_l2 n m1 r_ s x y brk ret).trans (by kernel_rfl)
def impl_bezout_body {α : Type} (F0 : Nat → Int → Int → (Int → Option α) → Option α) (G2 : Nat → Int → Int → Int → Int → Int → (Int → Int → Int → Int → Int → Option α) → (Int → Option α) → Option α) (k : Nat) (a : Int) (m : Int) (r0 : Int → Option α) : Option α :=
  F0 k a m fun v =>
  G2 k m v m 1 0
    (fun m2 r_1 s1 x1 y1 =>
      F0 k x1 m2 fun v1 =>
      r0 v1)
    r0
theorem impl_bezout_gen {α : Type} (F0 : Nat → Int → Int → (Int → Option α) → Option α) (G2 : Nat → Int → Int → Int → Int → Int → (Int → Int → Int → Int → Int → Option α) → (Int → Option α) → Option α) (n : Nat) (a : Int) (m : Int) (κ : Res → Option α) : evFn Try.prog (impl_bezout_XG F0 G2 n) Try.f148 (((buildDs impl_bezout_sh [.int a, .int m]).map Prod.fst).getD []) κ = impl_bezout_body F0 G2 n a m (fun v1 => κ ⟨[.int .i64 v1], []⟩) := by kernel_rfl
theorem impl_bezout_ev {α : Type} (n : Nat) (a : Int) (m : Int) (κ : Res → Option α) : evFn Try.prog (impl_bezout_X n) Try.f148 (((buildDs impl_bezout_sh [.int a, .int m]).map Prod.fst).getD []) κ = impl_bezout_run n [.int a, .int m] κ := (impl_bezout_gen impl_mod impl_bezout_l2 n a m κ).trans (by kernel_rfl)
theorem impl_bezout_en (a : Int) (m : Int) : (entry 0 (((buildDs impl_bezout_sh [.int a, .int m]).map Prod.fst).getD [])).map (fun x => (x.1.length, x.2.lent)) = some (2, []) := by kernel_rfl
theorem impl_bezout_good {α : Type} : ∀ n, GoodFn (α := α) Try.prog 148 (byShape impl_bezout_sh (impl_bezout_run n)) := by
  refine fn_good' Try.func148 (c := (Try.f148.body.getD .skip)) (by kernel_rfl) (by kernel_rfl) (by kernel_rfl) impl_bezout_C impl_bezout_M eqs impl_bezout_lps (fun n => tabC_good (List.forall_mem_cons.2 ⟨(impl_mod_good n), (fun _ h => absurd h List.not_mem_nil)⟩)) eqs_ok impl_bezout_Lt ?_ ?_ impl_bezout_sh impl_bezout_run ?_
  · refine List.forall_mem_cons.2 ⟨?_, (fun _ h => absurd h List.not_mem_nil)⟩
    · intro p brk ret; show impl_bezout_u2 0 p brk ret = none; unfold impl_bezout_u2 impl_bezout_uG2; split <;> rfl
  · refine List.forall_mem_cons.2 ⟨?_, (fun _ h => absurd h List.not_mem_nil)⟩
    · intro np lent hL n p brk ret st r hb hr
      obtain ⟨rfl, rfl⟩ := hL
      rw [← tpl_of hb]
      change impl_bezout_u2 (n + 1) p brk ret = some r at hr
      have hr0 := hr
      unfold impl_bezout_u2 impl_bezout_uG2 at hr
      split at hr
      · exact (impl_bezout_l2_ev n _ _ _ _ _ brk ret).trans hr0
      · cases hr
  · intro n p κ r ds hd hr
    have hr0 := hr
    unfold impl_bezout_run impl_bezout_runG at hr
    split at hr
    · rw [← ds_of hd]
      exact ⟨en_of (impl_bezout_en _ _) ⟨rfl, rfl⟩, (impl_bezout_ev n _ _ κ).trans hr0⟩
    · cases hr

/-! (loop.example/g01297/impl.Point).mate -/
def impl_Point_mate_sh : List SkD := [.agg [.int .i64, .int .i64]]
def impl_Point_mate_runG {α : Type} (F : Nat → Int → Int → (Int → Int → Option α) → Option α) (n : Nat) (p : List P1) (κ : Res → Option α) : Option α := match p with
  | [.int a, .int a1] => F n a a1 (fun v1 v2 => κ ⟨[.agg [.int .i64 v1, .int .i64 v2]], []⟩)
  | _ => none
def impl_Point_mate_run {α : Type} (n : Nat) (p : List P1) (κ : Res → Option α) : Option α := impl_Point_mate_runG impl_Point_mate n p κ
def impl_Point_mate_CG {α : Type} (F0 : Nat → Int → (Int → Option α) → Option α) (F1 : Nat → Int → Int → (Int → Option α) → Option α) (F2 : Nat → Int → Int → (Int → Option α) → Option α) (n : Nat) : FuncId → List D → (Res → Option α) → Option α := tabC [(116, (byShape impl_size_sh (impl_size_runG F0 n))), (148, (byShape impl_bezout_sh (impl_bezout_runG F1 n))), (129, (byShape impl_mod_sh (impl_mod_runG F2 n)))]
def impl_Point_mate_C {α : Type} (n : Nat) : FuncId → List D → (Res → Option α) → Option α := impl_Point_mate_CG impl_size impl_bezout impl_mod n
def impl_Point_mate_M : FuncId → List Nat := tabM []
def impl_Point_mate_lpsG {α : Type}  : List (LoopT α) := []
def impl_Point_mate_lps {α : Type} : List (LoopT α) := impl_Point_mate_lpsG
def impl_Point_mate_XG {α : Type} (F0 : Nat → Int → (Int → Option α) → Option α) (F1 : Nat → Int → Int → (Int → Option α) → Option α) (F2 : Nat → Int → Int → (Int → Option α) → Option α)  (n : Nat) : Ctx α := ⟨impl_Point_mate_CG F0 F1 F2 n, impl_Point_mate_M, eqs, lpOf (impl_Point_mate_lpsG) n⟩
def impl_Point_mate_X {α : Type} (n : Nat) : Ctx α := impl_Point_mate_XG impl_size impl_bezout impl_mod n
def impl_Point_mate_Lt (np : Nat) (lent : List (Bool × Nat × Blk)) : Prop := np = 1 ∧ lent = []
def impl_Point_mate_body {α : Type} (F0 : Nat → Int → (Int → Option α) → Option α) (F1 : Nat → Int → Int → (Int → Option α) → Option α) (F2 : Nat → Int → Int → (Int → Option α) → Option α)  (k : Nat) (a : Int) (a1 : Int) (r0 : Int → Int → Option α) : Option α :=
  bif decide (a = 0) then
    r0 (w64 (0 - a1)) 0
  else
    F0 k a fun v =>
    F1 k a1 v fun v1 =>
    F0 k a fun v2 =>
    F2 k (w64 (0 - v1)) v2 fun v3 =>
    bif decide (a = 0) then
      none
    else
      r0 v3 (w64 (Int.tdiv (w64 (1 + (w64 (a1 * v3)))) a))
theorem impl_Point_mate_gen {α : Type} (F0 : Nat → Int → (Int → Option α) → Option α) (F1 : Nat → Int → Int → (Int → Option α) → Option α) (F2 : Nat → Int → Int → (Int → Option α) → Option α)  (n : Nat) (a : Int) (a1 : Int) (κ : Res → Option α) : evFn Try.prog (impl_Point_mate_XG F0 F1 F2 n) Try.f131 (((buildDs impl_Point_mate_sh [.int a, .int a1]).map Prod.fst).getD []) κ = impl_Point_mate_body F0 F1 F2 n a a1 (fun v1 v2 => κ ⟨[.agg [.int .i64 v1, .int .i64 v2]], []⟩) := by kernel_rfl
theorem impl_Point_mate_ev {α : Type} (n : Nat) (a : Int) (a1 : Int) (κ : Res → Option α) : evFn Try.prog (impl_Point_mate_X n) Try.f131 (((buildDs impl_Point_mate_sh [.int a, .int a1]).map Prod.fst).getD []) κ = impl_Point_mate_run n [.int a, .int a1] κ := (impl_Point_mate_gen impl_size impl_bezout impl_mod n a a1 κ).trans (by kernel_rfl)
theorem impl_Point_mate_en (a : Int) (a1 : Int) : (entry 0 (((buildDs impl_Point_mate_sh [.int a, .int a1]).map Prod.fst).getD [])).map (fun x => (x.1.length, x.2.lent)) = some (1, []) := by kernel_rfl
theorem impl_Point_mate_good {α : Type} : ∀ n, GoodFn (α := α) Try.prog 131 (byShape impl_Point_mate_sh (impl_Point_mate_run n)) := by
  refine fn_good' Try.func131 (c := (Try.f131.body.getD .skip)) (by kernel_rfl) (by kernel_rfl) (by kernel_rfl) impl_Point_mate_C impl_Point_mate_M eqs impl_Point_mate_lps (fun n => tabC_good (List.forall_mem_cons.2 ⟨(impl_size_good n), (List.forall_mem_cons.2 ⟨(impl_bezout_good n), (List.forall_mem_cons.2 ⟨(impl_mod_good n), (fun _ h => absurd h List.not_mem_nil)⟩)⟩)⟩)) eqs_ok impl_Point_mate_Lt ?_ ?_ impl_Point_mate_sh impl_Point_mate_run ?_
  · exact (fun _ h => absurd h List.not_mem_nil)
  · exact (fun _ h => absurd h List.not_mem_nil)
  · intro n p κ r ds hd hr
    have hr0 := hr
    unfold impl_Point_mate_run impl_Point_mate_runG at hr
    split at hr
    · rw [← ds_of hd]
      exact ⟨en_of (impl_Point_mate_en _ _) ⟨rfl, rfl⟩, (impl_Point_mate_ev n _ _ κ).trans hr0⟩
    · cases hr

/-! (loop.example/g01297/impl.Triangle).shape -/
def impl_Triangle_shape_sh : List SkD := [.agg [.int .i64, .int .i64, .int .i64, .int .i64, .int .i64, .int .i64], .int .i64, .int .i64]
def impl_Triangle_shape_runG {α : Type} (F : Nat → Int → Int → Int → Int → Int → Int → Int → Int → (Int → Int → Int → Option α) → Option α) (n : Nat) (p : List P1) (κ : Res → Option α) : Option α := match p with
  | [.int t, .int t1, .int t2, .int t3, .int t4, .int t5, .int i, .int j] => F n t t1 t2 t3 t4 t5 i j (fun v1 v2 v3 => κ ⟨[.agg [.int .i64 v1, .int .i64 v2, .int .i64 v3]], []⟩)
  | _ => none
def impl_Triangle_shape_run {α : Type} (n : Nat) (p : List P1) (κ : Res → Option α) : Option α := impl_Triangle_shape_runG impl_Triangle_shape n p κ
def impl_Triangle_shape_CG {α : Type} (F0 : Nat → Int → Int → Int → Int → Int → Int → Int → Int → (Int → Int → Option α) → Option α) (F1 : Nat → Int → Int → (Int → Option α) → Option α) (F2 : Nat → Int → Int → Int → Int → Int → Int → (Int → Option α) → Option α) (F3 : Nat → Int → Int → (Int → Int → Option α) → Option α) (F4 : Nat → Int → Int → (Int → Int → Option α) → Option α) (F5 : Nat → Int → Int → Int → Int → (Int → Option α) → Option α) (F6 : Nat → Int → Int → (Int → Option α) → Option α) (n : Nat) : FuncId → List D → (Res → Option α) → Option α := tabC [(126, (byShape impl_Triangle_side_sh (impl_Triangle_side_runG F0 n))), (127, (byShape impl_Point_length_sh (impl_Point_length_runG F1 n))), (128, (byShape impl_Triangle_area_sh (impl_Triangle_area_runG F2 n))), (130, (byShape impl_Point_primitive_sh (impl_Point_primitive_runG F3 n))), (131, (byShape impl_Point_mate_sh (impl_Point_mate_runG F4 n))), (115, (byShape impl_det_sh (impl_det_runG F5 n))), (129, (byShape impl_mod_sh (impl_mod_runG F6 n)))]
def impl_Triangle_shape_C {α : Type} (n : Nat) : FuncId → List D → (Res → Option α) → Option α := impl_Triangle_shape_CG impl_Triangle_side impl_Point_length impl_Triangle_area impl_Point_primitive impl_Point_mate impl_det impl_mod n
def impl_Triangle_shape_M : FuncId → List Nat := tabM []
def impl_Triangle_shape_lpsG {α : Type}  : List (LoopT α) := []
def impl_Triangle_shape_lps {α : Type} : List (LoopT α) := impl_Triangle_shape_lpsG
def impl_Triangle_shape_XG {α : Type} (F0 : Nat → Int → Int → Int → Int → Int → Int → Int → Int → (Int → Int → Option α) → Option α) (F1 : Nat → Int → Int → (Int → Option α) → Option α) (F2 : Nat → Int → Int → Int → Int → Int → Int → (Int → Option α) → Option α) (F3 : Nat → Int → Int → (Int → Int → Option α) → Option α) (F4 : Nat → Int → Int → (Int → Int → Option α) → Option α) (F5 : Nat → Int → Int → Int → Int → (Int → Option α) → Option α) (F6 : Nat → Int → Int → (Int → Option α) → Option α)  (n : Nat) : Ctx α := ⟨impl_Triangle_shape_CG F0 F1 F2 F3 F4 F5 F6 n, impl_Triangle_shape_M, eqs, lpOf (impl_Triangle_shape_lpsG) n⟩
def impl_Triangle_shape_X {α : Type} (n : Nat) : Ctx α := impl_Triangle_shape_XG impl_Triangle_side impl_Point_length impl_Triangle_area impl_Point_primitive impl_Point_mate impl_det impl_mod n
def impl_Triangle_shape_Lt (np : Nat) (lent : List (Bool × Nat × Blk)) : Prop := np = 3 ∧ lent = []
def impl_Triangle_shape_body {α : Type} (F0 : Nat → Int → Int → Int → Int → Int → Int → Int → Int → (Int → Int → Option α) → Option α) (F1 : Nat → Int → Int → (Int → Option α) → Option α) (F2 : Nat → Int → Int → Int → Int → Int → Int → (Int → Option α) → Option α) (F3 : Nat → Int → Int → (Int → Int → Option α) → Option α) (F4 : Nat → Int → Int → (Int → Int → Option α) → Option α) (F5 : Nat → Int → Int → Int → Int → (Int → Option α) → Option α) (F6 : Nat → Int → Int → (Int → Option α) → Option α)  (k : Nat) (t : Int) (t1 : Int) (t2 : Int) (t3 : Int) (t4 : Int) (t5 : Int) (i : Int) (j : Int) (r0 : Int → Int → Int → Option α) : Option α :=
  F0 k t t1 t2 t3 t4 t5 i j fun v v1 =>
  F0 k t t1 t2 t3 t4 t5 i (w64 ((w64 (3 - i)) - j)) fun v2 v3 =>
  F1 k v v1 fun v4 =>
  F2 k t t1 t2 t3 t4 t5 fun v5 =>
  bif decide (v4 = 0) then
    none
  else
    F3 k v v1 fun v6 v7 =>
    F4 k v6 v7 fun v8 v9 =>
    F5 k v2 v3 v8 v9 fun v10 =>
    F6 k v10 (w64 (Int.tdiv v5 v4)) fun v11 =>
    r0 v4 v11 (w64 (Int.tdiv v5 v4))
theorem impl_Triangle_shape_gen {α : Type} (F0 : Nat → Int → Int → Int → Int → Int → Int → Int → Int → (Int → Int → Option α) → Option α) (F1 : Nat → Int → Int → (Int → Option α) → Option α) (F2 : Nat → Int → Int → Int → Int → Int → Int → (Int → Option α) → Option α) (F3 : Nat → Int → Int → (Int → Int → Option α) → Option α) (F4 : Nat → Int → Int → (Int → Int → Option α) → Option α) (F5 : Nat → Int → Int → Int → Int → (Int → Option α) → Option α) (F6 : Nat → Int → Int → (Int → Option α) → Option α)  (n : Nat) (t : Int) (t1 : Int) (t2 : Int) (t3 : Int) (t4 : Int) (t5 : Int) (i : Int) (j : Int) (κ : Res → Option α) : evFn Try.prog (impl_Triangle_shape_XG F0 F1 F2 F3 F4 F5 F6 n) Try.f77 (((buildDs impl_Triangle_shape_sh [.int t, .int t1, .int t2, .int t3, .int t4, .int t5, .int i, .int j]).map Prod.fst).getD []) κ = impl_Triangle_shape_body F0 F1 F2 F3 F4 F5 F6 n t t1 t2 t3 t4 t5 i j (fun v1 v2 v3 => κ ⟨[.agg [.int .i64 v1, .int .i64 v2, .int .i64 v3]], []⟩) := by kernel_rfl
theorem impl_Triangle_shape_ev {α : Type} (n : Nat) (t : Int) (t1 : Int) (t2 : Int) (t3 : Int) (t4 : Int) (t5 : Int) (i : Int) (j : Int) (κ : Res → Option α) : evFn Try.prog (impl_Triangle_shape_X n) Try.f77 (((buildDs impl_Triangle_shape_sh [.int t, .int t1, .int t2, .int t3, .int t4, .int t5, .int i, .int j]).map Prod.fst).getD []) κ = impl_Triangle_shape_run n [.int t, .int t1, .int t2, .int t3, .int t4, .int t5, .int i, .int j] κ := (impl_Triangle_shape_gen impl_Triangle_side impl_Point_length impl_Triangle_area impl_Point_primitive impl_Point_mate impl_det impl_mod n t t1 t2 t3 t4 t5 i j κ).trans (by kernel_rfl)
theorem impl_Triangle_shape_en (t : Int) (t1 : Int) (t2 : Int) (t3 : Int) (t4 : Int) (t5 : Int) (i : Int) (j : Int) : (entry 0 (((buildDs impl_Triangle_shape_sh [.int t, .int t1, .int t2, .int t3, .int t4, .int t5, .int i, .int j]).map Prod.fst).getD [])).map (fun x => (x.1.length, x.2.lent)) = some (3, []) := by kernel_rfl
theorem impl_Triangle_shape_good {α : Type} : ∀ n, GoodFn (α := α) Try.prog 77 (byShape impl_Triangle_shape_sh (impl_Triangle_shape_run n)) := by
  refine fn_good' Try.func77 (c := (Try.f77.body.getD .skip)) (by kernel_rfl) (by kernel_rfl) (by kernel_rfl) impl_Triangle_shape_C impl_Triangle_shape_M eqs impl_Triangle_shape_lps (fun n => tabC_good (List.forall_mem_cons.2 ⟨(impl_Triangle_side_good n), (List.forall_mem_cons.2 ⟨(impl_Point_length_good n), (List.forall_mem_cons.2 ⟨(impl_Triangle_area_good n), (List.forall_mem_cons.2 ⟨(impl_Point_primitive_good n), (List.forall_mem_cons.2 ⟨(impl_Point_mate_good n), (List.forall_mem_cons.2 ⟨(impl_det_good n), (List.forall_mem_cons.2 ⟨(impl_mod_good n), (fun _ h => absurd h List.not_mem_nil)⟩)⟩)⟩)⟩)⟩)⟩)⟩)) eqs_ok impl_Triangle_shape_Lt ?_ ?_ impl_Triangle_shape_sh impl_Triangle_shape_run ?_
  · exact (fun _ h => absurd h List.not_mem_nil)
  · exact (fun _ h => absurd h List.not_mem_nil)
  · intro n p κ r ds hd hr
    have hr0 := hr
    unfold impl_Triangle_shape_run impl_Triangle_shape_runG at hr
    split at hr
    · rw [← ds_of hd]
      exact ⟨en_of (impl_Triangle_shape_en _ _ _ _ _ _ _ _) ⟨rfl, rfl⟩, (impl_Triangle_shape_ev n _ _ _ _ _ _ _ _ κ).trans hr0⟩
    · cases hr

/-! loop.example/g01297/impl.ShapeOf -/
def impl_ShapeOf_sh : List SkD := [.agg [.int .i64, .int .i64, .int .i64, .int .i64, .int .i64, .int .i64], .int .i64, .int .i64]
def impl_ShapeOf_runG {α : Type} (F : Nat → Int → Int → Int → Int → Int → Int → Int → Int → (Int → Int → Int → Int → Option α) → Option α) (n : Nat) (p : List P1) (κ : Res → Option α) : Option α := match p with
  | [.int t, .int t1, .int t2, .int t3, .int t4, .int t5, .int i, .int j] => F n t t1 t2 t3 t4 t5 i j (fun v1 v2 v3 v4 => κ ⟨[.agg [.int .i64 v1, .int .i64 v2, .int .i64 v3], .int .i64 v4], []⟩)
  | _ => none
def impl_ShapeOf_run {α : Type} (n : Nat) (p : List P1) (κ : Res → Option α) : Option α := impl_ShapeOf_runG impl_ShapeOf n p κ
def impl_ShapeOf_CG {α : Type} (F0 : Nat → Int → Int → Int → Int → Int → Int → (Bool → Option α) → Option α) (F1 : Nat → Int → Int → Int → (Bool → Option α) → Option α) (F2 : Nat → Int → Int → Int → Int → Int → Int → Int → Int → (Int → Int → Int → Option α) → Option α) (n : Nat) : FuncId → List D → (Res → Option α) → Option α := tabC [(75, (byShape impl_IsTriangle_sh (impl_IsTriangle_runG F0 n))), (76, (byShape impl_in_sh (impl_in_runG F1 n))), (77, (byShape impl_Triangle_shape_sh (impl_Triangle_shape_runG F2 n)))]
def impl_ShapeOf_C {α : Type} (n : Nat) : FuncId → List D → (Res → Option α) → Option α := impl_ShapeOf_CG impl_IsTriangle impl_in impl_Triangle_shape n
def impl_ShapeOf_M : FuncId → List Nat := tabM []
def impl_ShapeOf_lpsG {α : Type}  : List (LoopT α) := []
def impl_ShapeOf_lps {α : Type} : List (LoopT α) := impl_ShapeOf_lpsG
def impl_ShapeOf_XG {α : Type} (F0 : Nat → Int → Int → Int → Int → Int → Int → (Bool → Option α) → Option α) (F1 : Nat → Int → Int → Int → (Bool → Option α) → Option α) (F2 : Nat → Int → Int → Int → Int → Int → Int → Int → Int → (Int → Int → Int → Option α) → Option α)  (n : Nat) : Ctx α := ⟨impl_ShapeOf_CG F0 F1 F2 n, impl_ShapeOf_M, eqs, lpOf (impl_ShapeOf_lpsG) n⟩
def impl_ShapeOf_X {α : Type} (n : Nat) : Ctx α := impl_ShapeOf_XG impl_IsTriangle impl_in impl_Triangle_shape n
def impl_ShapeOf_Lt (np : Nat) (lent : List (Bool × Nat × Blk)) : Prop := np = 3 ∧ lent = []
def impl_ShapeOf_body {α : Type} (F0 : Nat → Int → Int → Int → Int → Int → Int → (Bool → Option α) → Option α) (F1 : Nat → Int → Int → Int → (Bool → Option α) → Option α) (F2 : Nat → Int → Int → Int → Int → Int → Int → Int → Int → (Int → Int → Int → Option α) → Option α)  (k : Nat) (t : Int) (t1 : Int) (t2 : Int) (t3 : Int) (t4 : Int) (t5 : Int) (i : Int) (j : Int) (r0 : Int → Int → Int → Int → Option α) : Option α :=
  F0 k t t1 t2 t3 t4 t5 fun v =>
  bif (!v) then
    r0 0 0 0 1
  else
    F1 k i 0 2 fun v1 =>
    bif (!v1) then
      r0 0 0 0 2
    else
      F1 k j 0 2 fun v2 =>
      bif (!v2) then
        r0 0 0 0 2
      else
      bif decide (i = j) then
        r0 0 0 0 2
      else
        F2 k t t1 t2 t3 t4 t5 i j fun v3 v4 v5 =>
        r0 v3 v4 v5 0
theorem impl_ShapeOf_gen {α : Type} (F0 : Nat → Int → Int → Int → Int → Int → Int → (Bool → Option α) → Option α) (F1 : Nat → Int → Int → Int → (Bool → Option α) → Option α) (F2 : Nat → Int → Int → Int → Int → Int → Int → Int → Int → (Int → Int → Int → Option α) → Option α)  (n : Nat) (t : Int) (t1 : Int) (t2 : Int) (t3 : Int) (t4 : Int) (t5 : Int) (i : Int) (j : Int) (κ : Res → Option α) : evFn Try.prog (impl_ShapeOf_XG F0 F1 F2 n) Try.f30 (((buildDs impl_ShapeOf_sh [.int t, .int t1, .int t2, .int t3, .int t4, .int t5, .int i, .int j]).map Prod.fst).getD []) κ = impl_ShapeOf_body F0 F1 F2 n t t1 t2 t3 t4 t5 i j (fun v1 v2 v3 v4 => κ ⟨[.agg [.int .i64 v1, .int .i64 v2, .int .i64 v3], .int .i64 v4], []⟩) := by kernel_rfl
theorem impl_ShapeOf_ev {α : Type} (n : Nat) (t : Int) (t1 : Int) (t2 : Int) (t3 : Int) (t4 : Int) (t5 : Int) (i : Int) (j : Int) (κ : Res → Option α) : evFn Try.prog (impl_ShapeOf_X n) Try.f30 (((buildDs impl_ShapeOf_sh [.int t, .int t1, .int t2, .int t3, .int t4, .int t5, .int i, .int j]).map Prod.fst).getD []) κ = impl_ShapeOf_run n [.int t, .int t1, .int t2, .int t3, .int t4, .int t5, .int i, .int j] κ := (impl_ShapeOf_gen impl_IsTriangle impl_in impl_Triangle_shape n t t1 t2 t3 t4 t5 i j κ).trans (by kernel_rfl)
theorem impl_ShapeOf_en (t : Int) (t1 : Int) (t2 : Int) (t3 : Int) (t4 : Int) (t5 : Int) (i : Int) (j : Int) : (entry 0 (((buildDs impl_ShapeOf_sh [.int t, .int t1, .int t2, .int t3, .int t4, .int t5, .int i, .int j]).map Prod.fst).getD [])).map (fun x => (x.1.length, x.2.lent)) = some (3, []) := by kernel_rfl
theorem impl_ShapeOf_good {α : Type} : ∀ n, GoodFn (α := α) Try.prog 30 (byShape impl_ShapeOf_sh (impl_ShapeOf_run n)) := by
  refine fn_good' Try.func30 (c := (Try.f30.body.getD .skip)) (by kernel_rfl) (by kernel_rfl) (by kernel_rfl) impl_ShapeOf_C impl_ShapeOf_M eqs impl_ShapeOf_lps (fun n => tabC_good (List.forall_mem_cons.2 ⟨(impl_IsTriangle_good n), (List.forall_mem_cons.2 ⟨(impl_in_good n), (List.forall_mem_cons.2 ⟨(impl_Triangle_shape_good n), (fun _ h => absurd h List.not_mem_nil)⟩)⟩)⟩)) eqs_ok impl_ShapeOf_Lt ?_ ?_ impl_ShapeOf_sh impl_ShapeOf_run ?_
  · exact (fun _ h => absurd h List.not_mem_nil)
  · exact (fun _ h => absurd h List.not_mem_nil)
  · intro n p κ r ds hd hr
    have hr0 := hr
    unfold impl_ShapeOf_run impl_ShapeOf_runG at hr
    split at hr
    · rw [← ds_of hd]
      exact ⟨en_of (impl_ShapeOf_en _ _ _ _ _ _ _ _) ⟨rfl, rfl⟩, (impl_ShapeOf_ev n _ _ _ _ _ _ _ _ κ).trans hr0⟩
    · cases hr

/-! loop.example/g01297/laws.eqShape -/
def laws_eqShape_sh : List SkD := [.agg [.int .i64, .int .i64, .int .i64], .agg [.int .i64, .int .i64, .int .i64]]
def laws_eqShape_runG {α : Type} (F : Nat → Int → Int → Int → Int → Int → Int → (Bool → Option α) → Option α) (n : Nat) (p : List P1) (κ : Res → Option α) : Option α := match p with
  | [.int a, .int a1, .int a2, .int b_, .int b_1, .int b_2] => F n a a1 a2 b_ b_1 b_2 (fun v1 => κ ⟨[.bool v1], []⟩)
  | _ => none
def laws_eqShape_run {α : Type} (n : Nat) (p : List P1) (κ : Res → Option α) : Option α := laws_eqShape_runG laws_eqShape n p κ
def laws_eqShape_CG {α : Type}  (n : Nat) : FuncId → List D → (Res → Option α) → Option α := tabC []
def laws_eqShape_C {α : Type} (n : Nat) : FuncId → List D → (Res → Option α) → Option α := laws_eqShape_CG n
def laws_eqShape_M : FuncId → List Nat := tabM []
def laws_eqShape_lpsG {α : Type}  : List (LoopT α) := []
def laws_eqShape_lps {α : Type} : List (LoopT α) := laws_eqShape_lpsG
def laws_eqShape_XG {α : Type}   (n : Nat) : Ctx α := ⟨laws_eqShape_CG n, laws_eqShape_M, eqs, lpOf (laws_eqShape_lpsG) n⟩
def laws_eqShape_X {α : Type} (n : Nat) : Ctx α := laws_eqShape_XG n
def laws_eqShape_Lt (np : Nat) (lent : List (Bool × Nat × Blk)) : Prop := np = 2 ∧ lent = []
def laws_eqShape_body {α : Type}   (k : Nat) (a : Int) (a1 : Int) (a2 : Int) (b_ : Int) (b_1 : Int) (b_2 : Int) (r0 : Bool → Option α) : Option α :=
  bif (!decide (a = b_)) then
    r0 false
  else
  bif (!decide (a1 = b_1)) then
    r0 false
  else
  bif (!decide (a2 = b_2)) then
    r0 false
  else
    r0 true
theorem laws_eqShape_gen {α : Type}   (n : Nat) (a : Int) (a1 : Int) (a2 : Int) (b_ : Int) (b_1 : Int) (b_2 : Int) (κ : Res → Option α) : evFn Try.prog (laws_eqShape_XG n) Try.f31 (((buildDs laws_eqShape_sh [.int a, .int a1, .int a2, .int b_, .int b_1, .int b_2]).map Prod.fst).getD []) κ = laws_eqShape_body n a a1 a2 b_ b_1 b_2 (fun v1 => κ ⟨[.bool v1], []⟩) := by kernel_rfl
theorem laws_eqShape_ev {α : Type} (n : Nat) (a : Int) (a1 : Int) (a2 : Int) (b_ : Int) (b_1 : Int) (b_2 : Int) (κ : Res → Option α) : evFn Try.prog (laws_eqShape_X n) Try.f31 (((buildDs laws_eqShape_sh [.int a, .int a1, .int a2, .int b_, .int b_1, .int b_2]).map Prod.fst).getD []) κ = laws_eqShape_run n [.int a, .int a1, .int a2, .int b_, .int b_1, .int b_2] κ := (laws_eqShape_gen n a a1 a2 b_ b_1 b_2 κ).trans (by kernel_rfl)
theorem laws_eqShape_en (a : Int) (a1 : Int) (a2 : Int) (b_ : Int) (b_1 : Int) (b_2 : Int) : (entry 0 (((buildDs laws_eqShape_sh [.int a, .int a1, .int a2, .int b_, .int b_1, .int b_2]).map Prod.fst).getD [])).map (fun x => (x.1.length, x.2.lent)) = some (2, []) := by kernel_rfl
theorem laws_eqShape_good {α : Type} : ∀ n, GoodFn (α := α) Try.prog 31 (byShape laws_eqShape_sh (laws_eqShape_run n)) := by
  refine fn_good' Try.func31 (c := (Try.f31.body.getD .skip)) (by kernel_rfl) (by kernel_rfl) (by kernel_rfl) laws_eqShape_C laws_eqShape_M eqs laws_eqShape_lps (fun n => tabC_good (fun _ h => absurd h List.not_mem_nil)) eqs_ok laws_eqShape_Lt ?_ ?_ laws_eqShape_sh laws_eqShape_run ?_
  · exact (fun _ h => absurd h List.not_mem_nil)
  · exact (fun _ h => absurd h List.not_mem_nil)
  · intro n p κ r ds hd hr
    have hr0 := hr
    unfold laws_eqShape_run laws_eqShape_runG at hr
    split at hr
    · rw [← ds_of hd]
      exact ⟨en_of (laws_eqShape_en _ _ _ _ _ _) ⟨rfl, rfl⟩, (laws_eqShape_ev n _ _ _ _ _ _ κ).trans hr0⟩
    · cases hr

end Go.Proofs.Ytnfpidnnmgedfaa
