/- The program's functions hold to their readings without memory: printed by a program of ours. -/
import Derived.Test.YtnfpidnnmgedfaaSeXInnerPoints
namespace Go.Proofs.Ytnfpidnnmgedfaa
open Go Go.Ev Go.Sh Go.Proofs

/-! loop.example/g01297/laws.toPoint -/
def laws_toPoint_sh : List SkD := [.agg [.int .i64, .int .i64]]
def laws_toPoint_runG {α : Type} (F : Nat → Int → Int → (Int → Int → Option α) → Option α) (n : Nat) (p : List P1) (κ : Res → Option α) : Option α := match p with
  | [.int a, .int a1] => F n a a1 (fun v1 v2 => κ ⟨[.agg [.int .i64 v1, .int .i64 v2]], []⟩)
  | _ => none
def laws_toPoint_run {α : Type} (n : Nat) (p : List P1) (κ : Res → Option α) : Option α := laws_toPoint_runG laws_toPoint n p κ
def laws_toPoint_CG {α : Type}  (n : Nat) : FuncId → List D → (Res → Option α) → Option α := tabC []
def laws_toPoint_C {α : Type} (n : Nat) : FuncId → List D → (Res → Option α) → Option α := laws_toPoint_CG n
def laws_toPoint_M : FuncId → List Nat := tabM []
def laws_toPoint_lpsG {α : Type}  : List (LoopT α) := []
def laws_toPoint_lps {α : Type} : List (LoopT α) := laws_toPoint_lpsG
def laws_toPoint_XG {α : Type}   (n : Nat) : Ctx α := ⟨laws_toPoint_CG n, laws_toPoint_M, eqs, lpOf (laws_toPoint_lpsG) n⟩
def laws_toPoint_X {α : Type} (n : Nat) : Ctx α := laws_toPoint_XG n
def laws_toPoint_Lt (np : Nat) (lent : List (Bool × Nat × Blk)) : Prop := np = 1 ∧ lent = []
def laws_toPoint_body {α : Type}   (k : Nat) (a : Int) (a1 : Int) (r0 : Int → Int → Option α) : Option α :=
  r0 a a1
theorem laws_toPoint_gen {α : Type}   (n : Nat) (a : Int) (a1 : Int) (κ : Res → Option α) : evFn Try.prog (laws_toPoint_XG n) Try.f19 (((buildDs laws_toPoint_sh [.int a, .int a1]).map Prod.fst).getD []) κ = laws_toPoint_body n a a1 (fun v1 v2 => κ ⟨[.agg [.int .i64 v1, .int .i64 v2]], []⟩) := by kernel_rfl
theorem laws_toPoint_ev {α : Type} (n : Nat) (a : Int) (a1 : Int) (κ : Res → Option α) : evFn Try.prog (laws_toPoint_X n) Try.f19 (((buildDs laws_toPoint_sh [.int a, .int a1]).map Prod.fst).getD []) κ = laws_toPoint_run n [.int a, .int a1] κ := (laws_toPoint_gen n a a1 κ).trans (by kernel_rfl)
theorem laws_toPoint_en (a : Int) (a1 : Int) : (entry 0 (((buildDs laws_toPoint_sh [.int a, .int a1]).map Prod.fst).getD [])).map (fun x => (x.1.length, x.2.lent)) = some (1, []) := by kernel_rfl
theorem laws_toPoint_good {α : Type} : ∀ n, GoodFn (α := α) Try.prog 19 (byShape laws_toPoint_sh (laws_toPoint_run n)) := by
  refine fn_good' Try.func19 (c := (Try.f19.body.getD .skip)) (by kernel_rfl) (by kernel_rfl) (by kernel_rfl) laws_toPoint_C laws_toPoint_M eqs laws_toPoint_lps (fun n => tabC_good (fun _ h => absurd h List.not_mem_nil)) eqs_ok laws_toPoint_Lt ?_ ?_ laws_toPoint_sh laws_toPoint_run ?_
  · exact (fun _ h => absurd h List.not_mem_nil)
  · exact (fun _ h => absurd h List.not_mem_nil)
  · intro n p κ r ds hd hr
    have hr0 := hr
    unfold laws_toPoint_run laws_toPoint_runG at hr
    split at hr
    · rw [← ds_of hd]
      exact ⟨en_of (laws_toPoint_en _ _) ⟨rfl, rfl⟩, (laws_toPoint_ev n _ _ κ).trans hr0⟩
    · cases hr

/-! loop.example/g01297/laws.toTriangle -/
def laws_toTriangle_sh : List SkD := [.agg [.int .i64, .int .i64, .int .i64, .int .i64, .int .i64, .int .i64]]
def laws_toTriangle_runG {α : Type} (F : Nat → Int → Int → Int → Int → Int → Int → (Int → Int → Int → Int → Int → Int → Option α) → Option α) (n : Nat) (p : List P1) (κ : Res → Option α) : Option α := match p with
  | [.int a, .int a1, .int a2, .int a3, .int a4, .int a5] => F n a a1 a2 a3 a4 a5 (fun v1 v2 v3 v4 v5 v6 => κ ⟨[.agg [.int .i64 v1, .int .i64 v2, .int .i64 v3, .int .i64 v4, .int .i64 v5, .int .i64 v6]], []⟩)
  | _ => none
def laws_toTriangle_run {α : Type} (n : Nat) (p : List P1) (κ : Res → Option α) : Option α := laws_toTriangle_runG laws_toTriangle n p κ
def laws_toTriangle_CG {α : Type} (F0 : Nat → Int → Int → (Int → Int → Option α) → Option α) (n : Nat) : FuncId → List D → (Res → Option α) → Option α := tabC [(19, (byShape laws_toPoint_sh (laws_toPoint_runG F0 n)))]
def laws_toTriangle_C {α : Type} (n : Nat) : FuncId → List D → (Res → Option α) → Option α := laws_toTriangle_CG laws_toPoint n
def laws_toTriangle_M : FuncId → List Nat := tabM []
def laws_toTriangle_lpsG {α : Type}  : List (LoopT α) := []
def laws_toTriangle_lps {α : Type} : List (LoopT α) := laws_toTriangle_lpsG
def laws_toTriangle_XG {α : Type} (F0 : Nat → Int → Int → (Int → Int → Option α) → Option α)  (n : Nat) : Ctx α := ⟨laws_toTriangle_CG F0 n, laws_toTriangle_M, eqs, lpOf (laws_toTriangle_lpsG) n⟩
def laws_toTriangle_X {α : Type} (n : Nat) : Ctx α := laws_toTriangle_XG laws_toPoint n
def laws_toTriangle_Lt (np : Nat) (lent : List (Bool × Nat × Blk)) : Prop := np = 1 ∧ lent = []
def laws_toTriangle_body {α : Type} (F0 : Nat → Int → Int → (Int → Int → Option α) → Option α)  (k : Nat) (a : Int) (a1 : Int) (a2 : Int) (a3 : Int) (a4 : Int) (a5 : Int) (r0 : Int → Int → Int → Int → Int → Int → Option α) : Option α :=
  F0 k a a1 fun v v1 =>
  F0 k a2 a3 fun v2 v3 =>
  F0 k a4 a5 fun v4 v5 =>
  r0 v v1 v2 v3 v4 v5
theorem laws_toTriangle_gen {α : Type} (F0 : Nat → Int → Int → (Int → Int → Option α) → Option α)  (n : Nat) (a : Int) (a1 : Int) (a2 : Int) (a3 : Int) (a4 : Int) (a5 : Int) (κ : Res → Option α) : evFn Try.prog (laws_toTriangle_XG F0 n) Try.f29 (((buildDs laws_toTriangle_sh [.int a, .int a1, .int a2, .int a3, .int a4, .int a5]).map Prod.fst).getD []) κ = laws_toTriangle_body F0 n a a1 a2 a3 a4 a5 (fun v1 v2 v3 v4 v5 v6 => κ ⟨[.agg [.int .i64 v1, .int .i64 v2, .int .i64 v3, .int .i64 v4, .int .i64 v5, .int .i64 v6]], []⟩) := by kernel_rfl
theorem laws_toTriangle_ev {α : Type} (n : Nat) (a : Int) (a1 : Int) (a2 : Int) (a3 : Int) (a4 : Int) (a5 : Int) (κ : Res → Option α) : evFn Try.prog (laws_toTriangle_X n) Try.f29 (((buildDs laws_toTriangle_sh [.int a, .int a1, .int a2, .int a3, .int a4, .int a5]).map Prod.fst).getD []) κ = laws_toTriangle_run n [.int a, .int a1, .int a2, .int a3, .int a4, .int a5] κ := (laws_toTriangle_gen laws_toPoint n a a1 a2 a3 a4 a5 κ).trans (by kernel_rfl)
theorem laws_toTriangle_en (a : Int) (a1 : Int) (a2 : Int) (a3 : Int) (a4 : Int) (a5 : Int) : (entry 0 (((buildDs laws_toTriangle_sh [.int a, .int a1, .int a2, .int a3, .int a4, .int a5]).map Prod.fst).getD [])).map (fun x => (x.1.length, x.2.lent)) = some (1, []) := by kernel_rfl
theorem laws_toTriangle_good {α : Type} : ∀ n, GoodFn (α := α) Try.prog 29 (byShape laws_toTriangle_sh (laws_toTriangle_run n)) := by
  refine fn_good' Try.func29 (c := (Try.f29.body.getD .skip)) (by kernel_rfl) (by kernel_rfl) (by kernel_rfl) laws_toTriangle_C laws_toTriangle_M eqs laws_toTriangle_lps (fun n => tabC_good (List.forall_mem_cons.2 ⟨(laws_toPoint_good n), (fun _ h => absurd h List.not_mem_nil)⟩)) eqs_ok laws_toTriangle_Lt ?_ ?_ laws_toTriangle_sh laws_toTriangle_run ?_
  · exact (fun _ h => absurd h List.not_mem_nil)
  · exact (fun _ h => absurd h List.not_mem_nil)
  · intro n p κ r ds hd hr
    have hr0 := hr
    unfold laws_toTriangle_run laws_toTriangle_runG at hr
    split at hr
    · rw [← ds_of hd]
      exact ⟨en_of (laws_toTriangle_en _ _ _ _ _ _) ⟨rfl, rfl⟩, (laws_toTriangle_ev n _ _ _ _ _ _ κ).trans hr0⟩
    · cases hr

/-! loop.example/g01297/spec.l01In -/
def spec_l01In_sh : List SkD := [.int .i64, .int .i64, .int .i64]
def spec_l01In_runG {α : Type} (F : Nat → Int → Int → Int → (Bool → Option α) → Option α) (n : Nat) (p : List P1) (κ : Res → Option α) : Option α := match p with
  | [.int n_, .int low, .int high] => F n n_ low high (fun v1 => κ ⟨[.bool v1], []⟩)
  | _ => none
def spec_l01In_run {α : Type} (n : Nat) (p : List P1) (κ : Res → Option α) : Option α := spec_l01In_runG spec_l01In n p κ
def spec_l01In_CG {α : Type}  (n : Nat) : FuncId → List D → (Res → Option α) → Option α := tabC []
def spec_l01In_C {α : Type} (n : Nat) : FuncId → List D → (Res → Option α) → Option α := spec_l01In_CG n
def spec_l01In_M : FuncId → List Nat := tabM []
def spec_l01In_lpsG {α : Type}  : List (LoopT α) := []
def spec_l01In_lps {α : Type} : List (LoopT α) := spec_l01In_lpsG
def spec_l01In_XG {α : Type}   (n : Nat) : Ctx α := ⟨spec_l01In_CG n, spec_l01In_M, eqs, lpOf (spec_l01In_lpsG) n⟩
def spec_l01In_X {α : Type} (n : Nat) : Ctx α := spec_l01In_XG n
def spec_l01In_Lt (np : Nat) (lent : List (Bool × Nat × Blk)) : Prop := np = 3 ∧ lent = []
def spec_l01In_body {α : Type}   (k : Nat) (n_ : Int) (low : Int) (high : Int) (r0 : Bool → Option α) : Option α :=
  bif decide (low ≤ n_) then
    r0 (decide (n_ ≤ high))
  else
    r0 false
theorem spec_l01In_gen {α : Type}   (n : Nat) (n_ : Int) (low : Int) (high : Int) (κ : Res → Option α) : evFn Try.prog (spec_l01In_XG n) Try.f73 (((buildDs spec_l01In_sh [.int n_, .int low, .int high]).map Prod.fst).getD []) κ = spec_l01In_body n n_ low high (fun v1 => κ ⟨[.bool v1], []⟩) := by kernel_rfl
theorem spec_l01In_ev {α : Type} (n : Nat) (n_ : Int) (low : Int) (high : Int) (κ : Res → Option α) : evFn Try.prog (spec_l01In_X n) Try.f73 (((buildDs spec_l01In_sh [.int n_, .int low, .int high]).map Prod.fst).getD []) κ = spec_l01In_run n [.int n_, .int low, .int high] κ := (spec_l01In_gen n n_ low high κ).trans (by kernel_rfl)
theorem spec_l01In_en (n_ : Int) (low : Int) (high : Int) : (entry 0 (((buildDs spec_l01In_sh [.int n_, .int low, .int high]).map Prod.fst).getD [])).map (fun x => (x.1.length, x.2.lent)) = some (3, []) := by kernel_rfl
theorem spec_l01In_good {α : Type} : ∀ n, GoodFn (α := α) Try.prog 73 (byShape spec_l01In_sh (spec_l01In_run n)) := by
  refine fn_good' Try.func73 (c := (Try.f73.body.getD .skip)) (by kernel_rfl) (by kernel_rfl) (by kernel_rfl) spec_l01In_C spec_l01In_M eqs spec_l01In_lps (fun n => tabC_good (fun _ h => absurd h List.not_mem_nil)) eqs_ok spec_l01In_Lt ?_ ?_ spec_l01In_sh spec_l01In_run ?_
  · exact (fun _ h => absurd h List.not_mem_nil)
  · exact (fun _ h => absurd h List.not_mem_nil)
  · intro n p κ r ds hd hr
    have hr0 := hr
    unfold spec_l01In_run spec_l01In_runG at hr
    split at hr
    · rw [← ds_of hd]
      exact ⟨en_of (spec_l01In_en _ _ _) ⟨rfl, rfl⟩, (spec_l01In_ev n _ _ _ κ).trans hr0⟩
    · cases hr

/-! loop.example/g01297/spec.l01Plus -/
def spec_l01Plus_sh : List SkD := [.agg [.int .i64, .int .i64], .agg [.int .i64, .int .i64], .int .i64]
def spec_l01Plus_runG {α : Type} (F : Nat → Int → Int → Int → Int → Int → (Int → Int → Option α) → Option α) (n : Nat) (p : List P1) (κ : Res → Option α) : Option α := match p with
  | [.int a, .int a1, .int b_, .int b_1, .int k_] => F n a a1 b_ b_1 k_ (fun v1 v2 => κ ⟨[.agg [.int .i64 v1, .int .i64 v2]], []⟩)
  | _ => none
def spec_l01Plus_run {α : Type} (n : Nat) (p : List P1) (κ : Res → Option α) : Option α := spec_l01Plus_runG spec_l01Plus n p κ
def spec_l01Plus_CG {α : Type}  (n : Nat) : FuncId → List D → (Res → Option α) → Option α := tabC []
def spec_l01Plus_C {α : Type} (n : Nat) : FuncId → List D → (Res → Option α) → Option α := spec_l01Plus_CG n
def spec_l01Plus_M : FuncId → List Nat := tabM []
def spec_l01Plus_lpsG {α : Type}  : List (LoopT α) := []
def spec_l01Plus_lps {α : Type} : List (LoopT α) := spec_l01Plus_lpsG
def spec_l01Plus_XG {α : Type}   (n : Nat) : Ctx α := ⟨spec_l01Plus_CG n, spec_l01Plus_M, eqs, lpOf (spec_l01Plus_lpsG) n⟩
def spec_l01Plus_X {α : Type} (n : Nat) : Ctx α := spec_l01Plus_XG n
def spec_l01Plus_Lt (np : Nat) (lent : List (Bool × Nat × Blk)) : Prop := np = 3 ∧ lent = []
def spec_l01Plus_body {α : Type}   (k : Nat) (a : Int) (a1 : Int) (b_ : Int) (b_1 : Int) (k_ : Int) (r0 : Int → Int → Option α) : Option α :=
  r0 (w64 (a + (w64 (k_ * b_)))) (w64 (a1 + (w64 (k_ * b_1))))
theorem spec_l01Plus_gen {α : Type}   (n : Nat) (a : Int) (a1 : Int) (b_ : Int) (b_1 : Int) (k_ : Int) (κ : Res → Option α) : evFn Try.prog (spec_l01Plus_XG n) Try.f112 (((buildDs spec_l01Plus_sh [.int a, .int a1, .int b_, .int b_1, .int k_]).map Prod.fst).getD []) κ = spec_l01Plus_body n a a1 b_ b_1 k_ (fun v1 v2 => κ ⟨[.agg [.int .i64 v1, .int .i64 v2]], []⟩) := by kernel_rfl
theorem spec_l01Plus_ev {α : Type} (n : Nat) (a : Int) (a1 : Int) (b_ : Int) (b_1 : Int) (k_ : Int) (κ : Res → Option α) : evFn Try.prog (spec_l01Plus_X n) Try.f112 (((buildDs spec_l01Plus_sh [.int a, .int a1, .int b_, .int b_1, .int k_]).map Prod.fst).getD []) κ = spec_l01Plus_run n [.int a, .int a1, .int b_, .int b_1, .int k_] κ := (spec_l01Plus_gen n a a1 b_ b_1 k_ κ).trans (by kernel_rfl)
theorem spec_l01Plus_en (a : Int) (a1 : Int) (b_ : Int) (b_1 : Int) (k_ : Int) : (entry 0 (((buildDs spec_l01Plus_sh [.int a, .int a1, .int b_, .int b_1, .int k_]).map Prod.fst).getD [])).map (fun x => (x.1.length, x.2.lent)) = some (3, []) := by kernel_rfl
theorem spec_l01Plus_good {α : Type} : ∀ n, GoodFn (α := α) Try.prog 112 (byShape spec_l01Plus_sh (spec_l01Plus_run n)) := by
  refine fn_good' Try.func112 (c := (Try.f112.body.getD .skip)) (by kernel_rfl) (by kernel_rfl) (by kernel_rfl) spec_l01Plus_C spec_l01Plus_M eqs spec_l01Plus_lps (fun n => tabC_good (fun _ h => absurd h List.not_mem_nil)) eqs_ok spec_l01Plus_Lt ?_ ?_ spec_l01Plus_sh spec_l01Plus_run ?_
  · exact (fun _ h => absurd h List.not_mem_nil)
  · exact (fun _ h => absurd h List.not_mem_nil)
  · intro n p κ r ds hd hr
    have hr0 := hr
    unfold spec_l01Plus_run spec_l01Plus_runG at hr
    split at hr
    · rw [← ds_of hd]
      exact ⟨en_of (spec_l01Plus_en _ _ _ _ _) ⟨rfl, rfl⟩, (spec_l01Plus_ev n _ _ _ _ _ κ).trans hr0⟩
    · cases hr

/-! loop.example/g01297/spec.l01Det -/
def spec_l01Det_sh : List SkD := [.agg [.int .i64, .int .i64], .agg [.int .i64, .int .i64]]
def spec_l01Det_runG {α : Type} (F : Nat → Int → Int → Int → Int → (Int → Option α) → Option α) (n : Nat) (p : List P1) (κ : Res → Option α) : Option α := match p with
  | [.int a, .int a1, .int b_, .int b_1] => F n a a1 b_ b_1 (fun v1 => κ ⟨[.int .i64 v1], []⟩)
  | _ => none
def spec_l01Det_run {α : Type} (n : Nat) (p : List P1) (κ : Res → Option α) : Option α := spec_l01Det_runG spec_l01Det n p κ
def spec_l01Det_CG {α : Type}  (n : Nat) : FuncId → List D → (Res → Option α) → Option α := tabC []
def spec_l01Det_C {α : Type} (n : Nat) : FuncId → List D → (Res → Option α) → Option α := spec_l01Det_CG n
def spec_l01Det_M : FuncId → List Nat := tabM []
def spec_l01Det_lpsG {α : Type}  : List (LoopT α) := []
def spec_l01Det_lps {α : Type} : List (LoopT α) := spec_l01Det_lpsG
def spec_l01Det_XG {α : Type}   (n : Nat) : Ctx α := ⟨spec_l01Det_CG n, spec_l01Det_M, eqs, lpOf (spec_l01Det_lpsG) n⟩
def spec_l01Det_X {α : Type} (n : Nat) : Ctx α := spec_l01Det_XG n
def spec_l01Det_Lt (np : Nat) (lent : List (Bool × Nat × Blk)) : Prop := np = 2 ∧ lent = []
def spec_l01Det_body {α : Type}   (k : Nat) (a : Int) (a1 : Int) (b_ : Int) (b_1 : Int) (r0 : Int → Option α) : Option α :=
  r0 (w64 ((w64 (a * b_1)) - (w64 (a1 * b_))))
theorem spec_l01Det_gen {α : Type}   (n : Nat) (a : Int) (a1 : Int) (b_ : Int) (b_1 : Int) (κ : Res → Option α) : evFn Try.prog (spec_l01Det_XG n) Try.f109 (((buildDs spec_l01Det_sh [.int a, .int a1, .int b_, .int b_1]).map Prod.fst).getD []) κ = spec_l01Det_body n a a1 b_ b_1 (fun v1 => κ ⟨[.int .i64 v1], []⟩) := by kernel_rfl
theorem spec_l01Det_ev {α : Type} (n : Nat) (a : Int) (a1 : Int) (b_ : Int) (b_1 : Int) (κ : Res → Option α) : evFn Try.prog (spec_l01Det_X n) Try.f109 (((buildDs spec_l01Det_sh [.int a, .int a1, .int b_, .int b_1]).map Prod.fst).getD []) κ = spec_l01Det_run n [.int a, .int a1, .int b_, .int b_1] κ := (spec_l01Det_gen n a a1 b_ b_1 κ).trans (by kernel_rfl)
theorem spec_l01Det_en (a : Int) (a1 : Int) (b_ : Int) (b_1 : Int) : (entry 0 (((buildDs spec_l01Det_sh [.int a, .int a1, .int b_, .int b_1]).map Prod.fst).getD [])).map (fun x => (x.1.length, x.2.lent)) = some (2, []) := by kernel_rfl
theorem spec_l01Det_good {α : Type} : ∀ n, GoodFn (α := α) Try.prog 109 (byShape spec_l01Det_sh (spec_l01Det_run n)) := by
  refine fn_good' Try.func109 (c := (Try.f109.body.getD .skip)) (by kernel_rfl) (by kernel_rfl) (by kernel_rfl) spec_l01Det_C spec_l01Det_M eqs spec_l01Det_lps (fun n => tabC_good (fun _ h => absurd h List.not_mem_nil)) eqs_ok spec_l01Det_Lt ?_ ?_ spec_l01Det_sh spec_l01Det_run ?_
  · exact (fun _ h => absurd h List.not_mem_nil)
  · exact (fun _ h => absurd h List.not_mem_nil)
  · intro n p κ r ds hd hr
    have hr0 := hr
    unfold spec_l01Det_run spec_l01Det_runG at hr
    split at hr
    · rw [← ds_of hd]
      exact ⟨en_of (spec_l01Det_en _ _ _ _) ⟨rfl, rfl⟩, (spec_l01Det_ev n _ _ _ _ κ).trans hr0⟩
    · cases hr

/-! loop.example/g01297/spec.l01Area -/
def spec_l01Area_sh : List SkD := [.agg [.int .i64, .int .i64], .agg [.int .i64, .int .i64], .agg [.int .i64, .int .i64]]
def spec_l01Area_runG {α : Type} (F : Nat → Int → Int → Int → Int → Int → Int → (Int → Option α) → Option α) (n : Nat) (p : List P1) (κ : Res → Option α) : Option α := match p with
  | [.int a, .int a1, .int b_, .int b_1, .int c, .int c1] => F n a a1 b_ b_1 c c1 (fun v1 => κ ⟨[.int .i64 v1], []⟩)
  | _ => none
def spec_l01Area_run {α : Type} (n : Nat) (p : List P1) (κ : Res → Option α) : Option α := spec_l01Area_runG spec_l01Area n p κ
def spec_l01Area_CG {α : Type} (F0 : Nat → Int → Int → Int → Int → Int → (Int → Int → Option α) → Option α) (F1 : Nat → Int → Int → Int → Int → (Int → Option α) → Option α) (n : Nat) : FuncId → List D → (Res → Option α) → Option α := tabC [(112, (byShape spec_l01Plus_sh (spec_l01Plus_runG F0 n))), (109, (byShape spec_l01Det_sh (spec_l01Det_runG F1 n)))]
def spec_l01Area_C {α : Type} (n : Nat) : FuncId → List D → (Res → Option α) → Option α := spec_l01Area_CG spec_l01Plus spec_l01Det n
def spec_l01Area_M : FuncId → List Nat := tabM []
def spec_l01Area_lpsG {α : Type}  : List (LoopT α) := []
def spec_l01Area_lps {α : Type} : List (LoopT α) := spec_l01Area_lpsG
def spec_l01Area_XG {α : Type} (F0 : Nat → Int → Int → Int → Int → Int → (Int → Int → Option α) → Option α) (F1 : Nat → Int → Int → Int → Int → (Int → Option α) → Option α)  (n : Nat) : Ctx α := ⟨spec_l01Area_CG F0 F1 n, spec_l01Area_M, eqs, lpOf (spec_l01Area_lpsG) n⟩
def spec_l01Area_X {α : Type} (n : Nat) : Ctx α := spec_l01Area_XG spec_l01Plus spec_l01Det n
def spec_l01Area_Lt (np : Nat) (lent : List (Bool × Nat × Blk)) : Prop := np = 3 ∧ lent = []
def spec_l01Area_body {α : Type} (F0 : Nat → Int → Int → Int → Int → Int → (Int → Int → Option α) → Option α) (F1 : Nat → Int → Int → Int → Int → (Int → Option α) → Option α)  (k : Nat) (a : Int) (a1 : Int) (b_ : Int) (b_1 : Int) (c : Int) (c1 : Int) (r0 : Int → Option α) : Option α :=
  F0 k b_ b_1 a a1 (-1) fun v v1 =>
  F0 k c c1 a a1 (-1) fun v2 v3 =>
  F1 k v v1 v2 v3 fun v4 =>
  r0 (max v4 (w64 (0 - v4)))
theorem spec_l01Area_gen {α : Type} (F0 : Nat → Int → Int → Int → Int → Int → (Int → Int → Option α) → Option α) (F1 : Nat → Int → Int → Int → Int → (Int → Option α) → Option α)  (n : Nat) (a : Int) (a1 : Int) (b_ : Int) (b_1 : Int) (c : Int) (c1 : Int) (κ : Res → Option α) : evFn Try.prog (spec_l01Area_XG F0 F1 n) Try.f118 (((buildDs spec_l01Area_sh [.int a, .int a1, .int b_, .int b_1, .int c, .int c1]).map Prod.fst).getD []) κ = spec_l01Area_body F0 F1 n a a1 b_ b_1 c c1 (fun v1 => κ ⟨[.int .i64 v1], []⟩) := by kernel_rfl
theorem spec_l01Area_ev {α : Type} (n : Nat) (a : Int) (a1 : Int) (b_ : Int) (b_1 : Int) (c : Int) (c1 : Int) (κ : Res → Option α) : evFn Try.prog (spec_l01Area_X n) Try.f118 (((buildDs spec_l01Area_sh [.int a, .int a1, .int b_, .int b_1, .int c, .int c1]).map Prod.fst).getD []) κ = spec_l01Area_run n [.int a, .int a1, .int b_, .int b_1, .int c, .int c1] κ := (spec_l01Area_gen spec_l01Plus spec_l01Det n a a1 b_ b_1 c c1 κ).trans (by kernel_rfl)
theorem spec_l01Area_en (a : Int) (a1 : Int) (b_ : Int) (b_1 : Int) (c : Int) (c1 : Int) : (entry 0 (((buildDs spec_l01Area_sh [.int a, .int a1, .int b_, .int b_1, .int c, .int c1]).map Prod.fst).getD [])).map (fun x => (x.1.length, x.2.lent)) = some (3, []) := by kernel_rfl
theorem spec_l01Area_good {α : Type} : ∀ n, GoodFn (α := α) Try.prog 118 (byShape spec_l01Area_sh (spec_l01Area_run n)) := by
  refine fn_good' Try.func118 (c := (Try.f118.body.getD .skip)) (by kernel_rfl) (by kernel_rfl) (by kernel_rfl) spec_l01Area_C spec_l01Area_M eqs spec_l01Area_lps (fun n => tabC_good (List.forall_mem_cons.2 ⟨(spec_l01Plus_good n), (List.forall_mem_cons.2 ⟨(spec_l01Det_good n), (fun _ h => absurd h List.not_mem_nil)⟩)⟩)) eqs_ok spec_l01Area_Lt ?_ ?_ spec_l01Area_sh spec_l01Area_run ?_
  · exact (fun _ h => absurd h List.not_mem_nil)
  · exact (fun _ h => absurd h List.not_mem_nil)
  · intro n p κ r ds hd hr
    have hr0 := hr
    unfold spec_l01Area_run spec_l01Area_runG at hr
    split at hr
    · rw [← ds_of hd]
      exact ⟨en_of (spec_l01Area_en _ _ _ _ _ _) ⟨rfl, rfl⟩, (spec_l01Area_ev n _ _ _ _ _ _ κ).trans hr0⟩
    · cases hr

/-! loop.example/g01297/spec.l04Is -/
def spec_l04Is_sh : List SkD := [.agg [.int .i64, .int .i64, .int .i64, .int .i64, .int .i64, .int .i64]]
def spec_l04Is_runG {α : Type} (F : Nat → Int → Int → Int → Int → Int → Int → (Bool → Option α) → Option α) (n : Nat) (p : List P1) (κ : Res → Option α) : Option α := match p with
  | [.int t, .int t1, .int t2, .int t3, .int t4, .int t5] => F n t t1 t2 t3 t4 t5 (fun v1 => κ ⟨[.bool v1], []⟩)
  | _ => none
def spec_l04Is_run {α : Type} (n : Nat) (p : List P1) (κ : Res → Option α) : Option α := spec_l04Is_runG spec_l04Is n p κ
def spec_l04Is_CG {α : Type} (F0 : Nat → Int → Int → Int → (Bool → Option α) → Option α) (F1 : Nat → Int → Int → Int → Int → Int → Int → (Int → Option α) → Option α) (n : Nat) : FuncId → List D → (Res → Option α) → Option α := tabC [(73, (byShape spec_l01In_sh (spec_l01In_runG F0 n))), (118, (byShape spec_l01Area_sh (spec_l01Area_runG F1 n)))]
def spec_l04Is_C {α : Type} (n : Nat) : FuncId → List D → (Res → Option α) → Option α := spec_l04Is_CG spec_l01In spec_l01Area n
def spec_l04Is_M : FuncId → List Nat := tabM []
def spec_l04Is_lpsG {α : Type}  : List (LoopT α) := []
def spec_l04Is_lps {α : Type} : List (LoopT α) := spec_l04Is_lpsG
def spec_l04Is_XG {α : Type} (F0 : Nat → Int → Int → Int → (Bool → Option α) → Option α) (F1 : Nat → Int → Int → Int → Int → Int → Int → (Int → Option α) → Option α)  (n : Nat) : Ctx α := ⟨spec_l04Is_CG F0 F1 n, spec_l04Is_M, eqs, lpOf (spec_l04Is_lpsG) n⟩
def spec_l04Is_X {α : Type} (n : Nat) : Ctx α := spec_l04Is_XG spec_l01In spec_l01Area n
def spec_l04Is_Lt (np : Nat) (lent : List (Bool × Nat × Blk)) : Prop := np = 1 ∧ lent = []
def spec_l04Is_body {α : Type} (F0 : Nat → Int → Int → Int → (Bool → Option α) → Option α) (F1 : Nat → Int → Int → Int → Int → Int → Int → (Int → Option α) → Option α)  (k : Nat) (t : Int) (t1 : Int) (t2 : Int) (t3 : Int) (t4 : Int) (t5 : Int) (r0 : Bool → Option α) : Option α :=
  F0 k t (-1000) 1000 fun v =>
  bif (!v) then
    r0 false
  else
    F0 k t1 (-1000) 1000 fun v1 =>
    bif (!v1) then
      r0 false
    else
      F0 k t2 (-1000) 1000 fun v2 =>
      bif (!v2) then
        r0 false
      else
        F0 k t3 (-1000) 1000 fun v3 =>
        bif (!v3) then
          r0 false
        else
          F0 k t4 (-1000) 1000 fun v4 =>
          bif (!v4) then
            r0 false
          else
            F0 k t5 (-1000) 1000 fun v5 =>
            bif (!v5) then
              r0 false
            else
              F1 k t t1 t2 t3 t4 t5 fun v6 =>
              r0 (!decide (v6 = 0))
theorem spec_l04Is_gen {α : Type} (F0 : Nat → Int → Int → Int → (Bool → Option α) → Option α) (F1 : Nat → Int → Int → Int → Int → Int → Int → (Int → Option α) → Option α)  (n : Nat) (t : Int) (t1 : Int) (t2 : Int) (t3 : Int) (t4 : Int) (t5 : Int) (κ : Res → Option α) : evFn Try.prog (spec_l04Is_XG F0 F1 n) Try.f72 (((buildDs spec_l04Is_sh [.int t, .int t1, .int t2, .int t3, .int t4, .int t5]).map Prod.fst).getD []) κ = spec_l04Is_body F0 F1 n t t1 t2 t3 t4 t5 (fun v1 => κ ⟨[.bool v1], []⟩) := by kernel_rfl
theorem spec_l04Is_ev {α : Type} (n : Nat) (t : Int) (t1 : Int) (t2 : Int) (t3 : Int) (t4 : Int) (t5 : Int) (κ : Res → Option α) : evFn Try.prog (spec_l04Is_X n) Try.f72 (((buildDs spec_l04Is_sh [.int t, .int t1, .int t2, .int t3, .int t4, .int t5]).map Prod.fst).getD []) κ = spec_l04Is_run n [.int t, .int t1, .int t2, .int t3, .int t4, .int t5] κ := (spec_l04Is_gen spec_l01In spec_l01Area n t t1 t2 t3 t4 t5 κ).trans (by kernel_rfl)
theorem spec_l04Is_en (t : Int) (t1 : Int) (t2 : Int) (t3 : Int) (t4 : Int) (t5 : Int) : (entry 0 (((buildDs spec_l04Is_sh [.int t, .int t1, .int t2, .int t3, .int t4, .int t5]).map Prod.fst).getD [])).map (fun x => (x.1.length, x.2.lent)) = some (1, []) := by kernel_rfl
theorem spec_l04Is_good {α : Type} : ∀ n, GoodFn (α := α) Try.prog 72 (byShape spec_l04Is_sh (spec_l04Is_run n)) := by
  refine fn_good' Try.func72 (c := (Try.f72.body.getD .skip)) (by kernel_rfl) (by kernel_rfl) (by kernel_rfl) spec_l04Is_C spec_l04Is_M eqs spec_l04Is_lps (fun n => tabC_good (List.forall_mem_cons.2 ⟨(spec_l01In_good n), (List.forall_mem_cons.2 ⟨(spec_l01Area_good n), (fun _ h => absurd h List.not_mem_nil)⟩)⟩)) eqs_ok spec_l04Is_Lt ?_ ?_ spec_l04Is_sh spec_l04Is_run ?_
  · exact (fun _ h => absurd h List.not_mem_nil)
  · exact (fun _ h => absurd h List.not_mem_nil)
  · intro n p κ r ds hd hr
    have hr0 := hr
    unfold spec_l04Is_run spec_l04Is_runG at hr
    split at hr
    · rw [← ds_of hd]
      exact ⟨en_of (spec_l04Is_en _ _ _ _ _ _) ⟨rfl, rfl⟩, (spec_l04Is_ev n _ _ _ _ _ _ κ).trans hr0⟩
    · cases hr

/-! loop.example/g01297/spec.l04Area -/
def spec_l04Area_sh : List SkD := [.agg [.int .i64, .int .i64, .int .i64, .int .i64, .int .i64, .int .i64]]
def spec_l04Area_runG {α : Type} (F : Nat → Int → Int → Int → Int → Int → Int → (Int → Option α) → Option α) (n : Nat) (p : List P1) (κ : Res → Option α) : Option α := match p with
  | [.int t, .int t1, .int t2, .int t3, .int t4, .int t5] => F n t t1 t2 t3 t4 t5 (fun v1 => κ ⟨[.int .i64 v1], []⟩)
  | _ => none
def spec_l04Area_run {α : Type} (n : Nat) (p : List P1) (κ : Res → Option α) : Option α := spec_l04Area_runG spec_l04Area n p κ
def spec_l04Area_CG {α : Type} (F0 : Nat → Int → Int → Int → Int → Int → Int → (Int → Option α) → Option α) (n : Nat) : FuncId → List D → (Res → Option α) → Option α := tabC [(118, (byShape spec_l01Area_sh (spec_l01Area_runG F0 n)))]
def spec_l04Area_C {α : Type} (n : Nat) : FuncId → List D → (Res → Option α) → Option α := spec_l04Area_CG spec_l01Area n
def spec_l04Area_M : FuncId → List Nat := tabM []
def spec_l04Area_lpsG {α : Type}  : List (LoopT α) := []
def spec_l04Area_lps {α : Type} : List (LoopT α) := spec_l04Area_lpsG
def spec_l04Area_XG {α : Type} (F0 : Nat → Int → Int → Int → Int → Int → Int → (Int → Option α) → Option α)  (n : Nat) : Ctx α := ⟨spec_l04Area_CG F0 n, spec_l04Area_M, eqs, lpOf (spec_l04Area_lpsG) n⟩
def spec_l04Area_X {α : Type} (n : Nat) : Ctx α := spec_l04Area_XG spec_l01Area n
def spec_l04Area_Lt (np : Nat) (lent : List (Bool × Nat × Blk)) : Prop := np = 1 ∧ lent = []
def spec_l04Area_body {α : Type} (F0 : Nat → Int → Int → Int → Int → Int → Int → (Int → Option α) → Option α)  (k : Nat) (t : Int) (t1 : Int) (t2 : Int) (t3 : Int) (t4 : Int) (t5 : Int) (r0 : Int → Option α) : Option α :=
  F0 k t t1 t2 t3 t4 t5 fun v =>
  r0 v
theorem spec_l04Area_gen {α : Type} (F0 : Nat → Int → Int → Int → Int → Int → Int → (Int → Option α) → Option α)  (n : Nat) (t : Int) (t1 : Int) (t2 : Int) (t3 : Int) (t4 : Int) (t5 : Int) (κ : Res → Option α) : evFn Try.prog (spec_l04Area_XG F0 n) Try.f121 (((buildDs spec_l04Area_sh [.int t, .int t1, .int t2, .int t3, .int t4, .int t5]).map Prod.fst).getD []) κ = spec_l04Area_body F0 n t t1 t2 t3 t4 t5 (fun v1 => κ ⟨[.int .i64 v1], []⟩) := by kernel_rfl
theorem spec_l04Area_ev {α : Type} (n : Nat) (t : Int) (t1 : Int) (t2 : Int) (t3 : Int) (t4 : Int) (t5 : Int) (κ : Res → Option α) : evFn Try.prog (spec_l04Area_X n) Try.f121 (((buildDs spec_l04Area_sh [.int t, .int t1, .int t2, .int t3, .int t4, .int t5]).map Prod.fst).getD []) κ = spec_l04Area_run n [.int t, .int t1, .int t2, .int t3, .int t4, .int t5] κ := (spec_l04Area_gen spec_l01Area n t t1 t2 t3 t4 t5 κ).trans (by kernel_rfl)
theorem spec_l04Area_en (t : Int) (t1 : Int) (t2 : Int) (t3 : Int) (t4 : Int) (t5 : Int) : (entry 0 (((buildDs spec_l04Area_sh [.int t, .int t1, .int t2, .int t3, .int t4, .int t5]).map Prod.fst).getD [])).map (fun x => (x.1.length, x.2.lent)) = some (1, []) := by kernel_rfl
theorem spec_l04Area_good {α : Type} : ∀ n, GoodFn (α := α) Try.prog 121 (byShape spec_l04Area_sh (spec_l04Area_run n)) := by
  refine fn_good' Try.func121 (c := (Try.f121.body.getD .skip)) (by kernel_rfl) (by kernel_rfl) (by kernel_rfl) spec_l04Area_C spec_l04Area_M eqs spec_l04Area_lps (fun n => tabC_good (List.forall_mem_cons.2 ⟨(spec_l01Area_good n), (fun _ h => absurd h List.not_mem_nil)⟩)) eqs_ok spec_l04Area_Lt ?_ ?_ spec_l04Area_sh spec_l04Area_run ?_
  · exact (fun _ h => absurd h List.not_mem_nil)
  · exact (fun _ h => absurd h List.not_mem_nil)
  · intro n p κ r ds hd hr
    have hr0 := hr
    unfold spec_l04Area_run spec_l04Area_runG at hr
    split at hr
    · rw [← ds_of hd]
      exact ⟨en_of (spec_l04Area_en _ _ _ _ _ _) ⟨rfl, rfl⟩, (spec_l04Area_ev n _ _ _ _ _ _ κ).trans hr0⟩
    · cases hr

/-! loop.example/g01297/spec.l01Gcd -/
def spec_l01Gcd_sh : List SkD := [.int .i64, .int .i64]
def spec_l01Gcd_runG {α : Type} (F : Nat → Int → Int → (Int → Option α) → Option α) (n : Nat) (p : List P1) (κ : Res → Option α) : Option α := match p with
  | [.int a, .int b_] => F n a b_ (fun v1 => κ ⟨[.int .i64 v1], []⟩)
  | _ => none
def spec_l01Gcd_run {α : Type} (n : Nat) (p : List P1) (κ : Res → Option α) : Option α := spec_l01Gcd_runG spec_l01Gcd n p κ
def spec_l01Gcd_CG {α : Type}  (n : Nat) : FuncId → List D → (Res → Option α) → Option α := tabC []
def spec_l01Gcd_C {α : Type} (n : Nat) : FuncId → List D → (Res → Option α) → Option α := spec_l01Gcd_CG n
def spec_l01Gcd_M : FuncId → List Nat := tabM []
def spec_l01Gcd_t1 : Tpl := ⟨[.int .i64, .int .i64, .any, .any, .any, .any, .any, .any, .any, .any, .any, .any, .any, .any, .any, .any, .any], [], []⟩
def spec_l01Gcd_uG1 {α : Type} (G : Nat → Int → Int → (Int → Int → Option α) → (Int → Option α) → Option α) (n : Nat) (p : List P1) (brk : Nat → List P1 → Option α) (ret : Res → Option α) : Option α := match p with
  | [.int a1, .int b_1] => G n a1 b_1 (fun a1 b_1 => brk 0 [.int a1, .int b_1]) (fun v1 => ret ⟨[.int .i64 v1], []⟩)
  | _ => none
def spec_l01Gcd_u1 {α : Type} (n : Nat) (p : List P1) (brk : Nat → List P1 → Option α) (ret : Res → Option α) : Option α := spec_l01Gcd_uG1 spec_l01Gcd_l1 n p brk ret
def spec_l01Gcd_lpsG {α : Type} (G1 : Nat → Int → Int → (Int → Int → Option α) → (Int → Option α) → Option α) : List (LoopT α) := [⟨1, spec_l01Gcd_t1, spec_l01Gcd_uG1 G1⟩]
def spec_l01Gcd_lps {α : Type} : List (LoopT α) := spec_l01Gcd_lpsG spec_l01Gcd_l1
def spec_l01Gcd_XG {α : Type}  (G1 : Nat → Int → Int → (Int → Int → Option α) → (Int → Option α) → Option α) (n : Nat) : Ctx α := ⟨spec_l01Gcd_CG n, spec_l01Gcd_M, eqs, lpOf (spec_l01Gcd_lpsG G1) n⟩
def spec_l01Gcd_X {α : Type} (n : Nat) : Ctx α := spec_l01Gcd_XG spec_l01Gcd_l1 n
def spec_l01Gcd_Lt (np : Nat) (lent : List (Bool × Nat × Blk)) : Prop := np = 2 ∧ lent = []
def spec_l01Gcd_lb1 {α : Type}  (G1 : Nat → Int → Int → (Int → Int → Option α) → (Int → Option α) → Option α) (k : Nat) (a1 : Int) (b_1 : Int) (b0 : Int → Int → Option α) (r0 : Int → Option α) : Option α :=
  bif (!decide (b_1 = 0)) then
    bif decide (b_1 = 0) then
      none
    else
      G1 k b_1 (Int.tmod a1 b_1) b0 r0
  else
    b0 a1 b_1
theorem spec_l01Gcd_l1_gen {α : Type}  (G1 : Nat → Int → Int → (Int → Int → Option α) → (Int → Option α) → Option α) (n : Nat) (a1 : Int) (b_1 : Int) (brk : Nat → List P1 → Option α) (ret : Res → Option α) : ev ((spec_l01Gcd_XG G1 n).env Try.prog Try.f96 2 []) (findLoop (loopsIn (Try.f96.body.getD .skip)) 1) ((spec_l01Gcd_t1.build [.int a1, .int b_1]).getD ⟨[], []⟩) (roundK (2 * 64) spec_l01Gcd_t1 (fun q => spec_l01Gcd_uG1 G1 n q brk ret) brk ret) = spec_l01Gcd_lb1 G1 n a1 b_1 (fun a1 b_1 => brk 0 [.int a1, .int b_1]) (fun v1 => ret ⟨[.int .i64 v1], []⟩) := by kernel_rfl
theorem spec_l01Gcd_l1_ev {α : Type} (n : Nat) (a1 : Int) (b_1 : Int) (brk : Nat → List P1 → Option α) (ret : Res → Option α) : ev ((spec_l01Gcd_X n).env Try.prog Try.f96 2 []) (findLoop (loopsIn (Try.f96.body.getD .skip)) 1) ((spec_l01Gcd_t1.build [.int a1, .int b_1]).getD ⟨[], []⟩) (roundK (2 * 64) spec_l01Gcd_t1 (fun q => spec_l01Gcd_u1 n q brk ret) brk ret) = spec_l01Gcd_u1 (n + 1) [.int a1, .int b_1] brk ret := (spec_l01Gcd_l1_gen spec_l01Gcd_l1 n a1 b_1 brk ret).trans (by kernel_rfl)
def spec_l01Gcd_body {α : Type}  (G1 : Nat → Int → Int → (Int → Int → Option α) → (Int → Option α) → Option α) (k : Nat) (a : Int) (b_ : Int) (r0 : Int → Option α) : Option α :=
  G1 k a b_
    (fun a2 b_2 =>
      r0 (max a2 (w64 (0 - a2))))
    r0
theorem spec_l01Gcd_gen {α : Type}  (G1 : Nat → Int → Int → (Int → Int → Option α) → (Int → Option α) → Option α) (n : Nat) (a : Int) (b_ : Int) (κ : Res → Option α) : evFn Try.prog (spec_l01Gcd_XG G1 n) Try.f96 (((buildDs spec_l01Gcd_sh [.int a, .int b_]).map Prod.fst).getD []) κ = spec_l01Gcd_body G1 n a b_ (fun v1 => κ ⟨[.int .i64 v1], []⟩) := by kernel_rfl
theorem spec_l01Gcd_ev {α : Type} (n : Nat) (a : Int) (b_ : Int) (κ : Res → Option α) : evFn Try.prog (spec_l01Gcd_X n) Try.f96 (((buildDs spec_l01Gcd_sh [.int a, .int b_]).map Prod.fst).getD []) κ = spec_l01Gcd_run n [.int a, .int b_] κ := (spec_l01Gcd_gen spec_l01Gcd_l1 n a b_ κ).trans (by kernel_rfl)
theorem spec_l01Gcd_en (a : Int) (b_ : Int) : (entry 0 (((buildDs spec_l01Gcd_sh [.int a, .int b_]).map Prod.fst).getD [])).map (fun x => (x.1.length, x.2.lent)) = some (2, []) := by kernel_rfl
theorem spec_l01Gcd_good {α : Type} : ∀ n, GoodFn (α := α) Try.prog 96 (byShape spec_l01Gcd_sh (spec_l01Gcd_run n)) := by
  refine fn_good' Try.func96 (c := (Try.f96.body.getD .skip)) (by kernel_rfl) (by kernel_rfl) (by kernel_rfl) spec_l01Gcd_C spec_l01Gcd_M eqs spec_l01Gcd_lps (fun n => tabC_good (fun _ h => absurd h List.not_mem_nil)) eqs_ok spec_l01Gcd_Lt ?_ ?_ spec_l01Gcd_sh spec_l01Gcd_run ?_
  · refine List.forall_mem_cons.2 ⟨?_, (fun _ h => absurd h List.not_mem_nil)⟩
    · intro p brk ret; show spec_l01Gcd_u1 0 p brk ret = none; unfold spec_l01Gcd_u1 spec_l01Gcd_uG1; split <;> rfl
  · refine List.forall_mem_cons.2 ⟨?_, (fun _ h => absurd h List.not_mem_nil)⟩
    · intro np lent hL n p brk ret st r hb hr
      obtain ⟨rfl, rfl⟩ := hL
      rw [← tpl_of hb]
      change spec_l01Gcd_u1 (n + 1) p brk ret = some r at hr
      have hr0 := hr
      unfold spec_l01Gcd_u1 spec_l01Gcd_uG1 at hr
      split at hr
      · exact (spec_l01Gcd_l1_ev n _ _ brk ret).trans hr0
      · cases hr
  · intro n p κ r ds hd hr
    have hr0 := hr
    unfold spec_l01Gcd_run spec_l01Gcd_runG at hr
    split at hr
    · rw [← ds_of hd]
      exact ⟨en_of (spec_l01Gcd_en _ _) ⟨rfl, rfl⟩, (spec_l01Gcd_ev n _ _ κ).trans hr0⟩
    · cases hr

/-! loop.example/g01297/spec.l01Length -/
def spec_l01Length_sh : List SkD := [.agg [.int .i64, .int .i64], .agg [.int .i64, .int .i64]]
def spec_l01Length_runG {α : Type} (F : Nat → Int → Int → Int → Int → (Int → Option α) → Option α) (n : Nat) (p : List P1) (κ : Res → Option α) : Option α := match p with
  | [.int a, .int a1, .int b_, .int b_1] => F n a a1 b_ b_1 (fun v1 => κ ⟨[.int .i64 v1], []⟩)
  | _ => none
def spec_l01Length_run {α : Type} (n : Nat) (p : List P1) (κ : Res → Option α) : Option α := spec_l01Length_runG spec_l01Length n p κ
def spec_l01Length_CG {α : Type} (F0 : Nat → Int → Int → (Int → Option α) → Option α) (n : Nat) : FuncId → List D → (Res → Option α) → Option α := tabC [(96, (byShape spec_l01Gcd_sh (spec_l01Gcd_runG F0 n)))]
def spec_l01Length_C {α : Type} (n : Nat) : FuncId → List D → (Res → Option α) → Option α := spec_l01Length_CG spec_l01Gcd n
def spec_l01Length_M : FuncId → List Nat := tabM []
def spec_l01Length_lpsG {α : Type}  : List (LoopT α) := []
def spec_l01Length_lps {α : Type} : List (LoopT α) := spec_l01Length_lpsG
def spec_l01Length_XG {α : Type} (F0 : Nat → Int → Int → (Int → Option α) → Option α)  (n : Nat) : Ctx α := ⟨spec_l01Length_CG F0 n, spec_l01Length_M, eqs, lpOf (spec_l01Length_lpsG) n⟩
def spec_l01Length_X {α : Type} (n : Nat) : Ctx α := spec_l01Length_XG spec_l01Gcd n
def spec_l01Length_Lt (np : Nat) (lent : List (Bool × Nat × Blk)) : Prop := np = 2 ∧ lent = []
def spec_l01Length_body {α : Type} (F0 : Nat → Int → Int → (Int → Option α) → Option α)  (k : Nat) (a : Int) (a1 : Int) (b_ : Int) (b_1 : Int) (r0 : Int → Option α) : Option α :=
  F0 k (w64 (b_ - a)) (w64 (b_1 - a1)) fun v =>
  r0 v
theorem spec_l01Length_gen {α : Type} (F0 : Nat → Int → Int → (Int → Option α) → Option α)  (n : Nat) (a : Int) (a1 : Int) (b_ : Int) (b_1 : Int) (κ : Res → Option α) : evFn Try.prog (spec_l01Length_XG F0 n) Try.f120 (((buildDs spec_l01Length_sh [.int a, .int a1, .int b_, .int b_1]).map Prod.fst).getD []) κ = spec_l01Length_body F0 n a a1 b_ b_1 (fun v1 => κ ⟨[.int .i64 v1], []⟩) := by kernel_rfl
theorem spec_l01Length_ev {α : Type} (n : Nat) (a : Int) (a1 : Int) (b_ : Int) (b_1 : Int) (κ : Res → Option α) : evFn Try.prog (spec_l01Length_X n) Try.f120 (((buildDs spec_l01Length_sh [.int a, .int a1, .int b_, .int b_1]).map Prod.fst).getD []) κ = spec_l01Length_run n [.int a, .int a1, .int b_, .int b_1] κ := (spec_l01Length_gen spec_l01Gcd n a a1 b_ b_1 κ).trans (by kernel_rfl)
theorem spec_l01Length_en (a : Int) (a1 : Int) (b_ : Int) (b_1 : Int) : (entry 0 (((buildDs spec_l01Length_sh [.int a, .int a1, .int b_, .int b_1]).map Prod.fst).getD [])).map (fun x => (x.1.length, x.2.lent)) = some (2, []) := by kernel_rfl
theorem spec_l01Length_good {α : Type} : ∀ n, GoodFn (α := α) Try.prog 120 (byShape spec_l01Length_sh (spec_l01Length_run n)) := by
  refine fn_good' Try.func120 (c := (Try.f120.body.getD .skip)) (by kernel_rfl) (by kernel_rfl) (by kernel_rfl) spec_l01Length_C spec_l01Length_M eqs spec_l01Length_lps (fun n => tabC_good (List.forall_mem_cons.2 ⟨(spec_l01Gcd_good n), (fun _ h => absurd h List.not_mem_nil)⟩)) eqs_ok spec_l01Length_Lt ?_ ?_ spec_l01Length_sh spec_l01Length_run ?_
  · exact (fun _ h => absurd h List.not_mem_nil)
  · exact (fun _ h => absurd h List.not_mem_nil)
  · intro n p κ r ds hd hr
    have hr0 := hr
    unfold spec_l01Length_run spec_l01Length_runG at hr
    split at hr
    · rw [← ds_of hd]
      exact ⟨en_of (spec_l01Length_en _ _ _ _) ⟨rfl, rfl⟩, (spec_l01Length_ev n _ _ _ _ κ).trans hr0⟩
    · cases hr

/-! loop.example/g01297/spec.l04Boundary -/
def spec_l04Boundary_sh : List SkD := [.agg [.int .i64, .int .i64, .int .i64, .int .i64, .int .i64, .int .i64]]
def spec_l04Boundary_runG {α : Type} (F : Nat → Int → Int → Int → Int → Int → Int → (Int → Option α) → Option α) (n : Nat) (p : List P1) (κ : Res → Option α) : Option α := match p with
  | [.int t, .int t1, .int t2, .int t3, .int t4, .int t5] => F n t t1 t2 t3 t4 t5 (fun v1 => κ ⟨[.int .i64 v1], []⟩)
  | _ => none
def spec_l04Boundary_run {α : Type} (n : Nat) (p : List P1) (κ : Res → Option α) : Option α := spec_l04Boundary_runG spec_l04Boundary n p κ
def spec_l04Boundary_CG {α : Type} (F0 : Nat → Int → Int → Int → Int → (Int → Option α) → Option α) (n : Nat) : FuncId → List D → (Res → Option α) → Option α := tabC [(120, (byShape spec_l01Length_sh (spec_l01Length_runG F0 n)))]
def spec_l04Boundary_C {α : Type} (n : Nat) : FuncId → List D → (Res → Option α) → Option α := spec_l04Boundary_CG spec_l01Length n
def spec_l04Boundary_M : FuncId → List Nat := tabM []
def spec_l04Boundary_lpsG {α : Type}  : List (LoopT α) := []
def spec_l04Boundary_lps {α : Type} : List (LoopT α) := spec_l04Boundary_lpsG
def spec_l04Boundary_XG {α : Type} (F0 : Nat → Int → Int → Int → Int → (Int → Option α) → Option α)  (n : Nat) : Ctx α := ⟨spec_l04Boundary_CG F0 n, spec_l04Boundary_M, eqs, lpOf (spec_l04Boundary_lpsG) n⟩
def spec_l04Boundary_X {α : Type} (n : Nat) : Ctx α := spec_l04Boundary_XG spec_l01Length n
def spec_l04Boundary_Lt (np : Nat) (lent : List (Bool × Nat × Blk)) : Prop := np = 1 ∧ lent = []
def spec_l04Boundary_body {α : Type} (F0 : Nat → Int → Int → Int → Int → (Int → Option α) → Option α)  (k : Nat) (t : Int) (t1 : Int) (t2 : Int) (t3 : Int) (t4 : Int) (t5 : Int) (r0 : Int → Option α) : Option α :=
  F0 k t t1 t2 t3 fun v =>
  F0 k t2 t3 t4 t5 fun v1 =>
  F0 k t4 t5 t t1 fun v2 =>
  r0 (w64 ((w64 (v + v1)) + v2))
theorem spec_l04Boundary_gen {α : Type} (F0 : Nat → Int → Int → Int → Int → (Int → Option α) → Option α)  (n : Nat) (t : Int) (t1 : Int) (t2 : Int) (t3 : Int) (t4 : Int) (t5 : Int) (κ : Res → Option α) : evFn Try.prog (spec_l04Boundary_XG F0 n) Try.f143 (((buildDs spec_l04Boundary_sh [.int t, .int t1, .int t2, .int t3, .int t4, .int t5]).map Prod.fst).getD []) κ = spec_l04Boundary_body F0 n t t1 t2 t3 t4 t5 (fun v1 => κ ⟨[.int .i64 v1], []⟩) := by kernel_rfl
theorem spec_l04Boundary_ev {α : Type} (n : Nat) (t : Int) (t1 : Int) (t2 : Int) (t3 : Int) (t4 : Int) (t5 : Int) (κ : Res → Option α) : evFn Try.prog (spec_l04Boundary_X n) Try.f143 (((buildDs spec_l04Boundary_sh [.int t, .int t1, .int t2, .int t3, .int t4, .int t5]).map Prod.fst).getD []) κ = spec_l04Boundary_run n [.int t, .int t1, .int t2, .int t3, .int t4, .int t5] κ := (spec_l04Boundary_gen spec_l01Length n t t1 t2 t3 t4 t5 κ).trans (by kernel_rfl)
theorem spec_l04Boundary_en (t : Int) (t1 : Int) (t2 : Int) (t3 : Int) (t4 : Int) (t5 : Int) : (entry 0 (((buildDs spec_l04Boundary_sh [.int t, .int t1, .int t2, .int t3, .int t4, .int t5]).map Prod.fst).getD [])).map (fun x => (x.1.length, x.2.lent)) = some (1, []) := by kernel_rfl
theorem spec_l04Boundary_good {α : Type} : ∀ n, GoodFn (α := α) Try.prog 143 (byShape spec_l04Boundary_sh (spec_l04Boundary_run n)) := by
  refine fn_good' Try.func143 (c := (Try.f143.body.getD .skip)) (by kernel_rfl) (by kernel_rfl) (by kernel_rfl) spec_l04Boundary_C spec_l04Boundary_M eqs spec_l04Boundary_lps (fun n => tabC_good (List.forall_mem_cons.2 ⟨(spec_l01Length_good n), (fun _ h => absurd h List.not_mem_nil)⟩)) eqs_ok spec_l04Boundary_Lt ?_ ?_ spec_l04Boundary_sh spec_l04Boundary_run ?_
  · exact (fun _ h => absurd h List.not_mem_nil)
  · exact (fun _ h => absurd h List.not_mem_nil)
  · intro n p κ r ds hd hr
    have hr0 := hr
    unfold spec_l04Boundary_run spec_l04Boundary_runG at hr
    split at hr
    · rw [← ds_of hd]
      exact ⟨en_of (spec_l04Boundary_en _ _ _ _ _ _) ⟨rfl, rfl⟩, (spec_l04Boundary_ev n _ _ _ _ _ _ κ).trans hr0⟩
    · cases hr

/-! loop.example/g01297/spec.l04Inner -/
def spec_l04Inner_sh : List SkD := [.agg [.int .i64, .int .i64, .int .i64, .int .i64, .int .i64, .int .i64]]
def spec_l04Inner_runG {α : Type} (F : Nat → Int → Int → Int → Int → Int → Int → (Int → Option α) → Option α) (n : Nat) (p : List P1) (κ : Res → Option α) : Option α := match p with
  | [.int t, .int t1, .int t2, .int t3, .int t4, .int t5] => F n t t1 t2 t3 t4 t5 (fun v1 => κ ⟨[.int .i64 v1], []⟩)
  | _ => none
def spec_l04Inner_run {α : Type} (n : Nat) (p : List P1) (κ : Res → Option α) : Option α := spec_l04Inner_runG spec_l04Inner n p κ
def spec_l04Inner_CG {α : Type} (F0 : Nat → Int → Int → Int → Int → Int → Int → (Int → Option α) → Option α) (F1 : Nat → Int → Int → Int → Int → Int → Int → (Int → Option α) → Option α) (n : Nat) : FuncId → List D → (Res → Option α) → Option α := tabC [(121, (byShape spec_l04Area_sh (spec_l04Area_runG F0 n))), (143, (byShape spec_l04Boundary_sh (spec_l04Boundary_runG F1 n)))]
def spec_l04Inner_C {α : Type} (n : Nat) : FuncId → List D → (Res → Option α) → Option α := spec_l04Inner_CG spec_l04Area spec_l04Boundary n
def spec_l04Inner_M : FuncId → List Nat := tabM []
def spec_l04Inner_lpsG {α : Type}  : List (LoopT α) := []
def spec_l04Inner_lps {α : Type} : List (LoopT α) := spec_l04Inner_lpsG
def spec_l04Inner_XG {α : Type} (F0 : Nat → Int → Int → Int → Int → Int → Int → (Int → Option α) → Option α) (F1 : Nat → Int → Int → Int → Int → Int → Int → (Int → Option α) → Option α)  (n : Nat) : Ctx α := ⟨spec_l04Inner_CG F0 F1 n, spec_l04Inner_M, eqs, lpOf (spec_l04Inner_lpsG) n⟩
def spec_l04Inner_X {α : Type} (n : Nat) : Ctx α := spec_l04Inner_XG spec_l04Area spec_l04Boundary n
def spec_l04Inner_Lt (np : Nat) (lent : List (Bool × Nat × Blk)) : Prop := np = 1 ∧ lent = []
def spec_l04Inner_body {α : Type} (F0 : Nat → Int → Int → Int → Int → Int → Int → (Int → Option α) → Option α) (F1 : Nat → Int → Int → Int → Int → Int → Int → (Int → Option α) → Option α)  (k : Nat) (t : Int) (t1 : Int) (t2 : Int) (t3 : Int) (t4 : Int) (t5 : Int) (r0 : Int → Option α) : Option α :=
  F0 k t t1 t2 t3 t4 t5 fun v =>
  F1 k t t1 t2 t3 t4 t5 fun v1 =>
  r0 (w64 ((w64 (Int.tdiv (w64 (v - v1)) 2)) + 1))
theorem spec_l04Inner_gen {α : Type} (F0 : Nat → Int → Int → Int → Int → Int → Int → (Int → Option α) → Option α) (F1 : Nat → Int → Int → Int → Int → Int → Int → (Int → Option α) → Option α)  (n : Nat) (t : Int) (t1 : Int) (t2 : Int) (t3 : Int) (t4 : Int) (t5 : Int) (κ : Res → Option α) : evFn Try.prog (spec_l04Inner_XG F0 F1 n) Try.f90 (((buildDs spec_l04Inner_sh [.int t, .int t1, .int t2, .int t3, .int t4, .int t5]).map Prod.fst).getD []) κ = spec_l04Inner_body F0 F1 n t t1 t2 t3 t4 t5 (fun v1 => κ ⟨[.int .i64 v1], []⟩) := by kernel_rfl
theorem spec_l04Inner_ev {α : Type} (n : Nat) (t : Int) (t1 : Int) (t2 : Int) (t3 : Int) (t4 : Int) (t5 : Int) (κ : Res → Option α) : evFn Try.prog (spec_l04Inner_X n) Try.f90 (((buildDs spec_l04Inner_sh [.int t, .int t1, .int t2, .int t3, .int t4, .int t5]).map Prod.fst).getD []) κ = spec_l04Inner_run n [.int t, .int t1, .int t2, .int t3, .int t4, .int t5] κ := (spec_l04Inner_gen spec_l04Area spec_l04Boundary n t t1 t2 t3 t4 t5 κ).trans (by kernel_rfl)
theorem spec_l04Inner_en (t : Int) (t1 : Int) (t2 : Int) (t3 : Int) (t4 : Int) (t5 : Int) : (entry 0 (((buildDs spec_l04Inner_sh [.int t, .int t1, .int t2, .int t3, .int t4, .int t5]).map Prod.fst).getD [])).map (fun x => (x.1.length, x.2.lent)) = some (1, []) := by kernel_rfl
theorem spec_l04Inner_good {α : Type} : ∀ n, GoodFn (α := α) Try.prog 90 (byShape spec_l04Inner_sh (spec_l04Inner_run n)) := by
  refine fn_good' Try.func90 (c := (Try.f90.body.getD .skip)) (by kernel_rfl) (by kernel_rfl) (by kernel_rfl) spec_l04Inner_C spec_l04Inner_M eqs spec_l04Inner_lps (fun n => tabC_good (List.forall_mem_cons.2 ⟨(spec_l04Area_good n), (List.forall_mem_cons.2 ⟨(spec_l04Boundary_good n), (fun _ h => absurd h List.not_mem_nil)⟩)⟩)) eqs_ok spec_l04Inner_Lt ?_ ?_ spec_l04Inner_sh spec_l04Inner_run ?_
  · exact (fun _ h => absurd h List.not_mem_nil)
  · exact (fun _ h => absurd h List.not_mem_nil)
  · intro n p κ r ds hd hr
    have hr0 := hr
    unfold spec_l04Inner_run spec_l04Inner_runG at hr
    split at hr
    · rw [← ds_of hd]
      exact ⟨en_of (spec_l04Inner_en _ _ _ _ _ _) ⟨rfl, rfl⟩, (spec_l04Inner_ev n _ _ _ _ _ _ κ).trans hr0⟩
    · cases hr

/-! loop.example/g01297/spec.l04Side -/
def spec_l04Side_sh : List SkD := [.agg [.int .i64, .int .i64, .int .i64, .int .i64, .int .i64, .int .i64], .int .i64, .agg [.int .i64, .int .i64]]
def spec_l04Side_runG {α : Type} (F : Nat → Int → Int → Int → Int → Int → Int → Int → Int → Int → (Int → Option α) → Option α) (n : Nat) (p : List P1) (κ : Res → Option α) : Option α := match p with
  | [.int t, .int t1, .int t2, .int t3, .int t4, .int t5, .int i, .int a, .int a1] => F n t t1 t2 t3 t4 t5 i a a1 (fun v1 => κ ⟨[.int .i64 v1], []⟩)
  | _ => none
def spec_l04Side_run {α : Type} (n : Nat) (p : List P1) (κ : Res → Option α) : Option α := spec_l04Side_runG spec_l04Side n p κ
def spec_l04Side_CG {α : Type} (F0 : Nat → Int → Int → Int → Int → Int → (Int → Int → Option α) → Option α) (F1 : Nat → Int → Int → Int → Int → (Int → Option α) → Option α) (n : Nat) : FuncId → List D → (Res → Option α) → Option α := tabC [(112, (byShape spec_l01Plus_sh (spec_l01Plus_runG F0 n))), (109, (byShape spec_l01Det_sh (spec_l01Det_runG F1 n)))]
def spec_l04Side_C {α : Type} (n : Nat) : FuncId → List D → (Res → Option α) → Option α := spec_l04Side_CG spec_l01Plus spec_l01Det n
def spec_l04Side_M : FuncId → List Nat := tabM []
def spec_l04Side_lpsG {α : Type}  : List (LoopT α) := []
def spec_l04Side_lps {α : Type} : List (LoopT α) := spec_l04Side_lpsG
def spec_l04Side_XG {α : Type} (F0 : Nat → Int → Int → Int → Int → Int → (Int → Int → Option α) → Option α) (F1 : Nat → Int → Int → Int → Int → (Int → Option α) → Option α)  (n : Nat) : Ctx α := ⟨spec_l04Side_CG F0 F1 n, spec_l04Side_M, eqs, lpOf (spec_l04Side_lpsG) n⟩
def spec_l04Side_X {α : Type} (n : Nat) : Ctx α := spec_l04Side_XG spec_l01Plus spec_l01Det n
def spec_l04Side_Lt (np : Nat) (lent : List (Bool × Nat × Blk)) : Prop := np = 3 ∧ lent = []
def spec_l04Side_body {α : Type} (F0 : Nat → Int → Int → Int → Int → Int → (Int → Int → Option α) → Option α) (F1 : Nat → Int → Int → Int → Int → (Int → Option α) → Option α)  (k : Nat) (t : Int) (t1 : Int) (t2 : Int) (t3 : Int) (t4 : Int) (t5 : Int) (i : Int) (a : Int) (a1 : Int) (r0 : Int → Option α) : Option α :=
  bif (decide (0 ≤ i) && decide (i < 3)) then
    ([t, t1, t2, t3, t4, t5][(i.toNat * 2)]?).bind fun e_ =>
    ([t, t1, t2, t3, t4, t5][((i.toNat * 2) + 1)]?).bind fun e_1 =>
    bif (decide (0 ≤ (Int.tmod (w64 (i + 1)) 3)) && decide ((Int.tmod (w64 (i + 1)) 3) < 3)) then
      ([t, t1, t2, t3, t4, t5][((Int.tmod (w64 (i + 1)) 3).toNat * 2)]?).bind fun e_2 =>
      ([t, t1, t2, t3, t4, t5][(((Int.tmod (w64 (i + 1)) 3).toNat * 2) + 1)]?).bind fun e_3 =>
      F0 k e_2 e_3 e_ e_1 (-1) fun v v1 =>
      F0 k a a1 e_ e_1 (-1) fun v2 v3 =>
      F1 k v v1 v2 v3 fun v4 =>
      r0 v4
    else
      none
  else
    none
theorem spec_l04Side_gen {α : Type} (F0 : Nat → Int → Int → Int → Int → Int → (Int → Int → Option α) → Option α) (F1 : Nat → Int → Int → Int → Int → (Int → Option α) → Option α)  (n : Nat) (t : Int) (t1 : Int) (t2 : Int) (t3 : Int) (t4 : Int) (t5 : Int) (i : Int) (a : Int) (a1 : Int) (κ : Res → Option α) : evFn Try.prog (spec_l04Side_XG F0 F1 n) Try.f91 (((buildDs spec_l04Side_sh [.int t, .int t1, .int t2, .int t3, .int t4, .int t5, .int i, .int a, .int a1]).map Prod.fst).getD []) κ = spec_l04Side_body F0 F1 n t t1 t2 t3 t4 t5 i a a1 (fun v1 => κ ⟨[.int .i64 v1], []⟩) := by kernel_rfl
theorem spec_l04Side_ev {α : Type} (n : Nat) (t : Int) (t1 : Int) (t2 : Int) (t3 : Int) (t4 : Int) (t5 : Int) (i : Int) (a : Int) (a1 : Int) (κ : Res → Option α) : evFn Try.prog (spec_l04Side_X n) Try.f91 (((buildDs spec_l04Side_sh [.int t, .int t1, .int t2, .int t3, .int t4, .int t5, .int i, .int a, .int a1]).map Prod.fst).getD []) κ = spec_l04Side_run n [.int t, .int t1, .int t2, .int t3, .int t4, .int t5, .int i, .int a, .int a1] κ := (spec_l04Side_gen spec_l01Plus spec_l01Det n t t1 t2 t3 t4 t5 i a a1 κ).trans (by kernel_rfl)
theorem spec_l04Side_en (t : Int) (t1 : Int) (t2 : Int) (t3 : Int) (t4 : Int) (t5 : Int) (i : Int) (a : Int) (a1 : Int) : (entry 0 (((buildDs spec_l04Side_sh [.int t, .int t1, .int t2, .int t3, .int t4, .int t5, .int i, .int a, .int a1]).map Prod.fst).getD [])).map (fun x => (x.1.length, x.2.lent)) = some (3, []) := by kernel_rfl
theorem spec_l04Side_good {α : Type} : ∀ n, GoodFn (α := α) Try.prog 91 (byShape spec_l04Side_sh (spec_l04Side_run n)) := by
  refine fn_good' Try.func91 (c := (Try.f91.body.getD .skip)) (by kernel_rfl) (by kernel_rfl) (by kernel_rfl) spec_l04Side_C spec_l04Side_M eqs spec_l04Side_lps (fun n => tabC_good (List.forall_mem_cons.2 ⟨(spec_l01Plus_good n), (List.forall_mem_cons.2 ⟨(spec_l01Det_good n), (fun _ h => absurd h List.not_mem_nil)⟩)⟩)) eqs_ok spec_l04Side_Lt ?_ ?_ spec_l04Side_sh spec_l04Side_run ?_
  · exact (fun _ h => absurd h List.not_mem_nil)
  · exact (fun _ h => absurd h List.not_mem_nil)
  · intro n p κ r ds hd hr
    have hr0 := hr
    unfold spec_l04Side_run spec_l04Side_runG at hr
    split at hr
    · rw [← ds_of hd]
      exact ⟨en_of (spec_l04Side_en _ _ _ _ _ _ _ _ _) ⟨rfl, rfl⟩, (spec_l04Side_ev n _ _ _ _ _ _ _ _ _ κ).trans hr0⟩
    · cases hr

/-! loop.example/g01297/spec.InnerPoints -/
def spec_InnerPoints_sh : List SkD := [.agg [.int .i64, .int .i64, .int .i64, .int .i64, .int .i64, .int .i64]]
def spec_InnerPoints_runG {α : Type} (F : Nat → Int → Int → Int → Int → Int → Int → (Int → Option α) → ((List (Int × Int)) → Int → Option α) → Option α) (n : Nat) (p : List P1) (κ : Res → Option α) : Option α := match p with
  | [.int t, .int t1, .int t2, .int t3, .int t4, .int t5] => F n t t1 t2 t3 t4 t5 (fun v1 => κ ⟨[.nilsl, .int .i64 v1], []⟩) (fun v1 v2 => κ ⟨[.sl 33 .pt v1, .int .i64 v2], []⟩)
  | _ => none
def spec_InnerPoints_run {α : Type} (n : Nat) (p : List P1) (κ : Res → Option α) : Option α := spec_InnerPoints_runG spec_InnerPoints n p κ
def spec_InnerPoints_CG {α : Type} (F0 : Nat → Int → Int → Int → Int → Int → Int → (Bool → Option α) → Option α) (F1 : Nat → Int → Int → Int → Int → Int → Int → (Int → Option α) → Option α) (F2 : Nat → Int → Int → Int → Int → Int → Int → Int → Int → Int → (Int → Option α) → Option α) (n : Nat) : FuncId → List D → (Res → Option α) → Option α := tabC [(72, (byShape spec_l04Is_sh (spec_l04Is_runG F0 n))), (90, (byShape spec_l04Inner_sh (spec_l04Inner_runG F1 n))), (91, (byShape spec_l04Side_sh (spec_l04Side_runG F2 n)))]
def spec_InnerPoints_C {α : Type} (n : Nat) : FuncId → List D → (Res → Option α) → Option α := spec_InnerPoints_CG spec_l04Is spec_l04Inner spec_l04Side n
def spec_InnerPoints_M : FuncId → List Nat := tabM []
def spec_InnerPoints_t15 : Tpl := ⟨[.any, .ptr 64 0 0, .any, .any, .int .i64, .sl 1536, .any, .int .i64, .int .i64, .int .i64, .int .i64, .int .i64, .any, .any, .any, .any, .any, .any, .any, .any, .any, .any, .any, .any, .any, .any, .any, .any, .any, .any, .any, .any, .any, .any, .any, .any, .any, .any, .any, .any, .any, .any, .any, .any, .any, .any, .any, .any, .any, .any, .any, .any, .any, .any, .any, .any, .any, .any, .any, .any, .any, .any, .any, .any, .any, .any, .any, .any, .any, .any, .any, .any, .any, .any, .any, .any, .any, .any, .any, .any, .any, .any, .any, .any, .any, .any, .any, .any, .any, .any, .any, .any, .any, .any, .any, .any, .any, .any, .any, .any, .any, .any, .any, .any, .any, .any, .any], [(64, .ints 2 50 .i64 6), (1536, .rows 2 33 .pt)], []⟩
def spec_InnerPoints_uG15 {α : Type} (G : Nat → Int → Int → Int → Int → Int → Int → Int → Int → Int → Int → Int → Int → (List (Int × Int)) → (Int → Int → Int → Int → Int → Int → Int → Int → Int → Int → Int → Int → (List (Int × Int)) → Option α) → (Int → Option α) → ((List (Int × Int)) → Int → Option α) → Option α) (n : Nat) (p : List P1) (brk : Nat → List P1 → Option α) (ret : Res → Option α) : Option α := match p with
  | [.int turn1, .int high1, .int from_1, .int to1, .int x1, .int y, .int t12, .int t13, .int t14, .int t15, .int t16, .int t17, .rows .pt out1] => G n turn1 high1 from_1 to1 x1 y t12 t13 t14 t15 t16 t17 out1 (fun turn1 high1 from_1 to1 x1 y t12 t13 t14 t15 t16 t17 out1 => brk 2 [.int turn1, .int high1, .int from_1, .int to1, .int x1, .int y, .int t12, .int t13, .int t14, .int t15, .int t16, .int t17, .rows .pt out1]) (fun v1 => ret ⟨[.nilsl, .int .i64 v1], []⟩) (fun v1 v2 => ret ⟨[.sl 33 .pt v1, .int .i64 v2], []⟩)
  | _ => none
def spec_InnerPoints_u15 {α : Type} (n : Nat) (p : List P1) (brk : Nat → List P1 → Option α) (ret : Res → Option α) : Option α := spec_InnerPoints_uG15 spec_InnerPoints_l15 n p brk ret
def spec_InnerPoints_t12 : Tpl := ⟨[.any, .ptr 64 0 0, .any, .any, .int .i64, .sl 1536, .any, .int .i64, .int .i64, .int .i64, .int .i64, .any, .any, .any, .any, .any, .any, .any, .any, .any, .any, .any, .any, .any, .any, .any, .any, .any, .any, .any, .any, .any, .any, .any, .any, .any, .any, .any, .any, .any, .any, .any, .any, .any, .any, .any, .any, .any, .any, .any, .any, .any, .any, .any, .any, .any, .any, .any, .any, .any, .any, .any, .any, .any, .any, .any, .any, .any, .any, .any, .any, .any, .any, .any, .any, .any, .any, .any, .any, .any, .any, .any, .any, .any, .any, .any, .any, .any, .any, .any, .any, .any, .any, .any, .any, .any, .any, .any, .any, .any, .any, .any, .any, .any, .any, .any, .any], [(64, .ints 2 50 .i64 6), (1536, .rows 2 33 .pt)], []⟩
def spec_InnerPoints_uG12 {α : Type} (G : Nat → Int → Int → Int → Int → Int → Int → Int → Int → Int → Int → Int → (List (Int × Int)) → (Int → Int → Int → Int → Int → Int → Int → Int → Int → Int → Int → (List (Int × Int)) → Option α) → (Int → Option α) → ((List (Int × Int)) → Int → Option α) → Option α) (n : Nat) (p : List P1) (brk : Nat → List P1 → Option α) (ret : Res → Option α) : Option α := match p with
  | [.int turn, .int high, .int from_, .int to, .int x, .int t6, .int t7, .int t8, .int t9, .int t10, .int t11, .rows .pt out] => G n turn high from_ to x t6 t7 t8 t9 t10 t11 out (fun turn high from_ to x t6 t7 t8 t9 t10 t11 out => brk 0 [.int turn, .int high, .int from_, .int to, .int x, .int t6, .int t7, .int t8, .int t9, .int t10, .int t11, .rows .pt out]) (fun v1 => ret ⟨[.nilsl, .int .i64 v1], []⟩) (fun v1 v2 => ret ⟨[.sl 33 .pt v1, .int .i64 v2], []⟩)
  | _ => none
def spec_InnerPoints_u12 {α : Type} (n : Nat) (p : List P1) (brk : Nat → List P1 → Option α) (ret : Res → Option α) : Option α := spec_InnerPoints_uG12 spec_InnerPoints_l12 n p brk ret
def spec_InnerPoints_lpsG {α : Type} (G15 : Nat → Int → Int → Int → Int → Int → Int → Int → Int → Int → Int → Int → Int → (List (Int × Int)) → (Int → Int → Int → Int → Int → Int → Int → Int → Int → Int → Int → Int → (List (Int × Int)) → Option α) → (Int → Option α) → ((List (Int × Int)) → Int → Option α) → Option α) (G12 : Nat → Int → Int → Int → Int → Int → Int → Int → Int → Int → Int → Int → (List (Int × Int)) → (Int → Int → Int → Int → Int → Int → Int → Int → Int → Int → Int → (List (Int × Int)) → Option α) → (Int → Option α) → ((List (Int × Int)) → Int → Option α) → Option α) : List (LoopT α) := [⟨15, spec_InnerPoints_t15, spec_InnerPoints_uG15 G15⟩, ⟨12, spec_InnerPoints_t12, spec_InnerPoints_uG12 G12⟩]
def spec_InnerPoints_lps {α : Type} : List (LoopT α) := spec_InnerPoints_lpsG spec_InnerPoints_l15 spec_InnerPoints_l12
def spec_InnerPoints_XG {α : Type} (F0 : Nat → Int → Int → Int → Int → Int → Int → (Bool → Option α) → Option α) (F1 : Nat → Int → Int → Int → Int → Int → Int → (Int → Option α) → Option α) (F2 : Nat → Int → Int → Int → Int → Int → Int → Int → Int → Int → (Int → Option α) → Option α) (G15 : Nat → Int → Int → Int → Int → Int → Int → Int → Int → Int → Int → Int → Int → (List (Int × Int)) → (Int → Int → Int → Int → Int → Int → Int → Int → Int → Int → Int → Int → (List (Int × Int)) → Option α) → (Int → Option α) → ((List (Int × Int)) → Int → Option α) → Option α) (G12 : Nat → Int → Int → Int → Int → Int → Int → Int → Int → Int → Int → Int → (List (Int × Int)) → (Int → Int → Int → Int → Int → Int → Int → Int → Int → Int → Int → (List (Int × Int)) → Option α) → (Int → Option α) → ((List (Int × Int)) → Int → Option α) → Option α) (n : Nat) : Ctx α := ⟨spec_InnerPoints_CG F0 F1 F2 n, spec_InnerPoints_M, eqs, lpOf (spec_InnerPoints_lpsG G15 G12) n⟩
def spec_InnerPoints_X {α : Type} (n : Nat) : Ctx α := spec_InnerPoints_XG spec_l04Is spec_l04Inner spec_l04Side spec_InnerPoints_l15 spec_InnerPoints_l12 n
def spec_InnerPoints_Lt (np : Nat) (lent : List (Bool × Nat × Blk)) : Prop := np = 1 ∧ lent = []
def spec_InnerPoints_lb15 {α : Type} (F0 : Nat → Int → Int → Int → Int → Int → Int → (Bool → Option α) → Option α) (F1 : Nat → Int → Int → Int → Int → Int → Int → (Int → Option α) → Option α) (F2 : Nat → Int → Int → Int → Int → Int → Int → Int → Int → Int → (Int → Option α) → Option α) (G15 : Nat → Int → Int → Int → Int → Int → Int → Int → Int → Int → Int → Int → Int → (List (Int × Int)) → (Int → Int → Int → Int → Int → Int → Int → Int → Int → Int → Int → Int → (List (Int × Int)) → Option α) → (Int → Option α) → ((List (Int × Int)) → Int → Option α) → Option α) (G12 : Nat → Int → Int → Int → Int → Int → Int → Int → Int → Int → Int → Int → (List (Int × Int)) → (Int → Int → Int → Int → Int → Int → Int → Int → Int → Int → Int → (List (Int × Int)) → Option α) → (Int → Option α) → ((List (Int × Int)) → Int → Option α) → Option α) (k : Nat) (turn1 : Int) (high1 : Int) (from_1 : Int) (to1 : Int) (x1 : Int) (y : Int) (t12 : Int) (t13 : Int) (t14 : Int) (t15 : Int) (t16 : Int) (t17 : Int) (out1 : List (Int × Int)) (b2 : Int → Int → Int → Int → Int → Int → Int → Int → Int → Int → Int → Int → (List (Int × Int)) → Option α) (r0 : Int → Option α) (r1 : (List (Int × Int)) → Int → Option α) : Option α :=
  bif decide (y ≤ to1) then
    F2 k t12 t13 t14 t15 t16 t17 0 x1 y fun v3 =>
    bif decide (0 < (w64 (turn1 * v3))) then
      F2 k t12 t13 t14 t15 t16 t17 1 x1 y fun v4 =>
      bif decide (0 < (w64 (turn1 * v4))) then
        F2 k t12 t13 t14 t15 t16 t17 2 x1 y fun v5 =>
        bif decide (0 < (w64 (turn1 * v5))) then
          bif decide (((List.length out1) + 1) ≤ big) then
            G15 k turn1 high1 from_1 to1 x1 (w64 (y + 1)) t12 t13 t14 t15 t16 t17 (out1 ++ [(x1, y)]) b2 r0 r1
          else
            none
        else
          G15 k turn1 high1 from_1 to1 x1 (w64 (y + 1)) t12 t13 t14 t15 t16 t17 out1 b2 r0 r1
      else
        G15 k turn1 high1 from_1 to1 x1 (w64 (y + 1)) t12 t13 t14 t15 t16 t17 out1 b2 r0 r1
    else
      G15 k turn1 high1 from_1 to1 x1 (w64 (y + 1)) t12 t13 t14 t15 t16 t17 out1 b2 r0 r1
  else
    b2 turn1 high1 from_1 to1 x1 y t12 t13 t14 t15 t16 t17 out1
theorem spec_InnerPoints_l15_gen {α : Type} (F0 : Nat → Int → Int → Int → Int → Int → Int → (Bool → Option α) → Option α) (F1 : Nat → Int → Int → Int → Int → Int → Int → (Int → Option α) → Option α) (F2 : Nat → Int → Int → Int → Int → Int → Int → Int → Int → Int → (Int → Option α) → Option α) (G15 : Nat → Int → Int → Int → Int → Int → Int → Int → Int → Int → Int → Int → Int → (List (Int × Int)) → (Int → Int → Int → Int → Int → Int → Int → Int → Int → Int → Int → Int → (List (Int × Int)) → Option α) → (Int → Option α) → ((List (Int × Int)) → Int → Option α) → Option α) (G12 : Nat → Int → Int → Int → Int → Int → Int → Int → Int → Int → Int → Int → (List (Int × Int)) → (Int → Int → Int → Int → Int → Int → Int → Int → Int → Int → Int → (List (Int × Int)) → Option α) → (Int → Option α) → ((List (Int × Int)) → Int → Option α) → Option α) (n : Nat) (turn1 : Int) (high1 : Int) (from_1 : Int) (to1 : Int) (x1 : Int) (y : Int) (t12 : Int) (t13 : Int) (t14 : Int) (t15 : Int) (t16 : Int) (t17 : Int) (out1 : List (Int × Int)) (brk : Nat → List P1 → Option α) (ret : Res → Option α) : ev ((spec_InnerPoints_XG F0 F1 F2 G15 G12 n).env Try.prog Try.f43 1 []) (findLoop (loopsIn (Try.f43.body.getD .skip)) 15) ((spec_InnerPoints_t15.build [.int turn1, .int high1, .int from_1, .int to1, .int x1, .int y, .int t12, .int t13, .int t14, .int t15, .int t16, .int t17, .rows .pt out1]).getD ⟨[], []⟩) (roundK (1 * 64) spec_InnerPoints_t15 (fun q => spec_InnerPoints_uG15 G15 n q brk ret) brk ret) = spec_InnerPoints_lb15 F0 F1 F2 G15 G12 n turn1 high1 from_1 to1 x1 y t12 t13 t14 t15 t16 t17 out1 (fun turn1 high1 from_1 to1 x1 y t12 t13 t14 t15 t16 t17 out1 => brk 2 [.int turn1, .int high1, .int from_1, .int to1, .int x1, .int y, .int t12, .int t13, .int t14, .int t15, .int t16, .int t17, .rows .pt out1]) (fun v1 => ret ⟨[.nilsl, .int .i64 v1], []⟩) (fun v1 v2 => ret ⟨[.sl 33 .pt v1, .int .i64 v2], []⟩) := by kernel_rfl
theorem spec_InnerPoints_l15_ev {α : Type} (n : Nat) (turn1 : Int) (high1 : Int) (from_1 : Int) (to1 : Int) (x1 : Int) (y : Int) (t12 : Int) (t13 : Int) (t14 : Int) (t15 : Int) (t16 : Int) (t17 : Int) (out1 : List (Int × Int)) (brk : Nat → List P1 → Option α) (ret : Res → Option α) : ev ((spec_InnerPoints_X n).env Try.prog Try.f43 1 []) (findLoop (loopsIn (Try.f43.body.getD .skip)) 15) ((spec_InnerPoints_t15.build [.int turn1, .int high1, .int from_1, .int to1, .int x1, .int y, .int t12, .int t13, .int t14, .int t15, .int t16, .int t17, .rows .pt out1]).getD ⟨[], []⟩) (roundK (1 * 64) spec_InnerPoints_t15 (fun q => spec_InnerPoints_u15 n q brk ret) brk ret) = spec_InnerPoints_u15 (n + 1) [.int turn1, .int high1, .int from_1, .int to1, .int x1, .int y, .int t12, .int t13, .int t14, .int t15, .int t16, .int t17, .rows .pt out1] brk ret := (spec_InnerPoints_l15_gen spec_l04Is spec_l04Inner spec_l04Side spec_InnerPoints_l15 spec_InnerPoints_l12 n turn1 high1 from_1 to1 x1 y t12 t13 t14 t15 t16 t17 out1 brk ret).trans (by kernel_rfl)
def spec_InnerPoints_lb12 {α : Type} (F0 : Nat → Int → Int → Int → Int → Int → Int → (Bool → Option α) → Option α) (F1 : Nat → Int → Int → Int → Int → Int → Int → (Int → Option α) → Option α) (F2 : Nat → Int → Int → Int → Int → Int → Int → Int → Int → Int → (Int → Option α) → Option α) (G15 : Nat → Int → Int → Int → Int → Int → Int → Int → Int → Int → Int → Int → Int → (List (Int × Int)) → (Int → Int → Int → Int → Int → Int → Int → Int → Int → Int → Int → Int → (List (Int × Int)) → Option α) → (Int → Option α) → ((List (Int × Int)) → Int → Option α) → Option α) (G12 : Nat → Int → Int → Int → Int → Int → Int → Int → Int → Int → Int → Int → (List (Int × Int)) → (Int → Int → Int → Int → Int → Int → Int → Int → Int → Int → Int → (List (Int × Int)) → Option α) → (Int → Option α) → ((List (Int × Int)) → Int → Option α) → Option α) (k : Nat) (turn : Int) (high : Int) (from_ : Int) (to : Int) (x : Int) (t6 : Int) (t7 : Int) (t8 : Int) (t9 : Int) (t10 : Int) (t11 : Int) (out : List (Int × Int)) (b0 : Int → Int → Int → Int → Int → Int → Int → Int → Int → Int → Int → (List (Int × Int)) → Option α) (r0 : Int → Option α) (r1 : (List (Int × Int)) → Int → Option α) : Option α :=
  bif decide (x ≤ high) then
    G15 k turn high from_ to x from_ t6 t7 t8 t9 t10 t11 out
      (fun turn2 high2 from_2 to2 x2 y1 t18 t19 t20 t21 t22 t23 out2 =>
        G12 k turn2 high2 from_2 to2 (w64 (x2 + 1)) t18 t19 t20 t21 t22 t23 out2 b0 r0 r1)
      r0 r1
  else
    b0 turn high from_ to x t6 t7 t8 t9 t10 t11 out
theorem spec_InnerPoints_l12_gen {α : Type} (F0 : Nat → Int → Int → Int → Int → Int → Int → (Bool → Option α) → Option α) (F1 : Nat → Int → Int → Int → Int → Int → Int → (Int → Option α) → Option α) (F2 : Nat → Int → Int → Int → Int → Int → Int → Int → Int → Int → (Int → Option α) → Option α) (G15 : Nat → Int → Int → Int → Int → Int → Int → Int → Int → Int → Int → Int → Int → (List (Int × Int)) → (Int → Int → Int → Int → Int → Int → Int → Int → Int → Int → Int → Int → (List (Int × Int)) → Option α) → (Int → Option α) → ((List (Int × Int)) → Int → Option α) → Option α) (G12 : Nat → Int → Int → Int → Int → Int → Int → Int → Int → Int → Int → Int → (List (Int × Int)) → (Int → Int → Int → Int → Int → Int → Int → Int → Int → Int → Int → (List (Int × Int)) → Option α) → (Int → Option α) → ((List (Int × Int)) → Int → Option α) → Option α) (n : Nat) (turn : Int) (high : Int) (from_ : Int) (to : Int) (x : Int) (t6 : Int) (t7 : Int) (t8 : Int) (t9 : Int) (t10 : Int) (t11 : Int) (out : List (Int × Int)) (brk : Nat → List P1 → Option α) (ret : Res → Option α) : ev ((spec_InnerPoints_XG F0 F1 F2 G15 G12 n).env Try.prog Try.f43 1 []) (findLoop (loopsIn (Try.f43.body.getD .skip)) 12) ((spec_InnerPoints_t12.build [.int turn, .int high, .int from_, .int to, .int x, .int t6, .int t7, .int t8, .int t9, .int t10, .int t11, .rows .pt out]).getD ⟨[], []⟩) (roundK (1 * 64) spec_InnerPoints_t12 (fun q => spec_InnerPoints_uG12 G12 n q brk ret) brk ret) = spec_InnerPoints_lb12 F0 F1 F2 G15 G12 n turn high from_ to x t6 t7 t8 t9 t10 t11 out (fun turn high from_ to x t6 t7 t8 t9 t10 t11 out => brk 0 [.int turn, .int high, .int from_, .int to, .int x, .int t6, .int t7, .int t8, .int t9, .int t10, .int t11, .rows .pt out]) (fun v1 => ret ⟨[.nilsl, .int .i64 v1], []⟩) (fun v1 v2 => ret ⟨[.sl 33 .pt v1, .int .i64 v2], []⟩) := by kernel_rfl
theorem spec_InnerPoints_l12_ev {α : Type} (n : Nat) (turn : Int) (high : Int) (from_ : Int) (to : Int) (x : Int) (t6 : Int) (t7 : Int) (t8 : Int) (t9 : Int) (t10 : Int) (t11 : Int) (out : List (Int × Int)) (brk : Nat → List P1 → Option α) (ret : Res → Option α) : ev ((spec_InnerPoints_X n).env Try.prog Try.f43 1 []) (findLoop (loopsIn (Try.f43.body.getD .skip)) 12) ((spec_InnerPoints_t12.build [.int turn, .int high, .int from_, .int to, .int x, .int t6, .int t7, .int t8, .int t9, .int t10, .int t11, .rows .pt out]).getD ⟨[], []⟩) (roundK (1 * 64) spec_InnerPoints_t12 (fun q => spec_InnerPoints_u12 n q brk ret) brk ret) = spec_InnerPoints_u12 (n + 1) [.int turn, .int high, .int from_, .int to, .int x, .int t6, .int t7, .int t8, .int t9, .int t10, .int t11, .rows .pt out] brk ret := (spec_InnerPoints_l12_gen spec_l04Is spec_l04Inner spec_l04Side spec_InnerPoints_l15 spec_InnerPoints_l12 n turn high from_ to x t6 t7 t8 t9 t10 t11 out brk ret).trans (by kernel_rfl)
def spec_InnerPoints_body {α : Type} (F0 : Nat → Int → Int → Int → Int → Int → Int → (Bool → Option α) → Option α) (F1 : Nat → Int → Int → Int → Int → Int → Int → (Int → Option α) → Option α) (F2 : Nat → Int → Int → Int → Int → Int → Int → Int → Int → Int → (Int → Option α) → Option α) (G15 : Nat → Int → Int → Int → Int → Int → Int → Int → Int → Int → Int → Int → Int → (List (Int × Int)) → (Int → Int → Int → Int → Int → Int → Int → Int → Int → Int → Int → Int → (List (Int × Int)) → Option α) → (Int → Option α) → ((List (Int × Int)) → Int → Option α) → Option α) (G12 : Nat → Int → Int → Int → Int → Int → Int → Int → Int → Int → Int → Int → (List (Int × Int)) → (Int → Int → Int → Int → Int → Int → Int → Int → Int → Int → Int → (List (Int × Int)) → Option α) → (Int → Option α) → ((List (Int × Int)) → Int → Option α) → Option α) (k : Nat) (t : Int) (t1 : Int) (t2 : Int) (t3 : Int) (t4 : Int) (t5 : Int) (r0 : Int → Option α) (r1 : (List (Int × Int)) → Int → Option α) : Option α :=
  F0 k t t1 t2 t3 t4 t5 fun v =>
  bif (!v) then
    r0 1
  else
    F1 k t t1 t2 t3 t4 t5 fun v1 =>
    bif decide (1000 < v1) then
      r0 3
    else
      F2 k t t1 t2 t3 t4 t5 0 t4 t5 fun v2 =>
      bif decide (v2 < 0) then
        G12 k (-1) (max (max t t2) t4) (min (min t1 t3) t5) (max (max t1 t3) t5) (min (min t t2) t4) t t1 t2 t3 t4 t5 []
          (fun turn3 high3 from_3 to3 x3 t24 t25 t26 t27 t28 t29 out3 =>
            r1 out3 0)
          r0 r1
      else
        G12 k 1 (max (max t t2) t4) (min (min t1 t3) t5) (max (max t1 t3) t5) (min (min t t2) t4) t t1 t2 t3 t4 t5 []
          (fun turn4 high4 from_4 to4 x4 t30 t31 t32 t33 t34 t35 out4 =>
            r1 out4 0)
          r0 r1
theorem spec_InnerPoints_gen {α : Type} (F0 : Nat → Int → Int → Int → Int → Int → Int → (Bool → Option α) → Option α) (F1 : Nat → Int → Int → Int → Int → Int → Int → (Int → Option α) → Option α) (F2 : Nat → Int → Int → Int → Int → Int → Int → Int → Int → Int → (Int → Option α) → Option α) (G15 : Nat → Int → Int → Int → Int → Int → Int → Int → Int → Int → Int → Int → Int → (List (Int × Int)) → (Int → Int → Int → Int → Int → Int → Int → Int → Int → Int → Int → Int → (List (Int × Int)) → Option α) → (Int → Option α) → ((List (Int × Int)) → Int → Option α) → Option α) (G12 : Nat → Int → Int → Int → Int → Int → Int → Int → Int → Int → Int → Int → (List (Int × Int)) → (Int → Int → Int → Int → Int → Int → Int → Int → Int → Int → Int → (List (Int × Int)) → Option α) → (Int → Option α) → ((List (Int × Int)) → Int → Option α) → Option α) (n : Nat) (t : Int) (t1 : Int) (t2 : Int) (t3 : Int) (t4 : Int) (t5 : Int) (κ : Res → Option α) : evFn Try.prog (spec_InnerPoints_XG F0 F1 F2 G15 G12 n) Try.f43 (((buildDs spec_InnerPoints_sh [.int t, .int t1, .int t2, .int t3, .int t4, .int t5]).map Prod.fst).getD []) κ = spec_InnerPoints_body F0 F1 F2 G15 G12 n t t1 t2 t3 t4 t5 (fun v1 => κ ⟨[.nilsl, .int .i64 v1], []⟩) (fun v1 v2 => κ ⟨[.sl 33 .pt v1, .int .i64 v2], []⟩) := by kernel_rfl
theorem spec_InnerPoints_ev {α : Type} (n : Nat) (t : Int) (t1 : Int) (t2 : Int) (t3 : Int) (t4 : Int) (t5 : Int) (κ : Res → Option α) : evFn Try.prog (spec_InnerPoints_X n) Try.f43 (((buildDs spec_InnerPoints_sh [.int t, .int t1, .int t2, .int t3, .int t4, .int t5]).map Prod.fst).getD []) κ = spec_InnerPoints_run n [.int t, .int t1, .int t2, .int t3, .int t4, .int t5] κ := (spec_InnerPoints_gen spec_l04Is spec_l04Inner spec_l04Side spec_InnerPoints_l15 spec_InnerPoints_l12 n t t1 t2 t3 t4 t5 κ).trans (by kernel_rfl)
theorem spec_InnerPoints_en (t : Int) (t1 : Int) (t2 : Int) (t3 : Int) (t4 : Int) (t5 : Int) : (entry 0 (((buildDs spec_InnerPoints_sh [.int t, .int t1, .int t2, .int t3, .int t4, .int t5]).map Prod.fst).getD [])).map (fun x => (x.1.length, x.2.lent)) = some (1, []) := by kernel_rfl
theorem spec_InnerPoints_good {α : Type} : ∀ n, GoodFn (α := α) Try.prog 43 (byShape spec_InnerPoints_sh (spec_InnerPoints_run n)) := by
  refine fn_good' Try.func43 (c := (Try.f43.body.getD .skip)) (by kernel_rfl) (by kernel_rfl) (by kernel_rfl) spec_InnerPoints_C spec_InnerPoints_M eqs spec_InnerPoints_lps (fun n => tabC_good (List.forall_mem_cons.2 ⟨(spec_l04Is_good n), (List.forall_mem_cons.2 ⟨(spec_l04Inner_good n), (List.forall_mem_cons.2 ⟨(spec_l04Side_good n), (fun _ h => absurd h List.not_mem_nil)⟩)⟩)⟩)) eqs_ok spec_InnerPoints_Lt ?_ ?_ spec_InnerPoints_sh spec_InnerPoints_run ?_
  · refine List.forall_mem_cons.2 ⟨?_, List.forall_mem_cons.2 ⟨?_, (fun _ h => absurd h List.not_mem_nil)⟩⟩
    · intro p brk ret; show spec_InnerPoints_u15 0 p brk ret = none; unfold spec_InnerPoints_u15 spec_InnerPoints_uG15; split <;> rfl
    · intro p brk ret; show spec_InnerPoints_u12 0 p brk ret = none; unfold spec_InnerPoints_u12 spec_InnerPoints_uG12; split <;> rfl
  · refine List.forall_mem_cons.2 ⟨?_, List.forall_mem_cons.2 ⟨?_, (fun _ h => absurd h List.not_mem_nil)⟩⟩
    · intro np lent hL n p brk ret st r hb hr
      obtain ⟨rfl, rfl⟩ := hL
      rw [← tpl_of hb]
      change spec_InnerPoints_u15 (n + 1) p brk ret = some r at hr
      have hr0 := hr
      unfold spec_InnerPoints_u15 spec_InnerPoints_uG15 at hr
      split at hr
      · exact (spec_InnerPoints_l15_ev n _ _ _ _ _ _ _ _ _ _ _ _ _ brk ret).trans hr0
      · cases hr
    · intro np lent hL n p brk ret st r hb hr
      obtain ⟨rfl, rfl⟩ := hL
      rw [← tpl_of hb]
      change spec_InnerPoints_u12 (n + 1) p brk ret = some r at hr
      have hr0 := hr
      unfold spec_InnerPoints_u12 spec_InnerPoints_uG12 at hr
      split at hr
      · exact (spec_InnerPoints_l12_ev n _ _ _ _ _ _ _ _ _ _ _ _ brk ret).trans hr0
      · cases hr
  · intro n p κ r ds hd hr
    have hr0 := hr
    unfold spec_InnerPoints_run spec_InnerPoints_runG at hr
    split at hr
    · rw [← ds_of hd]
      exact ⟨en_of (spec_InnerPoints_en _ _ _ _ _ _) ⟨rfl, rfl⟩, (spec_InnerPoints_ev n _ _ _ _ _ _ κ).trans hr0⟩
    · cases hr

/-! loop.example/g01297/impl.in -/
def impl_in_sh : List SkD := [.int .i64, .int .i64, .int .i64]
def impl_in_runG {α : Type} (F : Nat → Int → Int → Int → (Bool → Option α) → Option α) (n : Nat) (p : List P1) (κ : Res → Option α) : Option α := match p with
  | [.int n_, .int low, .int high] => F n n_ low high (fun v1 => κ ⟨[.bool v1], []⟩)
  | _ => none
def impl_in_run {α : Type} (n : Nat) (p : List P1) (κ : Res → Option α) : Option α := impl_in_runG impl_in n p κ
def impl_in_CG {α : Type}  (n : Nat) : FuncId → List D → (Res → Option α) → Option α := tabC []
def impl_in_C {α : Type} (n : Nat) : FuncId → List D → (Res → Option α) → Option α := impl_in_CG n
def impl_in_M : FuncId → List Nat := tabM []
def impl_in_lpsG {α : Type}  : List (LoopT α) := []
def impl_in_lps {α : Type} : List (LoopT α) := impl_in_lpsG
def impl_in_XG {α : Type}   (n : Nat) : Ctx α := ⟨impl_in_CG n, impl_in_M, eqs, lpOf (impl_in_lpsG) n⟩
def impl_in_X {α : Type} (n : Nat) : Ctx α := impl_in_XG n
def impl_in_Lt (np : Nat) (lent : List (Bool × Nat × Blk)) : Prop := np = 3 ∧ lent = []
def impl_in_body {α : Type}   (k : Nat) (n_ : Int) (low : Int) (high : Int) (r0 : Bool → Option α) : Option α :=
  bif decide (low ≤ n_) then
    r0 (decide (n_ ≤ high))
  else
    r0 false
theorem impl_in_gen {α : Type}   (n : Nat) (n_ : Int) (low : Int) (high : Int) (κ : Res → Option α) : evFn Try.prog (impl_in_XG n) Try.f76 (((buildDs impl_in_sh [.int n_, .int low, .int high]).map Prod.fst).getD []) κ = impl_in_body n n_ low high (fun v1 => κ ⟨[.bool v1], []⟩) := by kernel_rfl
theorem impl_in_ev {α : Type} (n : Nat) (n_ : Int) (low : Int) (high : Int) (κ : Res → Option α) : evFn Try.prog (impl_in_X n) Try.f76 (((buildDs impl_in_sh [.int n_, .int low, .int high]).map Prod.fst).getD []) κ = impl_in_run n [.int n_, .int low, .int high] κ := (impl_in_gen n n_ low high κ).trans (by kernel_rfl)
theorem impl_in_en (n_ : Int) (low : Int) (high : Int) : (entry 0 (((buildDs impl_in_sh [.int n_, .int low, .int high]).map Prod.fst).getD [])).map (fun x => (x.1.length, x.2.lent)) = some (3, []) := by kernel_rfl
theorem impl_in_good {α : Type} : ∀ n, GoodFn (α := α) Try.prog 76 (byShape impl_in_sh (impl_in_run n)) := by
  refine fn_good' Try.func76 (c := (Try.f76.body.getD .skip)) (by kernel_rfl) (by kernel_rfl) (by kernel_rfl) impl_in_C impl_in_M eqs impl_in_lps (fun n => tabC_good (fun _ h => absurd h List.not_mem_nil)) eqs_ok impl_in_Lt ?_ ?_ impl_in_sh impl_in_run ?_
  · exact (fun _ h => absurd h List.not_mem_nil)
  · exact (fun _ h => absurd h List.not_mem_nil)
  · intro n p κ r ds hd hr
    have hr0 := hr
    unfold impl_in_run impl_in_runG at hr
    split at hr
    · rw [← ds_of hd]
      exact ⟨en_of (impl_in_en _ _ _) ⟨rfl, rfl⟩, (impl_in_ev n _ _ _ κ).trans hr0⟩
    · cases hr

/-! loop.example/g01297/impl.small -/
def impl_small_sh : List SkD := [.agg [.int .i64, .int .i64]]
def impl_small_runG {α : Type} (F : Nat → Int → Int → (Bool → Option α) → Option α) (n : Nat) (p : List P1) (κ : Res → Option α) : Option α := match p with
  | [.int a, .int a1] => F n a a1 (fun v1 => κ ⟨[.bool v1], []⟩)
  | _ => none
def impl_small_run {α : Type} (n : Nat) (p : List P1) (κ : Res → Option α) : Option α := impl_small_runG impl_small n p κ
def impl_small_CG {α : Type} (F0 : Nat → Int → Int → Int → (Bool → Option α) → Option α) (n : Nat) : FuncId → List D → (Res → Option α) → Option α := tabC [(76, (byShape impl_in_sh (impl_in_runG F0 n)))]
def impl_small_C {α : Type} (n : Nat) : FuncId → List D → (Res → Option α) → Option α := impl_small_CG impl_in n
def impl_small_M : FuncId → List Nat := tabM []
def impl_small_lpsG {α : Type}  : List (LoopT α) := []
def impl_small_lps {α : Type} : List (LoopT α) := impl_small_lpsG
def impl_small_XG {α : Type} (F0 : Nat → Int → Int → Int → (Bool → Option α) → Option α)  (n : Nat) : Ctx α := ⟨impl_small_CG F0 n, impl_small_M, eqs, lpOf (impl_small_lpsG) n⟩
def impl_small_X {α : Type} (n : Nat) : Ctx α := impl_small_XG impl_in n
def impl_small_Lt (np : Nat) (lent : List (Bool × Nat × Blk)) : Prop := np = 1 ∧ lent = []
def impl_small_body {α : Type} (F0 : Nat → Int → Int → Int → (Bool → Option α) → Option α)  (k : Nat) (a : Int) (a1 : Int) (r0 : Bool → Option α) : Option α :=
  F0 k a (-1000) 1000 fun v =>
  bif v then
    F0 k a1 (-1000) 1000 fun v1 =>
    r0 v1
  else
    r0 false
theorem impl_small_gen {α : Type} (F0 : Nat → Int → Int → Int → (Bool → Option α) → Option α)  (n : Nat) (a : Int) (a1 : Int) (κ : Res → Option α) : evFn Try.prog (impl_small_XG F0 n) Try.f124 (((buildDs impl_small_sh [.int a, .int a1]).map Prod.fst).getD []) κ = impl_small_body F0 n a a1 (fun v1 => κ ⟨[.bool v1], []⟩) := by kernel_rfl
theorem impl_small_ev {α : Type} (n : Nat) (a : Int) (a1 : Int) (κ : Res → Option α) : evFn Try.prog (impl_small_X n) Try.f124 (((buildDs impl_small_sh [.int a, .int a1]).map Prod.fst).getD []) κ = impl_small_run n [.int a, .int a1] κ := (impl_small_gen impl_in n a a1 κ).trans (by kernel_rfl)
theorem impl_small_en (a : Int) (a1 : Int) : (entry 0 (((buildDs impl_small_sh [.int a, .int a1]).map Prod.fst).getD [])).map (fun x => (x.1.length, x.2.lent)) = some (1, []) := by kernel_rfl
theorem impl_small_good {α : Type} : ∀ n, GoodFn (α := α) Try.prog 124 (byShape impl_small_sh (impl_small_run n)) := by
  refine fn_good' Try.func124 (c := (Try.f124.body.getD .skip)) (by kernel_rfl) (by kernel_rfl) (by kernel_rfl) impl_small_C impl_small_M eqs impl_small_lps (fun n => tabC_good (List.forall_mem_cons.2 ⟨(impl_in_good n), (fun _ h => absurd h List.not_mem_nil)⟩)) eqs_ok impl_small_Lt ?_ ?_ impl_small_sh impl_small_run ?_
  · exact (fun _ h => absurd h List.not_mem_nil)
  · exact (fun _ h => absurd h List.not_mem_nil)
  · intro n p κ r ds hd hr
    have hr0 := hr
    unfold impl_small_run impl_small_runG at hr
    split at hr
    · rw [← ds_of hd]
      exact ⟨en_of (impl_small_en _ _) ⟨rfl, rfl⟩, (impl_small_ev n _ _ κ).trans hr0⟩
    · cases hr

/-! (loop.example/g01297/impl.Point).plus -/
def impl_Point_plus_sh : List SkD := [.agg [.int .i64, .int .i64], .agg [.int .i64, .int .i64], .int .i64]
def impl_Point_plus_runG {α : Type} (F : Nat → Int → Int → Int → Int → Int → (Int → Int → Option α) → Option α) (n : Nat) (p : List P1) (κ : Res → Option α) : Option α := match p with
  | [.int a, .int a1, .int b_, .int b_1, .int k_] => F n a a1 b_ b_1 k_ (fun v1 v2 => κ ⟨[.agg [.int .i64 v1, .int .i64 v2]], []⟩)
  | _ => none
def impl_Point_plus_run {α : Type} (n : Nat) (p : List P1) (κ : Res → Option α) : Option α := impl_Point_plus_runG impl_Point_plus n p κ
def impl_Point_plus_CG {α : Type}  (n : Nat) : FuncId → List D → (Res → Option α) → Option α := tabC []
def impl_Point_plus_C {α : Type} (n : Nat) : FuncId → List D → (Res → Option α) → Option α := impl_Point_plus_CG n
def impl_Point_plus_M : FuncId → List Nat := tabM []
def impl_Point_plus_lpsG {α : Type}  : List (LoopT α) := []
def impl_Point_plus_lps {α : Type} : List (LoopT α) := impl_Point_plus_lpsG
def impl_Point_plus_XG {α : Type}   (n : Nat) : Ctx α := ⟨impl_Point_plus_CG n, impl_Point_plus_M, eqs, lpOf (impl_Point_plus_lpsG) n⟩
def impl_Point_plus_X {α : Type} (n : Nat) : Ctx α := impl_Point_plus_XG n
def impl_Point_plus_Lt (np : Nat) (lent : List (Bool × Nat × Blk)) : Prop := np = 3 ∧ lent = []
def impl_Point_plus_body {α : Type}   (k : Nat) (a : Int) (a1 : Int) (b_ : Int) (b_1 : Int) (k_ : Int) (r0 : Int → Int → Option α) : Option α :=
  r0 (w64 (a + (w64 (k_ * b_)))) (w64 (a1 + (w64 (k_ * b_1))))
theorem impl_Point_plus_gen {α : Type}   (n : Nat) (a : Int) (a1 : Int) (b_ : Int) (b_1 : Int) (k_ : Int) (κ : Res → Option α) : evFn Try.prog (impl_Point_plus_XG n) Try.f64 (((buildDs impl_Point_plus_sh [.int a, .int a1, .int b_, .int b_1, .int k_]).map Prod.fst).getD []) κ = impl_Point_plus_body n a a1 b_ b_1 k_ (fun v1 v2 => κ ⟨[.agg [.int .i64 v1, .int .i64 v2]], []⟩) := by kernel_rfl
theorem impl_Point_plus_ev {α : Type} (n : Nat) (a : Int) (a1 : Int) (b_ : Int) (b_1 : Int) (k_ : Int) (κ : Res → Option α) : evFn Try.prog (impl_Point_plus_X n) Try.f64 (((buildDs impl_Point_plus_sh [.int a, .int a1, .int b_, .int b_1, .int k_]).map Prod.fst).getD []) κ = impl_Point_plus_run n [.int a, .int a1, .int b_, .int b_1, .int k_] κ := (impl_Point_plus_gen n a a1 b_ b_1 k_ κ).trans (by kernel_rfl)
theorem impl_Point_plus_en (a : Int) (a1 : Int) (b_ : Int) (b_1 : Int) (k_ : Int) : (entry 0 (((buildDs impl_Point_plus_sh [.int a, .int a1, .int b_, .int b_1, .int k_]).map Prod.fst).getD [])).map (fun x => (x.1.length, x.2.lent)) = some (3, []) := by kernel_rfl
theorem impl_Point_plus_good {α : Type} : ∀ n, GoodFn (α := α) Try.prog 64 (byShape impl_Point_plus_sh (impl_Point_plus_run n)) := by
  refine fn_good' Try.func64 (c := (Try.f64.body.getD .skip)) (by kernel_rfl) (by kernel_rfl) (by kernel_rfl) impl_Point_plus_C impl_Point_plus_M eqs impl_Point_plus_lps (fun n => tabC_good (fun _ h => absurd h List.not_mem_nil)) eqs_ok impl_Point_plus_Lt ?_ ?_ impl_Point_plus_sh impl_Point_plus_run ?_
  · exact (fun _ h => absurd h List.not_mem_nil)
  · exact (fun _ h => absurd h List.not_mem_nil)
  · intro n p κ r ds hd hr
    have hr0 := hr
    unfold impl_Point_plus_run impl_Point_plus_runG at hr
    split at hr
    · rw [← ds_of hd]
      exact ⟨en_of (impl_Point_plus_en _ _ _ _ _) ⟨rfl, rfl⟩, (impl_Point_plus_ev n _ _ _ _ _ κ).trans hr0⟩
    · cases hr

/-! (loop.example/g01297/impl.Point).less -/
def impl_Point_less_sh : List SkD := [.agg [.int .i64, .int .i64], .agg [.int .i64, .int .i64]]
def impl_Point_less_runG {α : Type} (F : Nat → Int → Int → Int → Int → (Int → Int → Option α) → Option α) (n : Nat) (p : List P1) (κ : Res → Option α) : Option α := match p with
  | [.int a, .int a1, .int b_, .int b_1] => F n a a1 b_ b_1 (fun v1 v2 => κ ⟨[.agg [.int .i64 v1, .int .i64 v2]], []⟩)
  | _ => none
def impl_Point_less_run {α : Type} (n : Nat) (p : List P1) (κ : Res → Option α) : Option α := impl_Point_less_runG impl_Point_less n p κ
def impl_Point_less_CG {α : Type} (F0 : Nat → Int → Int → Int → Int → Int → (Int → Int → Option α) → Option α) (n : Nat) : FuncId → List D → (Res → Option α) → Option α := tabC [(64, (byShape impl_Point_plus_sh (impl_Point_plus_runG F0 n)))]
def impl_Point_less_C {α : Type} (n : Nat) : FuncId → List D → (Res → Option α) → Option α := impl_Point_less_CG impl_Point_plus n
def impl_Point_less_M : FuncId → List Nat := tabM []
def impl_Point_less_lpsG {α : Type}  : List (LoopT α) := []
def impl_Point_less_lps {α : Type} : List (LoopT α) := impl_Point_less_lpsG
def impl_Point_less_XG {α : Type} (F0 : Nat → Int → Int → Int → Int → Int → (Int → Int → Option α) → Option α)  (n : Nat) : Ctx α := ⟨impl_Point_less_CG F0 n, impl_Point_less_M, eqs, lpOf (impl_Point_less_lpsG) n⟩
def impl_Point_less_X {α : Type} (n : Nat) : Ctx α := impl_Point_less_XG impl_Point_plus n
def impl_Point_less_Lt (np : Nat) (lent : List (Bool × Nat × Blk)) : Prop := np = 2 ∧ lent = []
def impl_Point_less_body {α : Type} (F0 : Nat → Int → Int → Int → Int → Int → (Int → Int → Option α) → Option α)  (k : Nat) (a : Int) (a1 : Int) (b_ : Int) (b_1 : Int) (r0 : Int → Int → Option α) : Option α :=
  F0 k a a1 b_ b_1 (-1) fun v v1 =>
  r0 v v1
theorem impl_Point_less_gen {α : Type} (F0 : Nat → Int → Int → Int → Int → Int → (Int → Int → Option α) → Option α)  (n : Nat) (a : Int) (a1 : Int) (b_ : Int) (b_1 : Int) (κ : Res → Option α) : evFn Try.prog (impl_Point_less_XG F0 n) Try.f134 (((buildDs impl_Point_less_sh [.int a, .int a1, .int b_, .int b_1]).map Prod.fst).getD []) κ = impl_Point_less_body F0 n a a1 b_ b_1 (fun v1 v2 => κ ⟨[.agg [.int .i64 v1, .int .i64 v2]], []⟩) := by kernel_rfl
theorem impl_Point_less_ev {α : Type} (n : Nat) (a : Int) (a1 : Int) (b_ : Int) (b_1 : Int) (κ : Res → Option α) : evFn Try.prog (impl_Point_less_X n) Try.f134 (((buildDs impl_Point_less_sh [.int a, .int a1, .int b_, .int b_1]).map Prod.fst).getD []) κ = impl_Point_less_run n [.int a, .int a1, .int b_, .int b_1] κ := (impl_Point_less_gen impl_Point_plus n a a1 b_ b_1 κ).trans (by kernel_rfl)
theorem impl_Point_less_en (a : Int) (a1 : Int) (b_ : Int) (b_1 : Int) : (entry 0 (((buildDs impl_Point_less_sh [.int a, .int a1, .int b_, .int b_1]).map Prod.fst).getD [])).map (fun x => (x.1.length, x.2.lent)) = some (2, []) := by kernel_rfl
theorem impl_Point_less_good {α : Type} : ∀ n, GoodFn (α := α) Try.prog 134 (byShape impl_Point_less_sh (impl_Point_less_run n)) := by
  refine fn_good' Try.func134 (c := (Try.f134.body.getD .skip)) (by kernel_rfl) (by kernel_rfl) (by kernel_rfl) impl_Point_less_C impl_Point_less_M eqs impl_Point_less_lps (fun n => tabC_good (List.forall_mem_cons.2 ⟨(impl_Point_plus_good n), (fun _ h => absurd h List.not_mem_nil)⟩)) eqs_ok impl_Point_less_Lt ?_ ?_ impl_Point_less_sh impl_Point_less_run ?_
  · exact (fun _ h => absurd h List.not_mem_nil)
  · exact (fun _ h => absurd h List.not_mem_nil)
  · intro n p κ r ds hd hr
    have hr0 := hr
    unfold impl_Point_less_run impl_Point_less_runG at hr
    split at hr
    · rw [← ds_of hd]
      exact ⟨en_of (impl_Point_less_en _ _ _ _) ⟨rfl, rfl⟩, (impl_Point_less_ev n _ _ _ _ κ).trans hr0⟩
    · cases hr

/-! loop.example/g01297/impl.det -/
def impl_det_sh : List SkD := [.agg [.int .i64, .int .i64], .agg [.int .i64, .int .i64]]
def impl_det_runG {α : Type} (F : Nat → Int → Int → Int → Int → (Int → Option α) → Option α) (n : Nat) (p : List P1) (κ : Res → Option α) : Option α := match p with
  | [.int a, .int a1, .int b_, .int b_1] => F n a a1 b_ b_1 (fun v1 => κ ⟨[.int .i64 v1], []⟩)
  | _ => none
def impl_det_run {α : Type} (n : Nat) (p : List P1) (κ : Res → Option α) : Option α := impl_det_runG impl_det n p κ
def impl_det_CG {α : Type}  (n : Nat) : FuncId → List D → (Res → Option α) → Option α := tabC []
def impl_det_C {α : Type} (n : Nat) : FuncId → List D → (Res → Option α) → Option α := impl_det_CG n
def impl_det_M : FuncId → List Nat := tabM []
def impl_det_lpsG {α : Type}  : List (LoopT α) := []
def impl_det_lps {α : Type} : List (LoopT α) := impl_det_lpsG
def impl_det_XG {α : Type}   (n : Nat) : Ctx α := ⟨impl_det_CG n, impl_det_M, eqs, lpOf (impl_det_lpsG) n⟩
def impl_det_X {α : Type} (n : Nat) : Ctx α := impl_det_XG n
def impl_det_Lt (np : Nat) (lent : List (Bool × Nat × Blk)) : Prop := np = 2 ∧ lent = []
def impl_det_body {α : Type}   (k : Nat) (a : Int) (a1 : Int) (b_ : Int) (b_1 : Int) (r0 : Int → Option α) : Option α :=
  r0 (w64 ((w64 (a * b_1)) - (w64 (a1 * b_))))
theorem impl_det_gen {α : Type}   (n : Nat) (a : Int) (a1 : Int) (b_ : Int) (b_1 : Int) (κ : Res → Option α) : evFn Try.prog (impl_det_XG n) Try.f115 (((buildDs impl_det_sh [.int a, .int a1, .int b_, .int b_1]).map Prod.fst).getD []) κ = impl_det_body n a a1 b_ b_1 (fun v1 => κ ⟨[.int .i64 v1], []⟩) := by kernel_rfl
theorem impl_det_ev {α : Type} (n : Nat) (a : Int) (a1 : Int) (b_ : Int) (b_1 : Int) (κ : Res → Option α) : evFn Try.prog (impl_det_X n) Try.f115 (((buildDs impl_det_sh [.int a, .int a1, .int b_, .int b_1]).map Prod.fst).getD []) κ = impl_det_run n [.int a, .int a1, .int b_, .int b_1] κ := (impl_det_gen n a a1 b_ b_1 κ).trans (by kernel_rfl)
theorem impl_det_en (a : Int) (a1 : Int) (b_ : Int) (b_1 : Int) : (entry 0 (((buildDs impl_det_sh [.int a, .int a1, .int b_, .int b_1]).map Prod.fst).getD [])).map (fun x => (x.1.length, x.2.lent)) = some (2, []) := by kernel_rfl
theorem impl_det_good {α : Type} : ∀ n, GoodFn (α := α) Try.prog 115 (byShape impl_det_sh (impl_det_run n)) := by
  refine fn_good' Try.func115 (c := (Try.f115.body.getD .skip)) (by kernel_rfl) (by kernel_rfl) (by kernel_rfl) impl_det_C impl_det_M eqs impl_det_lps (fun n => tabC_good (fun _ h => absurd h List.not_mem_nil)) eqs_ok impl_det_Lt ?_ ?_ impl_det_sh impl_det_run ?_
  · exact (fun _ h => absurd h List.not_mem_nil)
  · exact (fun _ h => absurd h List.not_mem_nil)
  · intro n p κ r ds hd hr
    have hr0 := hr
    unfold impl_det_run impl_det_runG at hr
    split at hr
    · rw [← ds_of hd]
      exact ⟨en_of (impl_det_en _ _ _ _) ⟨rfl, rfl⟩, (impl_det_ev n _ _ _ _ κ).trans hr0⟩
    · cases hr

/-! loop.example/g01297/impl.size -/
def impl_size_sh : List SkD := [.int .i64]
def impl_size_runG {α : Type} (F : Nat → Int → (Int → Option α) → Option α) (n : Nat) (p : List P1) (κ : Res → Option α) : Option α := match p with
  | [.int n_] => F n n_ (fun v1 => κ ⟨[.int .i64 v1], []⟩)
  | _ => none
def impl_size_run {α : Type} (n : Nat) (p : List P1) (κ : Res → Option α) : Option α := impl_size_runG impl_size n p κ
def impl_size_CG {α : Type}  (n : Nat) : FuncId → List D → (Res → Option α) → Option α := tabC []
def impl_size_C {α : Type} (n : Nat) : FuncId → List D → (Res → Option α) → Option α := impl_size_CG n
def impl_size_M : FuncId → List Nat := tabM []
def impl_size_lpsG {α : Type}  : List (LoopT α) := []
def impl_size_lps {α : Type} : List (LoopT α) := impl_size_lpsG
def impl_size_XG {α : Type}   (n : Nat) : Ctx α := ⟨impl_size_CG n, impl_size_M, eqs, lpOf (impl_size_lpsG) n⟩
def impl_size_X {α : Type} (n : Nat) : Ctx α := impl_size_XG n
def impl_size_Lt (np : Nat) (lent : List (Bool × Nat × Blk)) : Prop := np = 1 ∧ lent = []
def impl_size_body {α : Type}   (k : Nat) (n_ : Int) (r0 : Int → Option α) : Option α :=
  r0 (max n_ (w64 (0 - n_)))
theorem impl_size_gen {α : Type}   (n : Nat) (n_ : Int) (κ : Res → Option α) : evFn Try.prog (impl_size_XG n) Try.f116 (((buildDs impl_size_sh [.int n_]).map Prod.fst).getD []) κ = impl_size_body n n_ (fun v1 => κ ⟨[.int .i64 v1], []⟩) := by kernel_rfl
theorem impl_size_ev {α : Type} (n : Nat) (n_ : Int) (κ : Res → Option α) : evFn Try.prog (impl_size_X n) Try.f116 (((buildDs impl_size_sh [.int n_]).map Prod.fst).getD []) κ = impl_size_run n [.int n_] κ := (impl_size_gen n n_ κ).trans (by kernel_rfl)
theorem impl_size_en (n_ : Int) : (entry 0 (((buildDs impl_size_sh [.int n_]).map Prod.fst).getD [])).map (fun x => (x.1.length, x.2.lent)) = some (1, []) := by kernel_rfl
theorem impl_size_good {α : Type} : ∀ n, GoodFn (α := α) Try.prog 116 (byShape impl_size_sh (impl_size_run n)) := by
  refine fn_good' Try.func116 (c := (Try.f116.body.getD .skip)) (by kernel_rfl) (by kernel_rfl) (by kernel_rfl) impl_size_C impl_size_M eqs impl_size_lps (fun n => tabC_good (fun _ h => absurd h List.not_mem_nil)) eqs_ok impl_size_Lt ?_ ?_ impl_size_sh impl_size_run ?_
  · exact (fun _ h => absurd h List.not_mem_nil)
  · exact (fun _ h => absurd h List.not_mem_nil)
  · intro n p κ r ds hd hr
    have hr0 := hr
    unfold impl_size_run impl_size_runG at hr
    split at hr
    · rw [← ds_of hd]
      exact ⟨en_of (impl_size_en _) ⟨rfl, rfl⟩, (impl_size_ev n _ κ).trans hr0⟩
    · cases hr

/-! loop.example/g01297/impl.area -/
def impl_area_sh : List SkD := [.agg [.int .i64, .int .i64], .agg [.int .i64, .int .i64], .agg [.int .i64, .int .i64]]
def impl_area_runG {α : Type} (F : Nat → Int → Int → Int → Int → Int → Int → (Int → Option α) → Option α) (n : Nat) (p : List P1) (κ : Res → Option α) : Option α := match p with
  | [.int a, .int a1, .int b_, .int b_1, .int c, .int c1] => F n a a1 b_ b_1 c c1 (fun v1 => κ ⟨[.int .i64 v1], []⟩)
  | _ => none
def impl_area_run {α : Type} (n : Nat) (p : List P1) (κ : Res → Option α) : Option α := impl_area_runG impl_area n p κ
def impl_area_CG {α : Type} (F0 : Nat → Int → Int → Int → Int → (Int → Int → Option α) → Option α) (F1 : Nat → Int → Int → Int → Int → (Int → Option α) → Option α) (F2 : Nat → Int → (Int → Option α) → Option α) (n : Nat) : FuncId → List D → (Res → Option α) → Option α := tabC [(134, (byShape impl_Point_less_sh (impl_Point_less_runG F0 n))), (115, (byShape impl_det_sh (impl_det_runG F1 n))), (116, (byShape impl_size_sh (impl_size_runG F2 n)))]
def impl_area_C {α : Type} (n : Nat) : FuncId → List D → (Res → Option α) → Option α := impl_area_CG impl_Point_less impl_det impl_size n
def impl_area_M : FuncId → List Nat := tabM []
def impl_area_lpsG {α : Type}  : List (LoopT α) := []
def impl_area_lps {α : Type} : List (LoopT α) := impl_area_lpsG
def impl_area_XG {α : Type} (F0 : Nat → Int → Int → Int → Int → (Int → Int → Option α) → Option α) (F1 : Nat → Int → Int → Int → Int → (Int → Option α) → Option α) (F2 : Nat → Int → (Int → Option α) → Option α)  (n : Nat) : Ctx α := ⟨impl_area_CG F0 F1 F2 n, impl_area_M, eqs, lpOf (impl_area_lpsG) n⟩
def impl_area_X {α : Type} (n : Nat) : Ctx α := impl_area_XG impl_Point_less impl_det impl_size n
def impl_area_Lt (np : Nat) (lent : List (Bool × Nat × Blk)) : Prop := np = 3 ∧ lent = []
def impl_area_body {α : Type} (F0 : Nat → Int → Int → Int → Int → (Int → Int → Option α) → Option α) (F1 : Nat → Int → Int → Int → Int → (Int → Option α) → Option α) (F2 : Nat → Int → (Int → Option α) → Option α)  (k : Nat) (a : Int) (a1 : Int) (b_ : Int) (b_1 : Int) (c : Int) (c1 : Int) (r0 : Int → Option α) : Option α :=
  F0 k b_ b_1 a a1 fun v v1 =>
  F0 k c c1 a a1 fun v2 v3 =>
  F1 k v v1 v2 v3 fun v4 =>
  F2 k v4 fun v5 =>
  r0 v5
theorem impl_area_gen {α : Type} (F0 : Nat → Int → Int → Int → Int → (Int → Int → Option α) → Option α) (F1 : Nat → Int → Int → Int → Int → (Int → Option α) → Option α) (F2 : Nat → Int → (Int → Option α) → Option α)  (n : Nat) (a : Int) (a1 : Int) (b_ : Int) (b_1 : Int) (c : Int) (c1 : Int) (κ : Res → Option α) : evFn Try.prog (impl_area_XG F0 F1 F2 n) Try.f125 (((buildDs impl_area_sh [.int a, .int a1, .int b_, .int b_1, .int c, .int c1]).map Prod.fst).getD []) κ = impl_area_body F0 F1 F2 n a a1 b_ b_1 c c1 (fun v1 => κ ⟨[.int .i64 v1], []⟩) := by kernel_rfl
theorem impl_area_ev {α : Type} (n : Nat) (a : Int) (a1 : Int) (b_ : Int) (b_1 : Int) (c : Int) (c1 : Int) (κ : Res → Option α) : evFn Try.prog (impl_area_X n) Try.f125 (((buildDs impl_area_sh [.int a, .int a1, .int b_, .int b_1, .int c, .int c1]).map Prod.fst).getD []) κ = impl_area_run n [.int a, .int a1, .int b_, .int b_1, .int c, .int c1] κ := (impl_area_gen impl_Point_less impl_det impl_size n a a1 b_ b_1 c c1 κ).trans (by kernel_rfl)
theorem impl_area_en (a : Int) (a1 : Int) (b_ : Int) (b_1 : Int) (c : Int) (c1 : Int) : (entry 0 (((buildDs impl_area_sh [.int a, .int a1, .int b_, .int b_1, .int c, .int c1]).map Prod.fst).getD [])).map (fun x => (x.1.length, x.2.lent)) = some (3, []) := by kernel_rfl
theorem impl_area_good {α : Type} : ∀ n, GoodFn (α := α) Try.prog 125 (byShape impl_area_sh (impl_area_run n)) := by
  refine fn_good' Try.func125 (c := (Try.f125.body.getD .skip)) (by kernel_rfl) (by kernel_rfl) (by kernel_rfl) impl_area_C impl_area_M eqs impl_area_lps (fun n => tabC_good (List.forall_mem_cons.2 ⟨(impl_Point_less_good n), (List.forall_mem_cons.2 ⟨(impl_det_good n), (List.forall_mem_cons.2 ⟨(impl_size_good n), (fun _ h => absurd h List.not_mem_nil)⟩)⟩)⟩)) eqs_ok impl_area_Lt ?_ ?_ impl_area_sh impl_area_run ?_
  · exact (fun _ h => absurd h List.not_mem_nil)
  · exact (fun _ h => absurd h List.not_mem_nil)
  · intro n p κ r ds hd hr
    have hr0 := hr
    unfold impl_area_run impl_area_runG at hr
    split at hr
    · rw [← ds_of hd]
      exact ⟨en_of (impl_area_en _ _ _ _ _ _) ⟨rfl, rfl⟩, (impl_area_ev n _ _ _ _ _ _ κ).trans hr0⟩
    · cases hr

/-! loop.example/g01297/impl.IsTriangle -/
def impl_IsTriangle_sh : List SkD := [.agg [.int .i64, .int .i64, .int .i64, .int .i64, .int .i64, .int .i64]]
def impl_IsTriangle_runG {α : Type} (F : Nat → Int → Int → Int → Int → Int → Int → (Bool → Option α) → Option α) (n : Nat) (p : List P1) (κ : Res → Option α) : Option α := match p with
  | [.int t, .int t1, .int t2, .int t3, .int t4, .int t5] => F n t t1 t2 t3 t4 t5 (fun v1 => κ ⟨[.bool v1], []⟩)
  | _ => none
def impl_IsTriangle_run {α : Type} (n : Nat) (p : List P1) (κ : Res → Option α) : Option α := impl_IsTriangle_runG impl_IsTriangle n p κ
def impl_IsTriangle_CG {α : Type} (F0 : Nat → Int → Int → (Bool → Option α) → Option α) (F1 : Nat → Int → Int → Int → Int → Int → Int → (Int → Option α) → Option α) (n : Nat) : FuncId → List D → (Res → Option α) → Option α := tabC [(124, (byShape impl_small_sh (impl_small_runG F0 n))), (125, (byShape impl_area_sh (impl_area_runG F1 n)))]
def impl_IsTriangle_C {α : Type} (n : Nat) : FuncId → List D → (Res → Option α) → Option α := impl_IsTriangle_CG impl_small impl_area n
def impl_IsTriangle_M : FuncId → List Nat := tabM []
def impl_IsTriangle_lpsG {α : Type}  : List (LoopT α) := []
def impl_IsTriangle_lps {α : Type} : List (LoopT α) := impl_IsTriangle_lpsG
def impl_IsTriangle_XG {α : Type} (F0 : Nat → Int → Int → (Bool → Option α) → Option α) (F1 : Nat → Int → Int → Int → Int → Int → Int → (Int → Option α) → Option α)  (n : Nat) : Ctx α := ⟨impl_IsTriangle_CG F0 F1 n, impl_IsTriangle_M, eqs, lpOf (impl_IsTriangle_lpsG) n⟩
def impl_IsTriangle_X {α : Type} (n : Nat) : Ctx α := impl_IsTriangle_XG impl_small impl_area n
def impl_IsTriangle_Lt (np : Nat) (lent : List (Bool × Nat × Blk)) : Prop := np = 1 ∧ lent = []
def impl_IsTriangle_body {α : Type} (F0 : Nat → Int → Int → (Bool → Option α) → Option α) (F1 : Nat → Int → Int → Int → Int → Int → Int → (Int → Option α) → Option α)  (k : Nat) (t : Int) (t1 : Int) (t2 : Int) (t3 : Int) (t4 : Int) (t5 : Int) (r0 : Bool → Option α) : Option α :=
  F0 k t t1 fun v =>
  bif v then
    F0 k t2 t3 fun v1 =>
    bif v1 then
      F0 k t4 t5 fun v2 =>
      bif v2 then
        F1 k t t1 t2 t3 t4 t5 fun v3 =>
        r0 (!decide (v3 = 0))
      else
        r0 false
    else
      r0 false
  else
    r0 false
theorem impl_IsTriangle_gen {α : Type} (F0 : Nat → Int → Int → (Bool → Option α) → Option α) (F1 : Nat → Int → Int → Int → Int → Int → Int → (Int → Option α) → Option α)  (n : Nat) (t : Int) (t1 : Int) (t2 : Int) (t3 : Int) (t4 : Int) (t5 : Int) (κ : Res → Option α) : evFn Try.prog (impl_IsTriangle_XG F0 F1 n) Try.f75 (((buildDs impl_IsTriangle_sh [.int t, .int t1, .int t2, .int t3, .int t4, .int t5]).map Prod.fst).getD []) κ = impl_IsTriangle_body F0 F1 n t t1 t2 t3 t4 t5 (fun v1 => κ ⟨[.bool v1], []⟩) := by kernel_rfl
theorem impl_IsTriangle_ev {α : Type} (n : Nat) (t : Int) (t1 : Int) (t2 : Int) (t3 : Int) (t4 : Int) (t5 : Int) (κ : Res → Option α) : evFn Try.prog (impl_IsTriangle_X n) Try.f75 (((buildDs impl_IsTriangle_sh [.int t, .int t1, .int t2, .int t3, .int t4, .int t5]).map Prod.fst).getD []) κ = impl_IsTriangle_run n [.int t, .int t1, .int t2, .int t3, .int t4, .int t5] κ := (impl_IsTriangle_gen impl_small impl_area n t t1 t2 t3 t4 t5 κ).trans (by kernel_rfl)
theorem impl_IsTriangle_en (t : Int) (t1 : Int) (t2 : Int) (t3 : Int) (t4 : Int) (t5 : Int) : (entry 0 (((buildDs impl_IsTriangle_sh [.int t, .int t1, .int t2, .int t3, .int t4, .int t5]).map Prod.fst).getD [])).map (fun x => (x.1.length, x.2.lent)) = some (1, []) := by kernel_rfl
theorem impl_IsTriangle_good {α : Type} : ∀ n, GoodFn (α := α) Try.prog 75 (byShape impl_IsTriangle_sh (impl_IsTriangle_run n)) := by
  refine fn_good' Try.func75 (c := (Try.f75.body.getD .skip)) (by kernel_rfl) (by kernel_rfl) (by kernel_rfl) impl_IsTriangle_C impl_IsTriangle_M eqs impl_IsTriangle_lps (fun n => tabC_good (List.forall_mem_cons.2 ⟨(impl_small_good n), (List.forall_mem_cons.2 ⟨(impl_area_good n), (fun _ h => absurd h List.not_mem_nil)⟩)⟩)) eqs_ok impl_IsTriangle_Lt ?_ ?_ impl_IsTriangle_sh impl_IsTriangle_run ?_
  · exact (fun _ h => absurd h List.not_mem_nil)
  · exact (fun _ h => absurd h List.not_mem_nil)
  · intro n p κ r ds hd hr
    have hr0 := hr
    unfold impl_IsTriangle_run impl_IsTriangle_runG at hr
    split at hr
    · rw [← ds_of hd]
      exact ⟨en_of (impl_IsTriangle_en _ _ _ _ _ _) ⟨rfl, rfl⟩, (impl_IsTriangle_ev n _ _ _ _ _ _ κ).trans hr0⟩
    · cases hr

/-! (loop.example/g01297/impl.Triangle).area -/
def impl_Triangle_area_sh : List SkD := [.agg [.int .i64, .int .i64, .int .i64, .int .i64, .int .i64, .int .i64]]
def impl_Triangle_area_runG {α : Type} (F : Nat → Int → Int → Int → Int → Int → Int → (Int → Option α) → Option α) (n : Nat) (p : List P1) (κ : Res → Option α) : Option α := match p with
  | [.int t, .int t1, .int t2, .int t3, .int t4, .int t5] => F n t t1 t2 t3 t4 t5 (fun v1 => κ ⟨[.int .i64 v1], []⟩)
  | _ => none
def impl_Triangle_area_run {α : Type} (n : Nat) (p : List P1) (κ : Res → Option α) : Option α := impl_Triangle_area_runG impl_Triangle_area n p κ
def impl_Triangle_area_CG {α : Type} (F0 : Nat → Int → Int → Int → Int → Int → Int → (Int → Option α) → Option α) (n : Nat) : FuncId → List D → (Res → Option α) → Option α := tabC [(125, (byShape impl_area_sh (impl_area_runG F0 n)))]
def impl_Triangle_area_C {α : Type} (n : Nat) : FuncId → List D → (Res → Option α) → Option α := impl_Triangle_area_CG impl_area n
def impl_Triangle_area_M : FuncId → List Nat := tabM []
def impl_Triangle_area_lpsG {α : Type}  : List (LoopT α) := []
def impl_Triangle_area_lps {α : Type} : List (LoopT α) := impl_Triangle_area_lpsG
def impl_Triangle_area_XG {α : Type} (F0 : Nat → Int → Int → Int → Int → Int → Int → (Int → Option α) → Option α)  (n : Nat) : Ctx α := ⟨impl_Triangle_area_CG F0 n, impl_Triangle_area_M, eqs, lpOf (impl_Triangle_area_lpsG) n⟩
def impl_Triangle_area_X {α : Type} (n : Nat) : Ctx α := impl_Triangle_area_XG impl_area n
def impl_Triangle_area_Lt (np : Nat) (lent : List (Bool × Nat × Blk)) : Prop := np = 1 ∧ lent = []
def impl_Triangle_area_body {α : Type} (F0 : Nat → Int → Int → Int → Int → Int → Int → (Int → Option α) → Option α)  (k : Nat) (t : Int) (t1 : Int) (t2 : Int) (t3 : Int) (t4 : Int) (t5 : Int) (r0 : Int → Option α) : Option α :=
  F0 k t t1 t2 t3 t4 t5 fun v =>
  r0 v
theorem impl_Triangle_area_gen {α : Type} (F0 : Nat → Int → Int → Int → Int → Int → Int → (Int → Option α) → Option α)  (n : Nat) (t : Int) (t1 : Int) (t2 : Int) (t3 : Int) (t4 : Int) (t5 : Int) (κ : Res → Option α) : evFn Try.prog (impl_Triangle_area_XG F0 n) Try.f128 (((buildDs impl_Triangle_area_sh [.int t, .int t1, .int t2, .int t3, .int t4, .int t5]).map Prod.fst).getD []) κ = impl_Triangle_area_body F0 n t t1 t2 t3 t4 t5 (fun v1 => κ ⟨[.int .i64 v1], []⟩) := by kernel_rfl
theorem impl_Triangle_area_ev {α : Type} (n : Nat) (t : Int) (t1 : Int) (t2 : Int) (t3 : Int) (t4 : Int) (t5 : Int) (κ : Res → Option α) : evFn Try.prog (impl_Triangle_area_X n) Try.f128 (((buildDs impl_Triangle_area_sh [.int t, .int t1, .int t2, .int t3, .int t4, .int t5]).map Prod.fst).getD []) κ = impl_Triangle_area_run n [.int t, .int t1, .int t2, .int t3, .int t4, .int t5] κ := (impl_Triangle_area_gen impl_area n t t1 t2 t3 t4 t5 κ).trans (by kernel_rfl)
theorem impl_Triangle_area_en (t : Int) (t1 : Int) (t2 : Int) (t3 : Int) (t4 : Int) (t5 : Int) : (entry 0 (((buildDs impl_Triangle_area_sh [.int t, .int t1, .int t2, .int t3, .int t4, .int t5]).map Prod.fst).getD [])).map (fun x => (x.1.length, x.2.lent)) = some (1, []) := by kernel_rfl
theorem impl_Triangle_area_good {α : Type} : ∀ n, GoodFn (α := α) Try.prog 128 (byShape impl_Triangle_area_sh (impl_Triangle_area_run n)) := by
  refine fn_good' Try.func128 (c := (Try.f128.body.getD .skip)) (by kernel_rfl) (by kernel_rfl) (by kernel_rfl) impl_Triangle_area_C impl_Triangle_area_M eqs impl_Triangle_area_lps (fun n => tabC_good (List.forall_mem_cons.2 ⟨(impl_area_good n), (fun _ h => absurd h List.not_mem_nil)⟩)) eqs_ok impl_Triangle_area_Lt ?_ ?_ impl_Triangle_area_sh impl_Triangle_area_run ?_
  · exact (fun _ h => absurd h List.not_mem_nil)
  · exact (fun _ h => absurd h List.not_mem_nil)
  · intro n p κ r ds hd hr
    have hr0 := hr
    unfold impl_Triangle_area_run impl_Triangle_area_runG at hr
    split at hr
    · rw [← ds_of hd]
      exact ⟨en_of (impl_Triangle_area_en _ _ _ _ _ _) ⟨rfl, rfl⟩, (impl_Triangle_area_ev n _ _ _ _ _ _ κ).trans hr0⟩
    · cases hr

/-! (loop.example/g01297/impl.Triangle).side -/
def impl_Triangle_side_sh : List SkD := [.agg [.int .i64, .int .i64, .int .i64, .int .i64, .int .i64, .int .i64], .int .i64, .int .i64]
def impl_Triangle_side_runG {α : Type} (F : Nat → Int → Int → Int → Int → Int → Int → Int → Int → (Int → Int → Option α) → Option α) (n : Nat) (p : List P1) (κ : Res → Option α) : Option α := match p with
  | [.int t, .int t1, .int t2, .int t3, .int t4, .int t5, .int i, .int k_] => F n t t1 t2 t3 t4 t5 i k_ (fun v1 v2 => κ ⟨[.agg [.int .i64 v1, .int .i64 v2]], []⟩)
  | _ => none
def impl_Triangle_side_run {α : Type} (n : Nat) (p : List P1) (κ : Res → Option α) : Option α := impl_Triangle_side_runG impl_Triangle_side n p κ
def impl_Triangle_side_CG {α : Type} (F0 : Nat → Int → Int → Int → Int → (Int → Int → Option α) → Option α) (n : Nat) : FuncId → List D → (Res → Option α) → Option α := tabC [(134, (byShape impl_Point_less_sh (impl_Point_less_runG F0 n)))]
def impl_Triangle_side_C {α : Type} (n : Nat) : FuncId → List D → (Res → Option α) → Option α := impl_Triangle_side_CG impl_Point_less n
def impl_Triangle_side_M : FuncId → List Nat := tabM []
def impl_Triangle_side_lpsG {α : Type}  : List (LoopT α) := []
def impl_Triangle_side_lps {α : Type} : List (LoopT α) := impl_Triangle_side_lpsG
def impl_Triangle_side_XG {α : Type} (F0 : Nat → Int → Int → Int → Int → (Int → Int → Option α) → Option α)  (n : Nat) : Ctx α := ⟨impl_Triangle_side_CG F0 n, impl_Triangle_side_M, eqs, lpOf (impl_Triangle_side_lpsG) n⟩
def impl_Triangle_side_X {α : Type} (n : Nat) : Ctx α := impl_Triangle_side_XG impl_Point_less n
def impl_Triangle_side_Lt (np : Nat) (lent : List (Bool × Nat × Blk)) : Prop := np = 3 ∧ lent = []
def impl_Triangle_side_body {α : Type} (F0 : Nat → Int → Int → Int → Int → (Int → Int → Option α) → Option α)  (k : Nat) (t : Int) (t1 : Int) (t2 : Int) (t3 : Int) (t4 : Int) (t5 : Int) (i : Int) (k_ : Int) (r0 : Int → Int → Option α) : Option α :=
  bif (decide (0 ≤ k_) && decide (k_ < 3)) then
    ([t, t1, t2, t3, t4, t5][(k_.toNat * 2)]?).bind fun e_ =>
    ([t, t1, t2, t3, t4, t5][((k_.toNat * 2) + 1)]?).bind fun e_1 =>
    bif (decide (0 ≤ i) && decide (i < 3)) then
      ([t, t1, t2, t3, t4, t5][(i.toNat * 2)]?).bind fun e_2 =>
      ([t, t1, t2, t3, t4, t5][((i.toNat * 2) + 1)]?).bind fun e_3 =>
      F0 k e_ e_1 e_2 e_3 fun v v1 =>
      r0 v v1
    else
      none
  else
    none
theorem impl_Triangle_side_gen {α : Type} (F0 : Nat → Int → Int → Int → Int → (Int → Int → Option α) → Option α)  (n : Nat) (t : Int) (t1 : Int) (t2 : Int) (t3 : Int) (t4 : Int) (t5 : Int) (i : Int) (k_ : Int) (κ : Res → Option α) : evFn Try.prog (impl_Triangle_side_XG F0 n) Try.f126 (((buildDs impl_Triangle_side_sh [.int t, .int t1, .int t2, .int t3, .int t4, .int t5, .int i, .int k_]).map Prod.fst).getD []) κ = impl_Triangle_side_body F0 n t t1 t2 t3 t4 t5 i k_ (fun v1 v2 => κ ⟨[.agg [.int .i64 v1, .int .i64 v2]], []⟩) := by kernel_rfl
theorem impl_Triangle_side_ev {α : Type} (n : Nat) (t : Int) (t1 : Int) (t2 : Int) (t3 : Int) (t4 : Int) (t5 : Int) (i : Int) (k_ : Int) (κ : Res → Option α) : evFn Try.prog (impl_Triangle_side_X n) Try.f126 (((buildDs impl_Triangle_side_sh [.int t, .int t1, .int t2, .int t3, .int t4, .int t5, .int i, .int k_]).map Prod.fst).getD []) κ = impl_Triangle_side_run n [.int t, .int t1, .int t2, .int t3, .int t4, .int t5, .int i, .int k_] κ := (impl_Triangle_side_gen impl_Point_less n t t1 t2 t3 t4 t5 i k_ κ).trans (by kernel_rfl)
theorem impl_Triangle_side_en (t : Int) (t1 : Int) (t2 : Int) (t3 : Int) (t4 : Int) (t5 : Int) (i : Int) (k_ : Int) : (entry 0 (((buildDs impl_Triangle_side_sh [.int t, .int t1, .int t2, .int t3, .int t4, .int t5, .int i, .int k_]).map Prod.fst).getD [])).map (fun x => (x.1.length, x.2.lent)) = some (3, []) := by kernel_rfl
theorem impl_Triangle_side_good {α : Type} : ∀ n, GoodFn (α := α) Try.prog 126 (byShape impl_Triangle_side_sh (impl_Triangle_side_run n)) := by
  refine fn_good' Try.func126 (c := (Try.f126.body.getD .skip)) (by kernel_rfl) (by kernel_rfl) (by kernel_rfl) impl_Triangle_side_C impl_Triangle_side_M eqs impl_Triangle_side_lps (fun n => tabC_good (List.forall_mem_cons.2 ⟨(impl_Point_less_good n), (fun _ h => absurd h List.not_mem_nil)⟩)) eqs_ok impl_Triangle_side_Lt ?_ ?_ impl_Triangle_side_sh impl_Triangle_side_run ?_
  · exact (fun _ h => absurd h List.not_mem_nil)
  · exact (fun _ h => absurd h List.not_mem_nil)
  · intro n p κ r ds hd hr
    have hr0 := hr
    unfold impl_Triangle_side_run impl_Triangle_side_runG at hr
    split at hr
    · rw [← ds_of hd]
      exact ⟨en_of (impl_Triangle_side_en _ _ _ _ _ _ _ _) ⟨rfl, rfl⟩, (impl_Triangle_side_ev n _ _ _ _ _ _ _ _ κ).trans hr0⟩
    · cases hr

/-! loop.example/g01297/impl.gcd -/
def impl_gcd_sh : List SkD := [.int .i64, .int .i64]
def impl_gcd_runG {α : Type} (F : Nat → Int → Int → (Int → Option α) → Option α) (n : Nat) (p : List P1) (κ : Res → Option α) : Option α := match p with
  | [.int a, .int b_] => F n a b_ (fun v1 => κ ⟨[.int .i64 v1], []⟩)
  | _ => none
def impl_gcd_run {α : Type} (n : Nat) (p : List P1) (κ : Res → Option α) : Option α := impl_gcd_runG impl_gcd n p κ
def impl_gcd_CG {α : Type} (F0 : Nat → Int → (Int → Option α) → Option α) (n : Nat) : FuncId → List D → (Res → Option α) → Option α := tabC [(116, (byShape impl_size_sh (impl_size_runG F0 n)))]
def impl_gcd_C {α : Type} (n : Nat) : FuncId → List D → (Res → Option α) → Option α := impl_gcd_CG impl_size n
def impl_gcd_M : FuncId → List Nat := tabM []
def impl_gcd_t1 : Tpl := ⟨[.int .i64, .int .i64, .any, .any, .any, .any, .any, .any, .any, .any, .any, .any, .any], [], []⟩
def impl_gcd_uG1 {α : Type} (G : Nat → Int → Int → (Int → Int → Option α) → (Int → Option α) → Option α) (n : Nat) (p : List P1) (brk : Nat → List P1 → Option α) (ret : Res → Option α) : Option α := match p with
  | [.int a1, .int b_1] => G n a1 b_1 (fun a1 b_1 => brk 0 [.int a1, .int b_1]) (fun v1 => ret ⟨[.int .i64 v1], []⟩)
  | _ => none
def impl_gcd_u1 {α : Type} (n : Nat) (p : List P1) (brk : Nat → List P1 → Option α) (ret : Res → Option α) : Option α := impl_gcd_uG1 impl_gcd_l1 n p brk ret
def impl_gcd_lpsG {α : Type} (G1 : Nat → Int → Int → (Int → Int → Option α) → (Int → Option α) → Option α) : List (LoopT α) := [⟨1, impl_gcd_t1, impl_gcd_uG1 G1⟩]
def impl_gcd_lps {α : Type} : List (LoopT α) := impl_gcd_lpsG impl_gcd_l1
def impl_gcd_XG {α : Type} (F0 : Nat → Int → (Int → Option α) → Option α) (G1 : Nat → Int → Int → (Int → Int → Option α) → (Int → Option α) → Option α) (n : Nat) : Ctx α := ⟨impl_gcd_CG F0 n, impl_gcd_M, eqs, lpOf (impl_gcd_lpsG G1) n⟩
def impl_gcd_X {α : Type} (n : Nat) : Ctx α := impl_gcd_XG impl_size impl_gcd_l1 n
def impl_gcd_Lt (np : Nat) (lent : List (Bool × Nat × Blk)) : Prop := np = 2 ∧ lent = []
def impl_gcd_lb1 {α : Type} (F0 : Nat → Int → (Int → Option α) → Option α) (G1 : Nat → Int → Int → (Int → Int → Option α) → (Int → Option α) → Option α) (k : Nat) (a1 : Int) (b_1 : Int) (b0 : Int → Int → Option α) (r0 : Int → Option α) : Option α :=
  bif (!decide (b_1 = 0)) then
    bif decide (b_1 = 0) then
      none
    else
      G1 k b_1 (Int.tmod a1 b_1) b0 r0
  else
    b0 a1 b_1
theorem impl_gcd_l1_gen {α : Type} (F0 : Nat → Int → (Int → Option α) → Option α) (G1 : Nat → Int → Int → (Int → Int → Option α) → (Int → Option α) → Option α) (n : Nat) (a1 : Int) (b_1 : Int) (brk : Nat → List P1 → Option α) (ret : Res → Option α) : ev ((impl_gcd_XG F0 G1 n).env Try.prog Try.f147 2 []) (findLoop (loopsIn (Try.f147.body.getD .skip)) 1) ((impl_gcd_t1.build [.int a1, .int b_1]).getD ⟨[], []⟩) (roundK (2 * 64) impl_gcd_t1 (fun q => impl_gcd_uG1 G1 n q brk ret) brk ret) = impl_gcd_lb1 F0 G1 n a1 b_1 (fun a1 b_1 => brk 0 [.int a1, .int b_1]) (fun v1 => ret ⟨[.int .i64 v1], []⟩) := by kernel_rfl
theorem impl_gcd_l1_ev {α : Type} (n : Nat) (a1 : Int) (b_1 : Int) (brk : Nat → List P1 → Option α) (ret : Res → Option α) : ev ((impl_gcd_X n).env Try.prog Try.f147 2 []) (findLoop (loopsIn (Try.f147.body.getD .skip)) 1) ((impl_gcd_t1.build [.int a1, .int b_1]).getD ⟨[], []⟩) (roundK (2 * 64) impl_gcd_t1 (fun q => impl_gcd_u1 n q brk ret) brk ret) = impl_gcd_u1 (n + 1) [.int a1, .int b_1] brk ret := (impl_gcd_l1_gen impl_size impl_gcd_l1 n a1 b_1 brk ret).trans (by kernel_rfl)
def impl_gcd_body {α : Type} (F0 : Nat → Int → (Int → Option α) → Option α) (G1 : Nat → Int → Int → (Int → Int → Option α) → (Int → Option α) → Option α) (k : Nat) (a : Int) (b_ : Int) (r0 : Int → Option α) : Option α :=
  G1 k a b_
    (fun a2 b_2 =>
      F0 k a2 fun v =>
      r0 v)
    r0
theorem impl_gcd_gen {α : Type} (F0 : Nat → Int → (Int → Option α) → Option α) (G1 : Nat → Int → Int → (Int → Int → Option α) → (Int → Option α) → Option α) (n : Nat) (a : Int) (b_ : Int) (κ : Res → Option α) : evFn Try.prog (impl_gcd_XG F0 G1 n) Try.f147 (((buildDs impl_gcd_sh [.int a, .int b_]).map Prod.fst).getD []) κ = impl_gcd_body F0 G1 n a b_ (fun v1 => κ ⟨[.int .i64 v1], []⟩) := by kernel_rfl
theorem impl_gcd_ev {α : Type} (n : Nat) (a : Int) (b_ : Int) (κ : Res → Option α) : evFn Try.prog (impl_gcd_X n) Try.f147 (((buildDs impl_gcd_sh [.int a, .int b_]).map Prod.fst).getD []) κ = impl_gcd_run n [.int a, .int b_] κ := (impl_gcd_gen impl_size impl_gcd_l1 n a b_ κ).trans (by kernel_rfl)
theorem impl_gcd_en (a : Int) (b_ : Int) : (entry 0 (((buildDs impl_gcd_sh [.int a, .int b_]).map Prod.fst).getD [])).map (fun x => (x.1.length, x.2.lent)) = some (2, []) := by kernel_rfl
theorem impl_gcd_good {α : Type} : ∀ n, GoodFn (α := α) Try.prog 147 (byShape impl_gcd_sh (impl_gcd_run n)) := by
  refine fn_good' Try.func147 (c := (Try.f147.body.getD .skip)) (by kernel_rfl) (by kernel_rfl) (by kernel_rfl) impl_gcd_C impl_gcd_M eqs impl_gcd_lps (fun n => tabC_good (List.forall_mem_cons.2 ⟨(impl_size_good n), (fun _ h => absurd h List.not_mem_nil)⟩)) eqs_ok impl_gcd_Lt ?_ ?_ impl_gcd_sh impl_gcd_run ?_
  · refine List.forall_mem_cons.2 ⟨?_, (fun _ h => absurd h List.not_mem_nil)⟩
    · intro p brk ret; show impl_gcd_u1 0 p brk ret = none; unfold impl_gcd_u1 impl_gcd_uG1; split <;> rfl
  · refine List.forall_mem_cons.2 ⟨?_, (fun _ h => absurd h List.not_mem_nil)⟩
    · intro np lent hL n p brk ret st r hb hr
      obtain ⟨rfl, rfl⟩ := hL
      rw [← tpl_of hb]
      change impl_gcd_u1 (n + 1) p brk ret = some r at hr
      have hr0 := hr
      unfold impl_gcd_u1 impl_gcd_uG1 at hr
      split at hr
      · exact (impl_gcd_l1_ev n _ _ brk ret).trans hr0
      · cases hr
  · intro n p κ r ds hd hr
    have hr0 := hr
    unfold impl_gcd_run impl_gcd_runG at hr
    split at hr
    · rw [← ds_of hd]
      exact ⟨en_of (impl_gcd_en _ _) ⟨rfl, rfl⟩, (impl_gcd_ev n _ _ κ).trans hr0⟩
    · cases hr

/-! (loop.example/g01297/impl.Point).length -/
def impl_Point_length_sh : List SkD := [.agg [.int .i64, .int .i64]]
def impl_Point_length_runG {α : Type} (F : Nat → Int → Int → (Int → Option α) → Option α) (n : Nat) (p : List P1) (κ : Res → Option α) : Option α := match p with
  | [.int a, .int a1] => F n a a1 (fun v1 => κ ⟨[.int .i64 v1], []⟩)
  | _ => none
def impl_Point_length_run {α : Type} (n : Nat) (p : List P1) (κ : Res → Option α) : Option α := impl_Point_length_runG impl_Point_length n p κ
def impl_Point_length_CG {α : Type} (F0 : Nat → Int → Int → (Int → Option α) → Option α) (n : Nat) : FuncId → List D → (Res → Option α) → Option α := tabC [(147, (byShape impl_gcd_sh (impl_gcd_runG F0 n)))]
def impl_Point_length_C {α : Type} (n : Nat) : FuncId → List D → (Res → Option α) → Option α := impl_Point_length_CG impl_gcd n
def impl_Point_length_M : FuncId → List Nat := tabM []
def impl_Point_length_lpsG {α : Type}  : List (LoopT α) := []
def impl_Point_length_lps {α : Type} : List (LoopT α) := impl_Point_length_lpsG
def impl_Point_length_XG {α : Type} (F0 : Nat → Int → Int → (Int → Option α) → Option α)  (n : Nat) : Ctx α := ⟨impl_Point_length_CG F0 n, impl_Point_length_M, eqs, lpOf (impl_Point_length_lpsG) n⟩
def impl_Point_length_X {α : Type} (n : Nat) : Ctx α := impl_Point_length_XG impl_gcd n
def impl_Point_length_Lt (np : Nat) (lent : List (Bool × Nat × Blk)) : Prop := np = 1 ∧ lent = []
def impl_Point_length_body {α : Type} (F0 : Nat → Int → Int → (Int → Option α) → Option α)  (k : Nat) (a : Int) (a1 : Int) (r0 : Int → Option α) : Option α :=
  F0 k a a1 fun v =>
  r0 v
theorem impl_Point_length_gen {α : Type} (F0 : Nat → Int → Int → (Int → Option α) → Option α)  (n : Nat) (a : Int) (a1 : Int) (κ : Res → Option α) : evFn Try.prog (impl_Point_length_XG F0 n) Try.f127 (((buildDs impl_Point_length_sh [.int a, .int a1]).map Prod.fst).getD []) κ = impl_Point_length_body F0 n a a1 (fun v1 => κ ⟨[.int .i64 v1], []⟩) := by kernel_rfl
theorem impl_Point_length_ev {α : Type} (n : Nat) (a : Int) (a1 : Int) (κ : Res → Option α) : evFn Try.prog (impl_Point_length_X n) Try.f127 (((buildDs impl_Point_length_sh [.int a, .int a1]).map Prod.fst).getD []) κ = impl_Point_length_run n [.int a, .int a1] κ := (impl_Point_length_gen impl_gcd n a a1 κ).trans (by kernel_rfl)
theorem impl_Point_length_en (a : Int) (a1 : Int) : (entry 0 (((buildDs impl_Point_length_sh [.int a, .int a1]).map Prod.fst).getD [])).map (fun x => (x.1.length, x.2.lent)) = some (1, []) := by kernel_rfl
theorem impl_Point_length_good {α : Type} : ∀ n, GoodFn (α := α) Try.prog 127 (byShape impl_Point_length_sh (impl_Point_length_run n)) := by
  refine fn_good' Try.func127 (c := (Try.f127.body.getD .skip)) (by kernel_rfl) (by kernel_rfl) (by kernel_rfl) impl_Point_length_C impl_Point_length_M eqs impl_Point_length_lps (fun n => tabC_good (List.forall_mem_cons.2 ⟨(impl_gcd_good n), (fun _ h => absurd h List.not_mem_nil)⟩)) eqs_ok impl_Point_length_Lt ?_ ?_ impl_Point_length_sh impl_Point_length_run ?_
  · exact (fun _ h => absurd h List.not_mem_nil)
  · exact (fun _ h => absurd h List.not_mem_nil)
  · intro n p κ r ds hd hr
    have hr0 := hr
    unfold impl_Point_length_run impl_Point_length_runG at hr
    split at hr
    · rw [← ds_of hd]
      exact ⟨en_of (impl_Point_length_en _ _) ⟨rfl, rfl⟩, (impl_Point_length_ev n _ _ κ).trans hr0⟩
    · cases hr

/-! (loop.example/g01297/impl.Triangle).boundary -/
def impl_Triangle_boundary_sh : List SkD := [.agg [.int .i64, .int .i64, .int .i64, .int .i64, .int .i64, .int .i64]]
def impl_Triangle_boundary_runG {α : Type} (F : Nat → Int → Int → Int → Int → Int → Int → (Int → Option α) → Option α) (n : Nat) (p : List P1) (κ : Res → Option α) : Option α := match p with
  | [.int t, .int t1, .int t2, .int t3, .int t4, .int t5] => F n t t1 t2 t3 t4 t5 (fun v1 => κ ⟨[.int .i64 v1], []⟩)
  | _ => none
def impl_Triangle_boundary_run {α : Type} (n : Nat) (p : List P1) (κ : Res → Option α) : Option α := impl_Triangle_boundary_runG impl_Triangle_boundary n p κ
def impl_Triangle_boundary_CG {α : Type} (F0 : Nat → Int → Int → Int → Int → Int → Int → Int → Int → (Int → Int → Option α) → Option α) (F1 : Nat → Int → Int → (Int → Option α) → Option α) (n : Nat) : FuncId → List D → (Res → Option α) → Option α := tabC [(126, (byShape impl_Triangle_side_sh (impl_Triangle_side_runG F0 n))), (127, (byShape impl_Point_length_sh (impl_Point_length_runG F1 n)))]
def impl_Triangle_boundary_C {α : Type} (n : Nat) : FuncId → List D → (Res → Option α) → Option α := impl_Triangle_boundary_CG impl_Triangle_side impl_Point_length n
def impl_Triangle_boundary_M : FuncId → List Nat := tabM []
def impl_Triangle_boundary_lpsG {α : Type}  : List (LoopT α) := []
def impl_Triangle_boundary_lps {α : Type} : List (LoopT α) := impl_Triangle_boundary_lpsG
def impl_Triangle_boundary_XG {α : Type} (F0 : Nat → Int → Int → Int → Int → Int → Int → Int → Int → (Int → Int → Option α) → Option α) (F1 : Nat → Int → Int → (Int → Option α) → Option α)  (n : Nat) : Ctx α := ⟨impl_Triangle_boundary_CG F0 F1 n, impl_Triangle_boundary_M, eqs, lpOf (impl_Triangle_boundary_lpsG) n⟩
def impl_Triangle_boundary_X {α : Type} (n : Nat) : Ctx α := impl_Triangle_boundary_XG impl_Triangle_side impl_Point_length n
def impl_Triangle_boundary_Lt (np : Nat) (lent : List (Bool × Nat × Blk)) : Prop := np = 1 ∧ lent = []
def impl_Triangle_boundary_body {α : Type} (F0 : Nat → Int → Int → Int → Int → Int → Int → Int → Int → (Int → Int → Option α) → Option α) (F1 : Nat → Int → Int → (Int → Option α) → Option α)  (k : Nat) (t : Int) (t1 : Int) (t2 : Int) (t3 : Int) (t4 : Int) (t5 : Int) (r0 : Int → Option α) : Option α :=
  F0 k t t1 t2 t3 t4 t5 0 1 fun v v1 =>
  F1 k v v1 fun v2 =>
  F0 k t t1 t2 t3 t4 t5 1 2 fun v3 v4 =>
  F1 k v3 v4 fun v5 =>
  F0 k t t1 t2 t3 t4 t5 2 0 fun v6 v7 =>
  F1 k v6 v7 fun v8 =>
  r0 (w64 ((w64 (v2 + v5)) + v8))
theorem impl_Triangle_boundary_gen {α : Type} (F0 : Nat → Int → Int → Int → Int → Int → Int → Int → Int → (Int → Int → Option α) → Option α) (F1 : Nat → Int → Int → (Int → Option α) → Option α)  (n : Nat) (t : Int) (t1 : Int) (t2 : Int) (t3 : Int) (t4 : Int) (t5 : Int) (κ : Res → Option α) : evFn Try.prog (impl_Triangle_boundary_XG F0 F1 n) Try.f144 (((buildDs impl_Triangle_boundary_sh [.int t, .int t1, .int t2, .int t3, .int t4, .int t5]).map Prod.fst).getD []) κ = impl_Triangle_boundary_body F0 F1 n t t1 t2 t3 t4 t5 (fun v1 => κ ⟨[.int .i64 v1], []⟩) := by kernel_rfl
theorem impl_Triangle_boundary_ev {α : Type} (n : Nat) (t : Int) (t1 : Int) (t2 : Int) (t3 : Int) (t4 : Int) (t5 : Int) (κ : Res → Option α) : evFn Try.prog (impl_Triangle_boundary_X n) Try.f144 (((buildDs impl_Triangle_boundary_sh [.int t, .int t1, .int t2, .int t3, .int t4, .int t5]).map Prod.fst).getD []) κ = impl_Triangle_boundary_run n [.int t, .int t1, .int t2, .int t3, .int t4, .int t5] κ := (impl_Triangle_boundary_gen impl_Triangle_side impl_Point_length n t t1 t2 t3 t4 t5 κ).trans (by kernel_rfl)
theorem impl_Triangle_boundary_en (t : Int) (t1 : Int) (t2 : Int) (t3 : Int) (t4 : Int) (t5 : Int) : (entry 0 (((buildDs impl_Triangle_boundary_sh [.int t, .int t1, .int t2, .int t3, .int t4, .int t5]).map Prod.fst).getD [])).map (fun x => (x.1.length, x.2.lent)) = some (1, []) := by kernel_rfl
theorem impl_Triangle_boundary_good {α : Type} : ∀ n, GoodFn (α := α) Try.prog 144 (byShape impl_Triangle_boundary_sh (impl_Triangle_boundary_run n)) := by
  refine fn_good' Try.func144 (c := (Try.f144.body.getD .skip)) (by kernel_rfl) (by kernel_rfl) (by kernel_rfl) impl_Triangle_boundary_C impl_Triangle_boundary_M eqs impl_Triangle_boundary_lps (fun n => tabC_good (List.forall_mem_cons.2 ⟨(impl_Triangle_side_good n), (List.forall_mem_cons.2 ⟨(impl_Point_length_good n), (fun _ h => absurd h List.not_mem_nil)⟩)⟩)) eqs_ok impl_Triangle_boundary_Lt ?_ ?_ impl_Triangle_boundary_sh impl_Triangle_boundary_run ?_
  · exact (fun _ h => absurd h List.not_mem_nil)
  · exact (fun _ h => absurd h List.not_mem_nil)
  · intro n p κ r ds hd hr
    have hr0 := hr
    unfold impl_Triangle_boundary_run impl_Triangle_boundary_runG at hr
    split at hr
    · rw [← ds_of hd]
      exact ⟨en_of (impl_Triangle_boundary_en _ _ _ _ _ _) ⟨rfl, rfl⟩, (impl_Triangle_boundary_ev n _ _ _ _ _ _ κ).trans hr0⟩
    · cases hr

/-! (loop.example/g01297/impl.Triangle).inner -/
def impl_Triangle_inner_sh : List SkD := [.agg [.int .i64, .int .i64, .int .i64, .int .i64, .int .i64, .int .i64]]
def impl_Triangle_inner_runG {α : Type} (F : Nat → Int → Int → Int → Int → Int → Int → (Int → Option α) → Option α) (n : Nat) (p : List P1) (κ : Res → Option α) : Option α := match p with
  | [.int t, .int t1, .int t2, .int t3, .int t4, .int t5] => F n t t1 t2 t3 t4 t5 (fun v1 => κ ⟨[.int .i64 v1], []⟩)
  | _ => none
def impl_Triangle_inner_run {α : Type} (n : Nat) (p : List P1) (κ : Res → Option α) : Option α := impl_Triangle_inner_runG impl_Triangle_inner n p κ
def impl_Triangle_inner_CG {α : Type} (F0 : Nat → Int → Int → Int → Int → Int → Int → (Int → Option α) → Option α) (F1 : Nat → Int → Int → Int → Int → Int → Int → (Int → Option α) → Option α) (n : Nat) : FuncId → List D → (Res → Option α) → Option α := tabC [(128, (byShape impl_Triangle_area_sh (impl_Triangle_area_runG F0 n))), (144, (byShape impl_Triangle_boundary_sh (impl_Triangle_boundary_runG F1 n)))]
def impl_Triangle_inner_C {α : Type} (n : Nat) : FuncId → List D → (Res → Option α) → Option α := impl_Triangle_inner_CG impl_Triangle_area impl_Triangle_boundary n
def impl_Triangle_inner_M : FuncId → List Nat := tabM []
def impl_Triangle_inner_lpsG {α : Type}  : List (LoopT α) := []
def impl_Triangle_inner_lps {α : Type} : List (LoopT α) := impl_Triangle_inner_lpsG
def impl_Triangle_inner_XG {α : Type} (F0 : Nat → Int → Int → Int → Int → Int → Int → (Int → Option α) → Option α) (F1 : Nat → Int → Int → Int → Int → Int → Int → (Int → Option α) → Option α)  (n : Nat) : Ctx α := ⟨impl_Triangle_inner_CG F0 F1 n, impl_Triangle_inner_M, eqs, lpOf (impl_Triangle_inner_lpsG) n⟩
def impl_Triangle_inner_X {α : Type} (n : Nat) : Ctx α := impl_Triangle_inner_XG impl_Triangle_area impl_Triangle_boundary n
def impl_Triangle_inner_Lt (np : Nat) (lent : List (Bool × Nat × Blk)) : Prop := np = 1 ∧ lent = []
def impl_Triangle_inner_body {α : Type} (F0 : Nat → Int → Int → Int → Int → Int → Int → (Int → Option α) → Option α) (F1 : Nat → Int → Int → Int → Int → Int → Int → (Int → Option α) → Option α)  (k : Nat) (t : Int) (t1 : Int) (t2 : Int) (t3 : Int) (t4 : Int) (t5 : Int) (r0 : Int → Option α) : Option α :=
  F0 k t t1 t2 t3 t4 t5 fun v =>
  F1 k t t1 t2 t3 t4 t5 fun v1 =>
  r0 (w64 ((w64 (Int.tdiv (w64 (v - v1)) 2)) + 1))
theorem impl_Triangle_inner_gen {α : Type} (F0 : Nat → Int → Int → Int → Int → Int → Int → (Int → Option α) → Option α) (F1 : Nat → Int → Int → Int → Int → Int → Int → (Int → Option α) → Option α)  (n : Nat) (t : Int) (t1 : Int) (t2 : Int) (t3 : Int) (t4 : Int) (t5 : Int) (κ : Res → Option α) : evFn Try.prog (impl_Triangle_inner_XG F0 F1 n) Try.f92 (((buildDs impl_Triangle_inner_sh [.int t, .int t1, .int t2, .int t3, .int t4, .int t5]).map Prod.fst).getD []) κ = impl_Triangle_inner_body F0 F1 n t t1 t2 t3 t4 t5 (fun v1 => κ ⟨[.int .i64 v1], []⟩) := by kernel_rfl
theorem impl_Triangle_inner_ev {α : Type} (n : Nat) (t : Int) (t1 : Int) (t2 : Int) (t3 : Int) (t4 : Int) (t5 : Int) (κ : Res → Option α) : evFn Try.prog (impl_Triangle_inner_X n) Try.f92 (((buildDs impl_Triangle_inner_sh [.int t, .int t1, .int t2, .int t3, .int t4, .int t5]).map Prod.fst).getD []) κ = impl_Triangle_inner_run n [.int t, .int t1, .int t2, .int t3, .int t4, .int t5] κ := (impl_Triangle_inner_gen impl_Triangle_area impl_Triangle_boundary n t t1 t2 t3 t4 t5 κ).trans (by kernel_rfl)
theorem impl_Triangle_inner_en (t : Int) (t1 : Int) (t2 : Int) (t3 : Int) (t4 : Int) (t5 : Int) : (entry 0 (((buildDs impl_Triangle_inner_sh [.int t, .int t1, .int t2, .int t3, .int t4, .int t5]).map Prod.fst).getD [])).map (fun x => (x.1.length, x.2.lent)) = some (1, []) := by kernel_rfl
theorem impl_Triangle_inner_good {α : Type} : ∀ n, GoodFn (α := α) Try.prog 92 (byShape impl_Triangle_inner_sh (impl_Triangle_inner_run n)) := by
  refine fn_good' Try.func92 (c := (Try.f92.body.getD .skip)) (by kernel_rfl) (by kernel_rfl) (by kernel_rfl) impl_Triangle_inner_C impl_Triangle_inner_M eqs impl_Triangle_inner_lps (fun n => tabC_good (List.forall_mem_cons.2 ⟨(impl_Triangle_area_good n), (List.forall_mem_cons.2 ⟨(impl_Triangle_boundary_good n), (fun _ h => absurd h List.not_mem_nil)⟩)⟩)) eqs_ok impl_Triangle_inner_Lt ?_ ?_ impl_Triangle_inner_sh impl_Triangle_inner_run ?_
  · exact (fun _ h => absurd h List.not_mem_nil)
  · exact (fun _ h => absurd h List.not_mem_nil)
  · intro n p κ r ds hd hr
    have hr0 := hr
    unfold impl_Triangle_inner_run impl_Triangle_inner_runG at hr
    split at hr
    · rw [← ds_of hd]
      exact ⟨en_of (impl_Triangle_inner_en _ _ _ _ _ _) ⟨rfl, rfl⟩, (impl_Triangle_inner_ev n _ _ _ _ _ _ κ).trans hr0⟩
    · cases hr

/-! loop.example/g01297/impl.sign -/
def impl_sign_sh : List SkD := [.int .i64]
def impl_sign_runG {α : Type} (F : Nat → Int → (Int → Option α) → Option α) (n : Nat) (p : List P1) (κ : Res → Option α) : Option α := match p with
  | [.int n_] => F n n_ (fun v1 => κ ⟨[.int .i64 v1], []⟩)
  | _ => none
def impl_sign_run {α : Type} (n : Nat) (p : List P1) (κ : Res → Option α) : Option α := impl_sign_runG impl_sign n p κ
def impl_sign_CG {α : Type}  (n : Nat) : FuncId → List D → (Res → Option α) → Option α := tabC []
def impl_sign_C {α : Type} (n : Nat) : FuncId → List D → (Res → Option α) → Option α := impl_sign_CG n
def impl_sign_M : FuncId → List Nat := tabM []
def impl_sign_lpsG {α : Type}  : List (LoopT α) := []
def impl_sign_lps {α : Type} : List (LoopT α) := impl_sign_lpsG
def impl_sign_XG {α : Type}   (n : Nat) : Ctx α := ⟨impl_sign_CG n, impl_sign_M, eqs, lpOf (impl_sign_lpsG) n⟩
def impl_sign_X {α : Type} (n : Nat) : Ctx α := impl_sign_XG n
def impl_sign_Lt (np : Nat) (lent : List (Bool × Nat × Blk)) : Prop := np = 1 ∧ lent = []
def impl_sign_body {α : Type}   (k : Nat) (n_ : Int) (r0 : Int → Option α) : Option α :=
  bif decide (n_ < 0) then
    r0 (-1)
  else
    r0 1
theorem impl_sign_gen {α : Type}   (n : Nat) (n_ : Int) (κ : Res → Option α) : evFn Try.prog (impl_sign_XG n) Try.f145 (((buildDs impl_sign_sh [.int n_]).map Prod.fst).getD []) κ = impl_sign_body n n_ (fun v1 => κ ⟨[.int .i64 v1], []⟩) := by kernel_rfl
theorem impl_sign_ev {α : Type} (n : Nat) (n_ : Int) (κ : Res → Option α) : evFn Try.prog (impl_sign_X n) Try.f145 (((buildDs impl_sign_sh [.int n_]).map Prod.fst).getD []) κ = impl_sign_run n [.int n_] κ := (impl_sign_gen n n_ κ).trans (by kernel_rfl)
theorem impl_sign_en (n_ : Int) : (entry 0 (((buildDs impl_sign_sh [.int n_]).map Prod.fst).getD [])).map (fun x => (x.1.length, x.2.lent)) = some (1, []) := by kernel_rfl
theorem impl_sign_good {α : Type} : ∀ n, GoodFn (α := α) Try.prog 145 (byShape impl_sign_sh (impl_sign_run n)) := by
  refine fn_good' Try.func145 (c := (Try.f145.body.getD .skip)) (by kernel_rfl) (by kernel_rfl) (by kernel_rfl) impl_sign_C impl_sign_M eqs impl_sign_lps (fun n => tabC_good (fun _ h => absurd h List.not_mem_nil)) eqs_ok impl_sign_Lt ?_ ?_ impl_sign_sh impl_sign_run ?_
  · exact (fun _ h => absurd h List.not_mem_nil)
  · exact (fun _ h => absurd h List.not_mem_nil)
  · intro n p κ r ds hd hr
    have hr0 := hr
    unfold impl_sign_run impl_sign_runG at hr
    split at hr
    · rw [← ds_of hd]
      exact ⟨en_of (impl_sign_en _) ⟨rfl, rfl⟩, (impl_sign_ev n _ κ).trans hr0⟩
    · cases hr

/-! (loop.example/g01297/impl.Triangle).inside -/
def impl_Triangle_inside_sh : List SkD := [.agg [.int .i64, .int .i64, .int .i64, .int .i64, .int .i64, .int .i64], .agg [.int .i64, .int .i64]]
def impl_Triangle_inside_runG {α : Type} (F : Nat → Int → Int → Int → Int → Int → Int → Int → Int → (Bool → Option α) → Option α) (n : Nat) (p : List P1) (κ : Res → Option α) : Option α := match p with
  | [.int t, .int t1, .int t2, .int t3, .int t4, .int t5, .int a, .int a1] => F n t t1 t2 t3 t4 t5 a a1 (fun v1 => κ ⟨[.bool v1], []⟩)
  | _ => none
def impl_Triangle_inside_run {α : Type} (n : Nat) (p : List P1) (κ : Res → Option α) : Option α := impl_Triangle_inside_runG impl_Triangle_inside n p κ
def impl_Triangle_inside_CG {α : Type} (F0 : Nat → Int → Int → Int → Int → Int → Int → Int → Int → (Int → Int → Option α) → Option α) (F1 : Nat → Int → Int → Int → Int → (Int → Option α) → Option α) (F2 : Nat → Int → (Int → Option α) → Option α) (F3 : Nat → Int → Int → Int → Int → (Int → Int → Option α) → Option α) (n : Nat) : FuncId → List D → (Res → Option α) → Option α := tabC [(126, (byShape impl_Triangle_side_sh (impl_Triangle_side_runG F0 n))), (115, (byShape impl_det_sh (impl_det_runG F1 n))), (145, (byShape impl_sign_sh (impl_sign_runG F2 n))), (134, (byShape impl_Point_less_sh (impl_Point_less_runG F3 n)))]
def impl_Triangle_inside_C {α : Type} (n : Nat) : FuncId → List D → (Res → Option α) → Option α := impl_Triangle_inside_CG impl_Triangle_side impl_det impl_sign impl_Point_less n
def impl_Triangle_inside_M : FuncId → List Nat := tabM []
def impl_Triangle_inside_lpsG {α : Type}  : List (LoopT α) := []
def impl_Triangle_inside_lps {α : Type} : List (LoopT α) := impl_Triangle_inside_lpsG
def impl_Triangle_inside_XG {α : Type} (F0 : Nat → Int → Int → Int → Int → Int → Int → Int → Int → (Int → Int → Option α) → Option α) (F1 : Nat → Int → Int → Int → Int → (Int → Option α) → Option α) (F2 : Nat → Int → (Int → Option α) → Option α) (F3 : Nat → Int → Int → Int → Int → (Int → Int → Option α) → Option α)  (n : Nat) : Ctx α := ⟨impl_Triangle_inside_CG F0 F1 F2 F3 n, impl_Triangle_inside_M, eqs, lpOf (impl_Triangle_inside_lpsG) n⟩
def impl_Triangle_inside_X {α : Type} (n : Nat) : Ctx α := impl_Triangle_inside_XG impl_Triangle_side impl_det impl_sign impl_Point_less n
def impl_Triangle_inside_Lt (np : Nat) (lent : List (Bool × Nat × Blk)) : Prop := np = 2 ∧ lent = []
def impl_Triangle_inside_body {α : Type} (F0 : Nat → Int → Int → Int → Int → Int → Int → Int → Int → (Int → Int → Option α) → Option α) (F1 : Nat → Int → Int → Int → Int → (Int → Option α) → Option α) (F2 : Nat → Int → (Int → Option α) → Option α) (F3 : Nat → Int → Int → Int → Int → (Int → Int → Option α) → Option α)  (k : Nat) (t : Int) (t1 : Int) (t2 : Int) (t3 : Int) (t4 : Int) (t5 : Int) (a : Int) (a1 : Int) (r0 : Bool → Option α) : Option α :=
  F0 k t t1 t2 t3 t4 t5 0 1 fun v v1 =>
  F0 k t t1 t2 t3 t4 t5 0 2 fun v2 v3 =>
  F1 k v v1 v2 v3 fun v4 =>
  F2 k v4 fun v5 =>
  F0 k t t1 t2 t3 t4 t5 0 1 fun v6 v7 =>
  F3 k a a1 t t1 fun v8 v9 =>
  F1 k v6 v7 v8 v9 fun v10 =>
  bif decide ((w64 (v5 * v10)) ≤ 0) then
    r0 false
  else
    F0 k t t1 t2 t3 t4 t5 1 2 fun v11 v12 =>
    F3 k a a1 t2 t3 fun v13 v14 =>
    F1 k v11 v12 v13 v14 fun v15 =>
    bif decide ((w64 (v5 * v15)) ≤ 0) then
      r0 false
    else
      F0 k t t1 t2 t3 t4 t5 2 0 fun v16 v17 =>
      F3 k a a1 t4 t5 fun v18 v19 =>
      F1 k v16 v17 v18 v19 fun v20 =>
      bif decide ((w64 (v5 * v20)) ≤ 0) then
        r0 false
      else
        r0 true
theorem impl_Triangle_inside_gen {α : Type} (F0 : Nat → Int → Int → Int → Int → Int → Int → Int → Int → (Int → Int → Option α) → Option α) (F1 : Nat → Int → Int → Int → Int → (Int → Option α) → Option α) (F2 : Nat → Int → (Int → Option α) → Option α) (F3 : Nat → Int → Int → Int → Int → (Int → Int → Option α) → Option α)  (n : Nat) (t : Int) (t1 : Int) (t2 : Int) (t3 : Int) (t4 : Int) (t5 : Int) (a : Int) (a1 : Int) (κ : Res → Option α) : evFn Try.prog (impl_Triangle_inside_XG F0 F1 F2 F3 n) Try.f93 (((buildDs impl_Triangle_inside_sh [.int t, .int t1, .int t2, .int t3, .int t4, .int t5, .int a, .int a1]).map Prod.fst).getD []) κ = impl_Triangle_inside_body F0 F1 F2 F3 n t t1 t2 t3 t4 t5 a a1 (fun v1 => κ ⟨[.bool v1], []⟩) := by kernel_rfl
theorem impl_Triangle_inside_ev {α : Type} (n : Nat) (t : Int) (t1 : Int) (t2 : Int) (t3 : Int) (t4 : Int) (t5 : Int) (a : Int) (a1 : Int) (κ : Res → Option α) : evFn Try.prog (impl_Triangle_inside_X n) Try.f93 (((buildDs impl_Triangle_inside_sh [.int t, .int t1, .int t2, .int t3, .int t4, .int t5, .int a, .int a1]).map Prod.fst).getD []) κ = impl_Triangle_inside_run n [.int t, .int t1, .int t2, .int t3, .int t4, .int t5, .int a, .int a1] κ := (impl_Triangle_inside_gen impl_Triangle_side impl_det impl_sign impl_Point_less n t t1 t2 t3 t4 t5 a a1 κ).trans (by kernel_rfl)
theorem impl_Triangle_inside_en (t : Int) (t1 : Int) (t2 : Int) (t3 : Int) (t4 : Int) (t5 : Int) (a : Int) (a1 : Int) : (entry 0 (((buildDs impl_Triangle_inside_sh [.int t, .int t1, .int t2, .int t3, .int t4, .int t5, .int a, .int a1]).map Prod.fst).getD [])).map (fun x => (x.1.length, x.2.lent)) = some (2, []) := by kernel_rfl
theorem impl_Triangle_inside_good {α : Type} : ∀ n, GoodFn (α := α) Try.prog 93 (byShape impl_Triangle_inside_sh (impl_Triangle_inside_run n)) := by
  refine fn_good' Try.func93 (c := (Try.f93.body.getD .skip)) (by kernel_rfl) (by kernel_rfl) (by kernel_rfl) impl_Triangle_inside_C impl_Triangle_inside_M eqs impl_Triangle_inside_lps (fun n => tabC_good (List.forall_mem_cons.2 ⟨(impl_Triangle_side_good n), (List.forall_mem_cons.2 ⟨(impl_det_good n), (List.forall_mem_cons.2 ⟨(impl_sign_good n), (List.forall_mem_cons.2 ⟨(impl_Point_less_good n), (fun _ h => absurd h List.not_mem_nil)⟩)⟩)⟩)⟩)) eqs_ok impl_Triangle_inside_Lt ?_ ?_ impl_Triangle_inside_sh impl_Triangle_inside_run ?_
  · exact (fun _ h => absurd h List.not_mem_nil)
  · exact (fun _ h => absurd h List.not_mem_nil)
  · intro n p κ r ds hd hr
    have hr0 := hr
    unfold impl_Triangle_inside_run impl_Triangle_inside_runG at hr
    split at hr
    · rw [← ds_of hd]
      exact ⟨en_of (impl_Triangle_inside_en _ _ _ _ _ _ _ _) ⟨rfl, rfl⟩, (impl_Triangle_inside_ev n _ _ _ _ _ _ _ _ κ).trans hr0⟩
    · cases hr

end Go.Proofs.Ytnfpidnnmgedfaa
