/- The program's functions hold to their readings without memory: printed by a program of ours. -/
import Derived.Test.YtjekmhinmcniaaaSeXAreEqualTriangles
namespace Go.Proofs.Ytjekmhinmcniaaa
open Go Go.Ev Go.Sh Go.Proofs

/-! loop.example/g01297/laws.toPoint -/
def laws_toPoint_sh : List SkD := [.agg [.int .i64, .int .i64]]
def laws_toPoint_runG {α : Type} (F : Nat → Int → Int → (Int → Int → Option α) → Option α) (n : Nat) (p : List P1) (κ : Res → Option α) : Option α := match p with
  | [.int a, .int a1] => F n a a1 (fun v1 v2 => κ ⟨[.agg [.int .i64 v1, .int .i64 v2]], []⟩)
  | _ => none
def laws_toPoint_run {α : Type} (n : Nat) (p : List P1) (κ : Res → Option α) : Option α := laws_toPoint_runG laws_toPoint n p κ
def laws_toPoint_CG {α : Type}  (n : Nat) : FuncId → List D → (Res → Option α) → Option α := tabC []
def laws_toPoint_C {α : Type} (n : Nat) : FuncId → List D → (Res → Option α) → Option α := laws_toPoint_CG n
def laws_toPoint_M : FuncId → List Nat := tabM []
def laws_toPoint_lpsG {α : Type}  : List (LoopT α) := []
def laws_toPoint_lps {α : Type} : List (LoopT α) := laws_toPoint_lpsG
def laws_toPoint_XG {α : Type}   (n : Nat) : Ctx α := ⟨laws_toPoint_CG n, laws_toPoint_M, eqs, lpOf (laws_toPoint_lpsG) n⟩
def laws_toPoint_X {α : Type} (n : Nat) : Ctx α := laws_toPoint_XG n
def laws_toPoint_Lt (np : Nat) (lent : List (Bool × Nat × Blk)) : Prop := np = 1 ∧ lent = []
def laws_toPoint_body {α : Type}   (k : Nat) (a : Int) (a1 : Int) (r0 : Int → Int → Option α) : Option α :=
  r0 a a1
theorem laws_toPoint_gen {α : Type}   (n : Nat) (a : Int) (a1 : Int) (κ : Res → Option α) : evFn Try.prog (laws_toPoint_XG n) Try.f149 (((buildDs laws_toPoint_sh [.int a, .int a1]).map Prod.fst).getD []) κ = laws_toPoint_body n a a1 (fun v1 v2 => κ ⟨[.agg [.int .i64 v1, .int .i64 v2]], []⟩) := by kernel_rfl
theorem laws_toPoint_eq {α : Type} (n : Nat) (a : Int) (a1 : Int) (r0 : Int → Int → Option α) : laws_toPoint_body n a a1 r0 = laws_toPoint n a a1 r0 := (laws_toPoint_body.eq_1 n a a1 r0).trans (laws_toPoint.eq_1 n a a1 r0).symm
theorem laws_toPoint_rn {α : Type} (F : Nat → Int → Int → (Int → Int → Option α) → Option α) (n : Nat) (a : Int) (a1 : Int) (κ : Res → Option α) : laws_toPoint_runG F n [.int a, .int a1] κ = F n a a1 (fun v1 v2 => κ ⟨[.agg [.int .i64 v1, .int .i64 v2]], []⟩) := rfl
theorem laws_toPoint_ev {α : Type} (n : Nat) (a : Int) (a1 : Int) (κ : Res → Option α) : evFn Try.prog (laws_toPoint_X n) Try.f149 (((buildDs laws_toPoint_sh [.int a, .int a1]).map Prod.fst).getD []) κ = laws_toPoint_run n [.int a, .int a1] κ := (laws_toPoint_gen n a a1 κ).trans ((laws_toPoint_eq n a a1 (fun v1 v2 => κ ⟨[.agg [.int .i64 v1, .int .i64 v2]], []⟩)).trans ((laws_toPoint_run.eq_1 n [.int a, .int a1] κ).trans (laws_toPoint_rn laws_toPoint n a a1 κ)).symm)
theorem laws_toPoint_en (a : Int) (a1 : Int) : (entry 0 (((buildDs laws_toPoint_sh [.int a, .int a1]).map Prod.fst).getD [])).map (fun x => (x.1.length, x.2.lent)) = some (1, []) := by kernel_rfl
theorem laws_toPoint_good {α : Type} : ∀ n, GoodFn (α := α) Try.prog 149 (byShape laws_toPoint_sh (laws_toPoint_run n)) := by
  refine fn_good' Try.func149 (c := (Try.f149.body.getD .skip)) (by kernel_rfl) (by kernel_rfl) (by kernel_rfl) laws_toPoint_C laws_toPoint_M eqs laws_toPoint_lps (fun n => tabC_good (fun _ h => absurd h List.not_mem_nil)) eqs_ok laws_toPoint_Lt ?_ ?_ laws_toPoint_sh laws_toPoint_run ?_
  · exact (fun _ h => absurd h List.not_mem_nil)
  · exact (fun _ h => absurd h List.not_mem_nil)
  · intro n p κ r ds hd hr
    have hr0 := hr
    unfold laws_toPoint_run laws_toPoint_runG at hr
    split at hr
    · rw [← ds_of hd]
      exact ⟨en_of (laws_toPoint_en _ _) ⟨rfl, rfl⟩, (laws_toPoint_ev n _ _ κ).trans hr0⟩
    · cases hr

/-! loop.example/g01297/laws.toTriangle -/
def laws_toTriangle_sh : List SkD := [.agg [.int .i64, .int .i64, .int .i64, .int .i64, .int .i64, .int .i64]]
def laws_toTriangle_runG {α : Type} (F : Nat → Int → Int → Int → Int → Int → Int → (Int → Int → Int → Int → Int → Int → Option α) → Option α) (n : Nat) (p : List P1) (κ : Res → Option α) : Option α := match p with
  | [.int a, .int a1, .int a2, .int a3, .int a4, .int a5] => F n a a1 a2 a3 a4 a5 (fun v1 v2 v3 v4 v5 v6 => κ ⟨[.agg [.int .i64 v1, .int .i64 v2, .int .i64 v3, .int .i64 v4, .int .i64 v5, .int .i64 v6]], []⟩)
  | _ => none
def laws_toTriangle_run {α : Type} (n : Nat) (p : List P1) (κ : Res → Option α) : Option α := laws_toTriangle_runG laws_toTriangle n p κ
def laws_toTriangle_CG {α : Type} (F0 : Nat → Int → Int → (Int → Int → Option α) → Option α) (n : Nat) : FuncId → List D → (Res → Option α) → Option α := tabC [(149, (byShape laws_toPoint_sh (laws_toPoint_runG F0 n)))]
def laws_toTriangle_C {α : Type} (n : Nat) : FuncId → List D → (Res → Option α) → Option α := laws_toTriangle_CG laws_toPoint n
def laws_toTriangle_M : FuncId → List Nat := tabM []
def laws_toTriangle_lpsG {α : Type}  : List (LoopT α) := []
def laws_toTriangle_lps {α : Type} : List (LoopT α) := laws_toTriangle_lpsG
def laws_toTriangle_XG {α : Type} (F0 : Nat → Int → Int → (Int → Int → Option α) → Option α)  (n : Nat) : Ctx α := ⟨laws_toTriangle_CG F0 n, laws_toTriangle_M, eqs, lpOf (laws_toTriangle_lpsG) n⟩
def laws_toTriangle_X {α : Type} (n : Nat) : Ctx α := laws_toTriangle_XG laws_toPoint n
def laws_toTriangle_Lt (np : Nat) (lent : List (Bool × Nat × Blk)) : Prop := np = 1 ∧ lent = []
def laws_toTriangle_body {α : Type} (F0 : Nat → Int → Int → (Int → Int → Option α) → Option α)  (k : Nat) (a : Int) (a1 : Int) (a2 : Int) (a3 : Int) (a4 : Int) (a5 : Int) (r0 : Int → Int → Int → Int → Int → Int → Option α) : Option α :=
  F0 k a a1 fun v v1 =>
  F0 k a2 a3 fun v2 v3 =>
  F0 k a4 a5 fun v4 v5 =>
  r0 v v1 v2 v3 v4 v5
theorem laws_toTriangle_gen {α : Type} (F0 : Nat → Int → Int → (Int → Int → Option α) → Option α)  (n : Nat) (a : Int) (a1 : Int) (a2 : Int) (a3 : Int) (a4 : Int) (a5 : Int) (κ : Res → Option α) : evFn Try.prog (laws_toTriangle_XG F0 n) Try.f16 (((buildDs laws_toTriangle_sh [.int a, .int a1, .int a2, .int a3, .int a4, .int a5]).map Prod.fst).getD []) κ = laws_toTriangle_body F0 n a a1 a2 a3 a4 a5 (fun v1 v2 v3 v4 v5 v6 => κ ⟨[.agg [.int .i64 v1, .int .i64 v2, .int .i64 v3, .int .i64 v4, .int .i64 v5, .int .i64 v6]], []⟩) := by kernel_rfl
theorem laws_toTriangle_eq {α : Type} (n : Nat) (a : Int) (a1 : Int) (a2 : Int) (a3 : Int) (a4 : Int) (a5 : Int) (r0 : Int → Int → Int → Int → Int → Int → Option α) : laws_toTriangle_body laws_toPoint n a a1 a2 a3 a4 a5 r0 = laws_toTriangle n a a1 a2 a3 a4 a5 r0 := (laws_toTriangle_body.eq_1 laws_toPoint n a a1 a2 a3 a4 a5 r0).trans (laws_toTriangle.eq_1 n a a1 a2 a3 a4 a5 r0).symm
theorem laws_toTriangle_rn {α : Type} (F : Nat → Int → Int → Int → Int → Int → Int → (Int → Int → Int → Int → Int → Int → Option α) → Option α) (n : Nat) (a : Int) (a1 : Int) (a2 : Int) (a3 : Int) (a4 : Int) (a5 : Int) (κ : Res → Option α) : laws_toTriangle_runG F n [.int a, .int a1, .int a2, .int a3, .int a4, .int a5] κ = F n a a1 a2 a3 a4 a5 (fun v1 v2 v3 v4 v5 v6 => κ ⟨[.agg [.int .i64 v1, .int .i64 v2, .int .i64 v3, .int .i64 v4, .int .i64 v5, .int .i64 v6]], []⟩) := rfl
theorem laws_toTriangle_ev {α : Type} (n : Nat) (a : Int) (a1 : Int) (a2 : Int) (a3 : Int) (a4 : Int) (a5 : Int) (κ : Res → Option α) : evFn Try.prog (laws_toTriangle_X n) Try.f16 (((buildDs laws_toTriangle_sh [.int a, .int a1, .int a2, .int a3, .int a4, .int a5]).map Prod.fst).getD []) κ = laws_toTriangle_run n [.int a, .int a1, .int a2, .int a3, .int a4, .int a5] κ := (laws_toTriangle_gen laws_toPoint n a a1 a2 a3 a4 a5 κ).trans ((laws_toTriangle_eq n a a1 a2 a3 a4 a5 (fun v1 v2 v3 v4 v5 v6 => κ ⟨[.agg [.int .i64 v1, .int .i64 v2, .int .i64 v3, .int .i64 v4, .int .i64 v5, .int .i64 v6]], []⟩)).trans ((laws_toTriangle_run.eq_1 n [.int a, .int a1, .int a2, .int a3, .int a4, .int a5] κ).trans (laws_toTriangle_rn laws_toTriangle n a a1 a2 a3 a4 a5 κ)).symm)
theorem laws_toTriangle_en (a : Int) (a1 : Int) (a2 : Int) (a3 : Int) (a4 : Int) (a5 : Int) : (entry 0 (((buildDs laws_toTriangle_sh [.int a, .int a1, .int a2, .int a3, .int a4, .int a5]).map Prod.fst).getD [])).map (fun x => (x.1.length, x.2.lent)) = some (1, []) := by kernel_rfl
theorem laws_toTriangle_good {α : Type} : ∀ n, GoodFn (α := α) Try.prog 16 (byShape laws_toTriangle_sh (laws_toTriangle_run n)) := by
  refine fn_good' Try.func16 (c := (Try.f16.body.getD .skip)) (by kernel_rfl) (by kernel_rfl) (by kernel_rfl) laws_toTriangle_C laws_toTriangle_M eqs laws_toTriangle_lps (fun n => tabC_good (List.forall_mem_cons.2 ⟨(laws_toPoint_good n), (fun _ h => absurd h List.not_mem_nil)⟩)) eqs_ok laws_toTriangle_Lt ?_ ?_ laws_toTriangle_sh laws_toTriangle_run ?_
  · exact (fun _ h => absurd h List.not_mem_nil)
  · exact (fun _ h => absurd h List.not_mem_nil)
  · intro n p κ r ds hd hr
    have hr0 := hr
    unfold laws_toTriangle_run laws_toTriangle_runG at hr
    split at hr
    · rw [← ds_of hd]
      exact ⟨en_of (laws_toTriangle_en _ _ _ _ _ _) ⟨rfl, rfl⟩, (laws_toTriangle_ev n _ _ _ _ _ _ κ).trans hr0⟩
    · cases hr

/-! loop.example/g01297/spec.l01In -/
def spec_l01In_sh : List SkD := [.int .i64, .int .i64, .int .i64]
def spec_l01In_runG {α : Type} (F : Nat → Int → Int → Int → (Bool → Option α) → Option α) (n : Nat) (p : List P1) (κ : Res → Option α) : Option α := match p with
  | [.int n_, .int low, .int high] => F n n_ low high (fun v1 => κ ⟨[.bool v1], []⟩)
  | _ => none
def spec_l01In_run {α : Type} (n : Nat) (p : List P1) (κ : Res → Option α) : Option α := spec_l01In_runG spec_l01In n p κ
def spec_l01In_CG {α : Type}  (n : Nat) : FuncId → List D → (Res → Option α) → Option α := tabC []
def spec_l01In_C {α : Type} (n : Nat) : FuncId → List D → (Res → Option α) → Option α := spec_l01In_CG n
def spec_l01In_M : FuncId → List Nat := tabM []
def spec_l01In_lpsG {α : Type}  : List (LoopT α) := []
def spec_l01In_lps {α : Type} : List (LoopT α) := spec_l01In_lpsG
def spec_l01In_XG {α : Type}   (n : Nat) : Ctx α := ⟨spec_l01In_CG n, spec_l01In_M, eqs, lpOf (spec_l01In_lpsG) n⟩
def spec_l01In_X {α : Type} (n : Nat) : Ctx α := spec_l01In_XG n
def spec_l01In_Lt (np : Nat) (lent : List (Bool × Nat × Blk)) : Prop := np = 3 ∧ lent = []
def spec_l01In_body {α : Type}   (k : Nat) (n_ : Int) (low : Int) (high : Int) (r0 : Bool → Option α) : Option α :=
  bif decide (low ≤ n_) then
    r0 (decide (n_ ≤ high))
  else
    r0 false
theorem spec_l01In_gen {α : Type}   (n : Nat) (n_ : Int) (low : Int) (high : Int) (κ : Res → Option α) : evFn Try.prog (spec_l01In_XG n) Try.f170 (((buildDs spec_l01In_sh [.int n_, .int low, .int high]).map Prod.fst).getD []) κ = spec_l01In_body n n_ low high (fun v1 => κ ⟨[.bool v1], []⟩) := by kernel_rfl
theorem spec_l01In_eq {α : Type} (n : Nat) (n_ : Int) (low : Int) (high : Int) (r0 : Bool → Option α) : spec_l01In_body n n_ low high r0 = spec_l01In n n_ low high r0 := (spec_l01In_body.eq_1 n n_ low high r0).trans (spec_l01In.eq_1 n n_ low high r0).symm
theorem spec_l01In_rn {α : Type} (F : Nat → Int → Int → Int → (Bool → Option α) → Option α) (n : Nat) (n_ : Int) (low : Int) (high : Int) (κ : Res → Option α) : spec_l01In_runG F n [.int n_, .int low, .int high] κ = F n n_ low high (fun v1 => κ ⟨[.bool v1], []⟩) := rfl
theorem spec_l01In_ev {α : Type} (n : Nat) (n_ : Int) (low : Int) (high : Int) (κ : Res → Option α) : evFn Try.prog (spec_l01In_X n) Try.f170 (((buildDs spec_l01In_sh [.int n_, .int low, .int high]).map Prod.fst).getD []) κ = spec_l01In_run n [.int n_, .int low, .int high] κ := (spec_l01In_gen n n_ low high κ).trans ((spec_l01In_eq n n_ low high (fun v1 => κ ⟨[.bool v1], []⟩)).trans ((spec_l01In_run.eq_1 n [.int n_, .int low, .int high] κ).trans (spec_l01In_rn spec_l01In n n_ low high κ)).symm)
theorem spec_l01In_en (n_ : Int) (low : Int) (high : Int) : (entry 0 (((buildDs spec_l01In_sh [.int n_, .int low, .int high]).map Prod.fst).getD [])).map (fun x => (x.1.length, x.2.lent)) = some (3, []) := by kernel_rfl
theorem spec_l01In_good {α : Type} : ∀ n, GoodFn (α := α) Try.prog 170 (byShape spec_l01In_sh (spec_l01In_run n)) := by
  refine fn_good' Try.func170 (c := (Try.f170.body.getD .skip)) (by kernel_rfl) (by kernel_rfl) (by kernel_rfl) spec_l01In_C spec_l01In_M eqs spec_l01In_lps (fun n => tabC_good (fun _ h => absurd h List.not_mem_nil)) eqs_ok spec_l01In_Lt ?_ ?_ spec_l01In_sh spec_l01In_run ?_
  · exact (fun _ h => absurd h List.not_mem_nil)
  · exact (fun _ h => absurd h List.not_mem_nil)
  · intro n p κ r ds hd hr
    have hr0 := hr
    unfold spec_l01In_run spec_l01In_runG at hr
    split at hr
    · rw [← ds_of hd]
      exact ⟨en_of (spec_l01In_en _ _ _) ⟨rfl, rfl⟩, (spec_l01In_ev n _ _ _ κ).trans hr0⟩
    · cases hr

/-! loop.example/g01297/spec.l01Plus -/
def spec_l01Plus_sh : List SkD := [.agg [.int .i64, .int .i64], .agg [.int .i64, .int .i64], .int .i64]
def spec_l01Plus_runG {α : Type} (F : Nat → Int → Int → Int → Int → Int → (Int → Int → Option α) → Option α) (n : Nat) (p : List P1) (κ : Res → Option α) : Option α := match p with
  | [.int a, .int a1, .int b_, .int b_1, .int k_] => F n a a1 b_ b_1 k_ (fun v1 v2 => κ ⟨[.agg [.int .i64 v1, .int .i64 v2]], []⟩)
  | _ => none
def spec_l01Plus_run {α : Type} (n : Nat) (p : List P1) (κ : Res → Option α) : Option α := spec_l01Plus_runG spec_l01Plus n p κ
def spec_l01Plus_CG {α : Type}  (n : Nat) : FuncId → List D → (Res → Option α) → Option α := tabC []
def spec_l01Plus_C {α : Type} (n : Nat) : FuncId → List D → (Res → Option α) → Option α := spec_l01Plus_CG n
def spec_l01Plus_M : FuncId → List Nat := tabM []
def spec_l01Plus_lpsG {α : Type}  : List (LoopT α) := []
def spec_l01Plus_lps {α : Type} : List (LoopT α) := spec_l01Plus_lpsG
def spec_l01Plus_XG {α : Type}   (n : Nat) : Ctx α := ⟨spec_l01Plus_CG n, spec_l01Plus_M, eqs, lpOf (spec_l01Plus_lpsG) n⟩
def spec_l01Plus_X {α : Type} (n : Nat) : Ctx α := spec_l01Plus_XG n
def spec_l01Plus_Lt (np : Nat) (lent : List (Bool × Nat × Blk)) : Prop := np = 3 ∧ lent = []
def spec_l01Plus_body {α : Type}   (k : Nat) (a : Int) (a1 : Int) (b_ : Int) (b_1 : Int) (k_ : Int) (r0 : Int → Int → Option α) : Option α :=
  r0 (w64 (a + (w64 (k_ * b_)))) (w64 (a1 + (w64 (k_ * b_1))))
theorem spec_l01Plus_gen {α : Type}   (n : Nat) (a : Int) (a1 : Int) (b_ : Int) (b_1 : Int) (k_ : Int) (κ : Res → Option α) : evFn Try.prog (spec_l01Plus_XG n) Try.f183 (((buildDs spec_l01Plus_sh [.int a, .int a1, .int b_, .int b_1, .int k_]).map Prod.fst).getD []) κ = spec_l01Plus_body n a a1 b_ b_1 k_ (fun v1 v2 => κ ⟨[.agg [.int .i64 v1, .int .i64 v2]], []⟩) := by kernel_rfl
theorem spec_l01Plus_eq {α : Type} (n : Nat) (a : Int) (a1 : Int) (b_ : Int) (b_1 : Int) (k_ : Int) (r0 : Int → Int → Option α) : spec_l01Plus_body n a a1 b_ b_1 k_ r0 = spec_l01Plus n a a1 b_ b_1 k_ r0 := (spec_l01Plus_body.eq_1 n a a1 b_ b_1 k_ r0).trans (spec_l01Plus.eq_1 n a a1 b_ b_1 k_ r0).symm
theorem spec_l01Plus_rn {α : Type} (F : Nat → Int → Int → Int → Int → Int → (Int → Int → Option α) → Option α) (n : Nat) (a : Int) (a1 : Int) (b_ : Int) (b_1 : Int) (k_ : Int) (κ : Res → Option α) : spec_l01Plus_runG F n [.int a, .int a1, .int b_, .int b_1, .int k_] κ = F n a a1 b_ b_1 k_ (fun v1 v2 => κ ⟨[.agg [.int .i64 v1, .int .i64 v2]], []⟩) := rfl
theorem spec_l01Plus_ev {α : Type} (n : Nat) (a : Int) (a1 : Int) (b_ : Int) (b_1 : Int) (k_ : Int) (κ : Res → Option α) : evFn Try.prog (spec_l01Plus_X n) Try.f183 (((buildDs spec_l01Plus_sh [.int a, .int a1, .int b_, .int b_1, .int k_]).map Prod.fst).getD []) κ = spec_l01Plus_run n [.int a, .int a1, .int b_, .int b_1, .int k_] κ := (spec_l01Plus_gen n a a1 b_ b_1 k_ κ).trans ((spec_l01Plus_eq n a a1 b_ b_1 k_ (fun v1 v2 => κ ⟨[.agg [.int .i64 v1, .int .i64 v2]], []⟩)).trans ((spec_l01Plus_run.eq_1 n [.int a, .int a1, .int b_, .int b_1, .int k_] κ).trans (spec_l01Plus_rn spec_l01Plus n a a1 b_ b_1 k_ κ)).symm)
theorem spec_l01Plus_en (a : Int) (a1 : Int) (b_ : Int) (b_1 : Int) (k_ : Int) : (entry 0 (((buildDs spec_l01Plus_sh [.int a, .int a1, .int b_, .int b_1, .int k_]).map Prod.fst).getD [])).map (fun x => (x.1.length, x.2.lent)) = some (3, []) := by kernel_rfl
theorem spec_l01Plus_good {α : Type} : ∀ n, GoodFn (α := α) Try.prog 183 (byShape spec_l01Plus_sh (spec_l01Plus_run n)) := by
  refine fn_good' Try.func183 (c := (Try.f183.body.getD .skip)) (by kernel_rfl) (by kernel_rfl) (by kernel_rfl) spec_l01Plus_C spec_l01Plus_M eqs spec_l01Plus_lps (fun n => tabC_good (fun _ h => absurd h List.not_mem_nil)) eqs_ok spec_l01Plus_Lt ?_ ?_ spec_l01Plus_sh spec_l01Plus_run ?_
  · exact (fun _ h => absurd h List.not_mem_nil)
  · exact (fun _ h => absurd h List.not_mem_nil)
  · intro n p κ r ds hd hr
    have hr0 := hr
    unfold spec_l01Plus_run spec_l01Plus_runG at hr
    split at hr
    · rw [← ds_of hd]
      exact ⟨en_of (spec_l01Plus_en _ _ _ _ _) ⟨rfl, rfl⟩, (spec_l01Plus_ev n _ _ _ _ _ κ).trans hr0⟩
    · cases hr

/-! loop.example/g01297/spec.l01Det -/
def spec_l01Det_sh : List SkD := [.agg [.int .i64, .int .i64], .agg [.int .i64, .int .i64]]
def spec_l01Det_runG {α : Type} (F : Nat → Int → Int → Int → Int → (Int → Option α) → Option α) (n : Nat) (p : List P1) (κ : Res → Option α) : Option α := match p with
  | [.int a, .int a1, .int b_, .int b_1] => F n a a1 b_ b_1 (fun v1 => κ ⟨[.int .i64 v1], []⟩)
  | _ => none
def spec_l01Det_run {α : Type} (n : Nat) (p : List P1) (κ : Res → Option α) : Option α := spec_l01Det_runG spec_l01Det n p κ
def spec_l01Det_CG {α : Type}  (n : Nat) : FuncId → List D → (Res → Option α) → Option α := tabC []
def spec_l01Det_C {α : Type} (n : Nat) : FuncId → List D → (Res → Option α) → Option α := spec_l01Det_CG n
def spec_l01Det_M : FuncId → List Nat := tabM []
def spec_l01Det_lpsG {α : Type}  : List (LoopT α) := []
def spec_l01Det_lps {α : Type} : List (LoopT α) := spec_l01Det_lpsG
def spec_l01Det_XG {α : Type}   (n : Nat) : Ctx α := ⟨spec_l01Det_CG n, spec_l01Det_M, eqs, lpOf (spec_l01Det_lpsG) n⟩
def spec_l01Det_X {α : Type} (n : Nat) : Ctx α := spec_l01Det_XG n
def spec_l01Det_Lt (np : Nat) (lent : List (Bool × Nat × Blk)) : Prop := np = 2 ∧ lent = []
def spec_l01Det_body {α : Type}   (k : Nat) (a : Int) (a1 : Int) (b_ : Int) (b_1 : Int) (r0 : Int → Option α) : Option α :=
  r0 (w64 ((w64 (a * b_1)) - (w64 (a1 * b_))))
theorem spec_l01Det_gen {α : Type}   (n : Nat) (a : Int) (a1 : Int) (b_ : Int) (b_1 : Int) (κ : Res → Option α) : evFn Try.prog (spec_l01Det_XG n) Try.f260 (((buildDs spec_l01Det_sh [.int a, .int a1, .int b_, .int b_1]).map Prod.fst).getD []) κ = spec_l01Det_body n a a1 b_ b_1 (fun v1 => κ ⟨[.int .i64 v1], []⟩) := by kernel_rfl
theorem spec_l01Det_eq {α : Type} (n : Nat) (a : Int) (a1 : Int) (b_ : Int) (b_1 : Int) (r0 : Int → Option α) : spec_l01Det_body n a a1 b_ b_1 r0 = spec_l01Det n a a1 b_ b_1 r0 := (spec_l01Det_body.eq_1 n a a1 b_ b_1 r0).trans (spec_l01Det.eq_1 n a a1 b_ b_1 r0).symm
theorem spec_l01Det_rn {α : Type} (F : Nat → Int → Int → Int → Int → (Int → Option α) → Option α) (n : Nat) (a : Int) (a1 : Int) (b_ : Int) (b_1 : Int) (κ : Res → Option α) : spec_l01Det_runG F n [.int a, .int a1, .int b_, .int b_1] κ = F n a a1 b_ b_1 (fun v1 => κ ⟨[.int .i64 v1], []⟩) := rfl
theorem spec_l01Det_ev {α : Type} (n : Nat) (a : Int) (a1 : Int) (b_ : Int) (b_1 : Int) (κ : Res → Option α) : evFn Try.prog (spec_l01Det_X n) Try.f260 (((buildDs spec_l01Det_sh [.int a, .int a1, .int b_, .int b_1]).map Prod.fst).getD []) κ = spec_l01Det_run n [.int a, .int a1, .int b_, .int b_1] κ := (spec_l01Det_gen n a a1 b_ b_1 κ).trans ((spec_l01Det_eq n a a1 b_ b_1 (fun v1 => κ ⟨[.int .i64 v1], []⟩)).trans ((spec_l01Det_run.eq_1 n [.int a, .int a1, .int b_, .int b_1] κ).trans (spec_l01Det_rn spec_l01Det n a a1 b_ b_1 κ)).symm)
theorem spec_l01Det_en (a : Int) (a1 : Int) (b_ : Int) (b_1 : Int) : (entry 0 (((buildDs spec_l01Det_sh [.int a, .int a1, .int b_, .int b_1]).map Prod.fst).getD [])).map (fun x => (x.1.length, x.2.lent)) = some (2, []) := by kernel_rfl
theorem spec_l01Det_good {α : Type} : ∀ n, GoodFn (α := α) Try.prog 260 (byShape spec_l01Det_sh (spec_l01Det_run n)) := by
  refine fn_good' Try.func260 (c := (Try.f260.body.getD .skip)) (by kernel_rfl) (by kernel_rfl) (by kernel_rfl) spec_l01Det_C spec_l01Det_M eqs spec_l01Det_lps (fun n => tabC_good (fun _ h => absurd h List.not_mem_nil)) eqs_ok spec_l01Det_Lt ?_ ?_ spec_l01Det_sh spec_l01Det_run ?_
  · exact (fun _ h => absurd h List.not_mem_nil)
  · exact (fun _ h => absurd h List.not_mem_nil)
  · intro n p κ r ds hd hr
    have hr0 := hr
    unfold spec_l01Det_run spec_l01Det_runG at hr
    split at hr
    · rw [← ds_of hd]
      exact ⟨en_of (spec_l01Det_en _ _ _ _) ⟨rfl, rfl⟩, (spec_l01Det_ev n _ _ _ _ κ).trans hr0⟩
    · cases hr

/-! loop.example/g01297/spec.l01Area -/
def spec_l01Area_sh : List SkD := [.agg [.int .i64, .int .i64], .agg [.int .i64, .int .i64], .agg [.int .i64, .int .i64]]
def spec_l01Area_runG {α : Type} (F : Nat → Int → Int → Int → Int → Int → Int → (Int → Option α) → Option α) (n : Nat) (p : List P1) (κ : Res → Option α) : Option α := match p with
  | [.int a, .int a1, .int b_, .int b_1, .int c, .int c1] => F n a a1 b_ b_1 c c1 (fun v1 => κ ⟨[.int .i64 v1], []⟩)
  | _ => none
def spec_l01Area_run {α : Type} (n : Nat) (p : List P1) (κ : Res → Option α) : Option α := spec_l01Area_runG spec_l01Area n p κ
def spec_l01Area_CG {α : Type} (F0 : Nat → Int → Int → Int → Int → Int → (Int → Int → Option α) → Option α) (F1 : Nat → Int → Int → Int → Int → (Int → Option α) → Option α) (n : Nat) : FuncId → List D → (Res → Option α) → Option α := tabC [(183, (byShape spec_l01Plus_sh (spec_l01Plus_runG F0 n))), (260, (byShape spec_l01Det_sh (spec_l01Det_runG F1 n)))]
def spec_l01Area_C {α : Type} (n : Nat) : FuncId → List D → (Res → Option α) → Option α := spec_l01Area_CG spec_l01Plus spec_l01Det n
def spec_l01Area_M : FuncId → List Nat := tabM []
def spec_l01Area_lpsG {α : Type}  : List (LoopT α) := []
def spec_l01Area_lps {α : Type} : List (LoopT α) := spec_l01Area_lpsG
def spec_l01Area_XG {α : Type} (F0 : Nat → Int → Int → Int → Int → Int → (Int → Int → Option α) → Option α) (F1 : Nat → Int → Int → Int → Int → (Int → Option α) → Option α)  (n : Nat) : Ctx α := ⟨spec_l01Area_CG F0 F1 n, spec_l01Area_M, eqs, lpOf (spec_l01Area_lpsG) n⟩
def spec_l01Area_X {α : Type} (n : Nat) : Ctx α := spec_l01Area_XG spec_l01Plus spec_l01Det n
def spec_l01Area_Lt (np : Nat) (lent : List (Bool × Nat × Blk)) : Prop := np = 3 ∧ lent = []
def spec_l01Area_body {α : Type} (F0 : Nat → Int → Int → Int → Int → Int → (Int → Int → Option α) → Option α) (F1 : Nat → Int → Int → Int → Int → (Int → Option α) → Option α)  (k : Nat) (a : Int) (a1 : Int) (b_ : Int) (b_1 : Int) (c : Int) (c1 : Int) (r0 : Int → Option α) : Option α :=
  F0 k b_ b_1 a a1 (-1) fun v v1 =>
  F0 k c c1 a a1 (-1) fun v2 v3 =>
  F1 k v v1 v2 v3 fun v4 =>
  r0 (max v4 (w64 (0 - v4)))
theorem spec_l01Area_gen {α : Type} (F0 : Nat → Int → Int → Int → Int → Int → (Int → Int → Option α) → Option α) (F1 : Nat → Int → Int → Int → Int → (Int → Option α) → Option α)  (n : Nat) (a : Int) (a1 : Int) (b_ : Int) (b_1 : Int) (c : Int) (c1 : Int) (κ : Res → Option α) : evFn Try.prog (spec_l01Area_XG F0 F1 n) Try.f229 (((buildDs spec_l01Area_sh [.int a, .int a1, .int b_, .int b_1, .int c, .int c1]).map Prod.fst).getD []) κ = spec_l01Area_body F0 F1 n a a1 b_ b_1 c c1 (fun v1 => κ ⟨[.int .i64 v1], []⟩) := by kernel_rfl
theorem spec_l01Area_eq {α : Type} (n : Nat) (a : Int) (a1 : Int) (b_ : Int) (b_1 : Int) (c : Int) (c1 : Int) (r0 : Int → Option α) : spec_l01Area_body spec_l01Plus spec_l01Det n a a1 b_ b_1 c c1 r0 = spec_l01Area n a a1 b_ b_1 c c1 r0 := (spec_l01Area_body.eq_1 spec_l01Plus spec_l01Det n a a1 b_ b_1 c c1 r0).trans (spec_l01Area.eq_1 n a a1 b_ b_1 c c1 r0).symm
theorem spec_l01Area_rn {α : Type} (F : Nat → Int → Int → Int → Int → Int → Int → (Int → Option α) → Option α) (n : Nat) (a : Int) (a1 : Int) (b_ : Int) (b_1 : Int) (c : Int) (c1 : Int) (κ : Res → Option α) : spec_l01Area_runG F n [.int a, .int a1, .int b_, .int b_1, .int c, .int c1] κ = F n a a1 b_ b_1 c c1 (fun v1 => κ ⟨[.int .i64 v1], []⟩) := rfl
theorem spec_l01Area_ev {α : Type} (n : Nat) (a : Int) (a1 : Int) (b_ : Int) (b_1 : Int) (c : Int) (c1 : Int) (κ : Res → Option α) : evFn Try.prog (spec_l01Area_X n) Try.f229 (((buildDs spec_l01Area_sh [.int a, .int a1, .int b_, .int b_1, .int c, .int c1]).map Prod.fst).getD []) κ = spec_l01Area_run n [.int a, .int a1, .int b_, .int b_1, .int c, .int c1] κ := (spec_l01Area_gen spec_l01Plus spec_l01Det n a a1 b_ b_1 c c1 κ).trans ((spec_l01Area_eq n a a1 b_ b_1 c c1 (fun v1 => κ ⟨[.int .i64 v1], []⟩)).trans ((spec_l01Area_run.eq_1 n [.int a, .int a1, .int b_, .int b_1, .int c, .int c1] κ).trans (spec_l01Area_rn spec_l01Area n a a1 b_ b_1 c c1 κ)).symm)
theorem spec_l01Area_en (a : Int) (a1 : Int) (b_ : Int) (b_1 : Int) (c : Int) (c1 : Int) : (entry 0 (((buildDs spec_l01Area_sh [.int a, .int a1, .int b_, .int b_1, .int c, .int c1]).map Prod.fst).getD [])).map (fun x => (x.1.length, x.2.lent)) = some (3, []) := by kernel_rfl
theorem spec_l01Area_good {α : Type} : ∀ n, GoodFn (α := α) Try.prog 229 (byShape spec_l01Area_sh (spec_l01Area_run n)) := by
  refine fn_good' Try.func229 (c := (Try.f229.body.getD .skip)) (by kernel_rfl) (by kernel_rfl) (by kernel_rfl) spec_l01Area_C spec_l01Area_M eqs spec_l01Area_lps (fun n => tabC_good (List.forall_mem_cons.2 ⟨(spec_l01Plus_good n), (List.forall_mem_cons.2 ⟨(spec_l01Det_good n), (fun _ h => absurd h List.not_mem_nil)⟩)⟩)) eqs_ok spec_l01Area_Lt ?_ ?_ spec_l01Area_sh spec_l01Area_run ?_
  · exact (fun _ h => absurd h List.not_mem_nil)
  · exact (fun _ h => absurd h List.not_mem_nil)
  · intro n p κ r ds hd hr
    have hr0 := hr
    unfold spec_l01Area_run spec_l01Area_runG at hr
    split at hr
    · rw [← ds_of hd]
      exact ⟨en_of (spec_l01Area_en _ _ _ _ _ _) ⟨rfl, rfl⟩, (spec_l01Area_ev n _ _ _ _ _ _ κ).trans hr0⟩
    · cases hr

/-! loop.example/g01297/spec.l04Is -/
def spec_l04Is_sh : List SkD := [.agg [.int .i64, .int .i64, .int .i64, .int .i64, .int .i64, .int .i64]]
def spec_l04Is_runG {α : Type} (F : Nat → Int → Int → Int → Int → Int → Int → (Bool → Option α) → Option α) (n : Nat) (p : List P1) (κ : Res → Option α) : Option α := match p with
  | [.int t, .int t1, .int t2, .int t3, .int t4, .int t5] => F n t t1 t2 t3 t4 t5 (fun v1 => κ ⟨[.bool v1], []⟩)
  | _ => none
def spec_l04Is_run {α : Type} (n : Nat) (p : List P1) (κ : Res → Option α) : Option α := spec_l04Is_runG spec_l04Is n p κ
def spec_l04Is_CG {α : Type} (F0 : Nat → Int → Int → Int → (Bool → Option α) → Option α) (F1 : Nat → Int → Int → Int → Int → Int → Int → (Int → Option α) → Option α) (n : Nat) : FuncId → List D → (Res → Option α) → Option α := tabC [(170, (byShape spec_l01In_sh (spec_l01In_runG F0 n))), (229, (byShape spec_l01Area_sh (spec_l01Area_runG F1 n)))]
def spec_l04Is_C {α : Type} (n : Nat) : FuncId → List D → (Res → Option α) → Option α := spec_l04Is_CG spec_l01In spec_l01Area n
def spec_l04Is_M : FuncId → List Nat := tabM []
def spec_l04Is_lpsG {α : Type}  : List (LoopT α) := []
def spec_l04Is_lps {α : Type} : List (LoopT α) := spec_l04Is_lpsG
def spec_l04Is_XG {α : Type} (F0 : Nat → Int → Int → Int → (Bool → Option α) → Option α) (F1 : Nat → Int → Int → Int → Int → Int → Int → (Int → Option α) → Option α)  (n : Nat) : Ctx α := ⟨spec_l04Is_CG F0 F1 n, spec_l04Is_M, eqs, lpOf (spec_l04Is_lpsG) n⟩
def spec_l04Is_X {α : Type} (n : Nat) : Ctx α := spec_l04Is_XG spec_l01In spec_l01Area n
def spec_l04Is_Lt (np : Nat) (lent : List (Bool × Nat × Blk)) : Prop := np = 1 ∧ lent = []
def spec_l04Is_body {α : Type} (F0 : Nat → Int → Int → Int → (Bool → Option α) → Option α) (F1 : Nat → Int → Int → Int → Int → Int → Int → (Int → Option α) → Option α)  (k : Nat) (t : Int) (t1 : Int) (t2 : Int) (t3 : Int) (t4 : Int) (t5 : Int) (r0 : Bool → Option α) : Option α :=
  F0 k t (-1000) 1000 fun v =>
  bif (!v) then
    r0 false
  else
    F0 k t1 (-1000) 1000 fun v1 =>
    bif (!v1) then
      r0 false
    else
      F0 k t2 (-1000) 1000 fun v2 =>
      bif (!v2) then
        r0 false
      else
        F0 k t3 (-1000) 1000 fun v3 =>
        bif (!v3) then
          r0 false
        else
          F0 k t4 (-1000) 1000 fun v4 =>
          bif (!v4) then
            r0 false
          else
            F0 k t5 (-1000) 1000 fun v5 =>
            bif (!v5) then
              r0 false
            else
              F1 k t t1 t2 t3 t4 t5 fun v6 =>
              r0 (!decide (v6 = 0))
theorem spec_l04Is_gen {α : Type} (F0 : Nat → Int → Int → Int → (Bool → Option α) → Option α) (F1 : Nat → Int → Int → Int → Int → Int → Int → (Int → Option α) → Option α)  (n : Nat) (t : Int) (t1 : Int) (t2 : Int) (t3 : Int) (t4 : Int) (t5 : Int) (κ : Res → Option α) : evFn Try.prog (spec_l04Is_XG F0 F1 n) Try.f147 (((buildDs spec_l04Is_sh [.int t, .int t1, .int t2, .int t3, .int t4, .int t5]).map Prod.fst).getD []) κ = spec_l04Is_body F0 F1 n t t1 t2 t3 t4 t5 (fun v1 => κ ⟨[.bool v1], []⟩) := by kernel_rfl
theorem spec_l04Is_eq {α : Type} (n : Nat) (t : Int) (t1 : Int) (t2 : Int) (t3 : Int) (t4 : Int) (t5 : Int) (r0 : Bool → Option α) : spec_l04Is_body spec_l01In spec_l01Area n t t1 t2 t3 t4 t5 r0 = spec_l04Is n t t1 t2 t3 t4 t5 r0 := (spec_l04Is_body.eq_1 spec_l01In spec_l01Area n t t1 t2 t3 t4 t5 r0).trans (spec_l04Is.eq_1 n t t1 t2 t3 t4 t5 r0).symm
theorem spec_l04Is_rn {α : Type} (F : Nat → Int → Int → Int → Int → Int → Int → (Bool → Option α) → Option α) (n : Nat) (t : Int) (t1 : Int) (t2 : Int) (t3 : Int) (t4 : Int) (t5 : Int) (κ : Res → Option α) : spec_l04Is_runG F n [.int t, .int t1, .int t2, .int t3, .int t4, .int t5] κ = F n t t1 t2 t3 t4 t5 (fun v1 => κ ⟨[.bool v1], []⟩) := rfl
theorem spec_l04Is_ev {α : Type} (n : Nat) (t : Int) (t1 : Int) (t2 : Int) (t3 : Int) (t4 : Int) (t5 : Int) (κ : Res → Option α) : evFn Try.prog (spec_l04Is_X n) Try.f147 (((buildDs spec_l04Is_sh [.int t, .int t1, .int t2, .int t3, .int t4, .int t5]).map Prod.fst).getD []) κ = spec_l04Is_run n [.int t, .int t1, .int t2, .int t3, .int t4, .int t5] κ := (spec_l04Is_gen spec_l01In spec_l01Area n t t1 t2 t3 t4 t5 κ).trans ((spec_l04Is_eq n t t1 t2 t3 t4 t5 (fun v1 => κ ⟨[.bool v1], []⟩)).trans ((spec_l04Is_run.eq_1 n [.int t, .int t1, .int t2, .int t3, .int t4, .int t5] κ).trans (spec_l04Is_rn spec_l04Is n t t1 t2 t3 t4 t5 κ)).symm)
theorem spec_l04Is_en (t : Int) (t1 : Int) (t2 : Int) (t3 : Int) (t4 : Int) (t5 : Int) : (entry 0 (((buildDs spec_l04Is_sh [.int t, .int t1, .int t2, .int t3, .int t4, .int t5]).map Prod.fst).getD [])).map (fun x => (x.1.length, x.2.lent)) = some (1, []) := by kernel_rfl
theorem spec_l04Is_good {α : Type} : ∀ n, GoodFn (α := α) Try.prog 147 (byShape spec_l04Is_sh (spec_l04Is_run n)) := by
  refine fn_good' Try.func147 (c := (Try.f147.body.getD .skip)) (by kernel_rfl) (by kernel_rfl) (by kernel_rfl) spec_l04Is_C spec_l04Is_M eqs spec_l04Is_lps (fun n => tabC_good (List.forall_mem_cons.2 ⟨(spec_l01In_good n), (List.forall_mem_cons.2 ⟨(spec_l01Area_good n), (fun _ h => absurd h List.not_mem_nil)⟩)⟩)) eqs_ok spec_l04Is_Lt ?_ ?_ spec_l04Is_sh spec_l04Is_run ?_
  · exact (fun _ h => absurd h List.not_mem_nil)
  · exact (fun _ h => absurd h List.not_mem_nil)
  · intro n p κ r ds hd hr
    have hr0 := hr
    unfold spec_l04Is_run spec_l04Is_runG at hr
    split at hr
    · rw [← ds_of hd]
      exact ⟨en_of (spec_l04Is_en _ _ _ _ _ _) ⟨rfl, rfl⟩, (spec_l04Is_ev n _ _ _ _ _ _ κ).trans hr0⟩
    · cases hr

/-! loop.example/g01297/spec.l01Gcd -/
def spec_l01Gcd_sh : List SkD := [.int .i64, .int .i64]
def spec_l01Gcd_runG {α : Type} (F : Nat → Int → Int → (Int → Option α) → Option α) (n : Nat) (p : List P1) (κ : Res → Option α) : Option α := match p with
  | [.int a, .int b_] => F n a b_ (fun v1 => κ ⟨[.int .i64 v1], []⟩)
  | _ => none
def spec_l01Gcd_run {α : Type} (n : Nat) (p : List P1) (κ : Res → Option α) : Option α := spec_l01Gcd_runG spec_l01Gcd n p κ
def spec_l01Gcd_CG {α : Type}  (n : Nat) : FuncId → List D → (Res → Option α) → Option α := tabC []
def spec_l01Gcd_C {α : Type} (n : Nat) : FuncId → List D → (Res → Option α) → Option α := spec_l01Gcd_CG n
def spec_l01Gcd_M : FuncId → List Nat := tabM []
def spec_l01Gcd_t1 : Tpl := ⟨[.int .i64, .int .i64, .any, .any, .any, .any, .any, .any, .any, .any, .any, .any, .any, .any, .any, .any, .any], [], []⟩
def spec_l01Gcd_uG1 {α : Type} (G : Nat → Int → Int → (Int → Int → Option α) → (Int → Option α) → Option α) (n : Nat) (p : List P1) (brk : Nat → List P1 → Option α) (ret : Res → Option α) : Option α := match p with
  | [.int a1, .int b_1] => G n a1 b_1 (fun a1 b_1 => brk 0 [.int a1, .int b_1]) (fun v1 => ret ⟨[.int .i64 v1], []⟩)
  | _ => none
def spec_l01Gcd_u1 {α : Type} (n : Nat) (p : List P1) (brk : Nat → List P1 → Option α) (ret : Res → Option α) : Option α := spec_l01Gcd_uG1 spec_l01Gcd_l1 n p brk ret
def spec_l01Gcd_lpsG {α : Type} (G1 : Nat → Int → Int → (Int → Int → Option α) → (Int → Option α) → Option α) : List (LoopT α) := [⟨1, spec_l01Gcd_t1, spec_l01Gcd_uG1 G1⟩]
def spec_l01Gcd_lps {α : Type} : List (LoopT α) := spec_l01Gcd_lpsG spec_l01Gcd_l1
def spec_l01Gcd_XG {α : Type}  (G1 : Nat → Int → Int → (Int → Int → Option α) → (Int → Option α) → Option α) (n : Nat) : Ctx α := ⟨spec_l01Gcd_CG n, spec_l01Gcd_M, eqs, lpOf (spec_l01Gcd_lpsG G1) n⟩
def spec_l01Gcd_X {α : Type} (n : Nat) : Ctx α := spec_l01Gcd_XG spec_l01Gcd_l1 n
def spec_l01Gcd_Lt (np : Nat) (lent : List (Bool × Nat × Blk)) : Prop := np = 2 ∧ lent = []
def spec_l01Gcd_lb1 {α : Type}  (G1 : Nat → Int → Int → (Int → Int → Option α) → (Int → Option α) → Option α) (k : Nat) (a1 : Int) (b_1 : Int) (b0 : Int → Int → Option α) (r0 : Int → Option α) : Option α :=
  bif (!decide (b_1 = 0)) then
    bif decide (b_1 = 0) then
      none
    else
      G1 k b_1 (Int.tmod a1 b_1) b0 r0
  else
    b0 a1 b_1
theorem spec_l01Gcd_l1_gen {α : Type}  (G1 : Nat → Int → Int → (Int → Int → Option α) → (Int → Option α) → Option α) (n : Nat) (a1 : Int) (b_1 : Int) (brk : Nat → List P1 → Option α) (ret : Res → Option α) : ev ((spec_l01Gcd_XG G1 n).env Try.prog Try.f240 2 []) (findLoop (loopsIn (Try.f240.body.getD .skip)) 1) ((spec_l01Gcd_t1.build [.int a1, .int b_1]).getD ⟨[], []⟩) (roundK (2 * 64) spec_l01Gcd_t1 (fun q => spec_l01Gcd_uG1 G1 n q brk ret) brk ret) = spec_l01Gcd_lb1 G1 n a1 b_1 (fun a1 b_1 => brk 0 [.int a1, .int b_1]) (fun v1 => ret ⟨[.int .i64 v1], []⟩) := by kernel_rfl
theorem spec_l01Gcd_l1_eq {α : Type} (k : Nat) (a1 : Int) (b_1 : Int) (b0 : Int → Int → Option α) (r0 : Int → Option α) : spec_l01Gcd_lb1 spec_l01Gcd_l1 k a1 b_1 b0 r0 = spec_l01Gcd_l1 (k + 1) a1 b_1 b0 r0 := (spec_l01Gcd_lb1.eq_1 spec_l01Gcd_l1 k a1 b_1 b0 r0).trans (show spec_l01Gcd_l1 (k + 1) a1 b_1 b0 r0 = _ from spec_l01Gcd_l1.eq_2 _ _ _ _ _ ).symm
theorem spec_l01Gcd_l1_rn {α : Type} (G : Nat → Int → Int → (Int → Int → Option α) → (Int → Option α) → Option α) (n : Nat) (a1 : Int) (b_1 : Int) (brk : Nat → List P1 → Option α) (ret : Res → Option α) : spec_l01Gcd_uG1 G n [.int a1, .int b_1] brk ret = G n a1 b_1 (fun a1 b_1 => brk 0 [.int a1, .int b_1]) (fun v1 => ret ⟨[.int .i64 v1], []⟩) := rfl
theorem spec_l01Gcd_l1_ev {α : Type} (n : Nat) (a1 : Int) (b_1 : Int) (brk : Nat → List P1 → Option α) (ret : Res → Option α) : ev ((spec_l01Gcd_X n).env Try.prog Try.f240 2 []) (findLoop (loopsIn (Try.f240.body.getD .skip)) 1) ((spec_l01Gcd_t1.build [.int a1, .int b_1]).getD ⟨[], []⟩) (roundK (2 * 64) spec_l01Gcd_t1 (fun q => spec_l01Gcd_u1 n q brk ret) brk ret) = spec_l01Gcd_u1 (n + 1) [.int a1, .int b_1] brk ret := (spec_l01Gcd_l1_gen spec_l01Gcd_l1 n a1 b_1 brk ret).trans ((spec_l01Gcd_l1_eq n a1 b_1 (fun a1 b_1 => brk 0 [.int a1, .int b_1]) (fun v1 => ret ⟨[.int .i64 v1], []⟩)).trans ((spec_l01Gcd_u1.eq_1 (n + 1) [.int a1, .int b_1] brk ret).trans (spec_l01Gcd_l1_rn spec_l01Gcd_l1 (n + 1) a1 b_1 brk ret)).symm)
def spec_l01Gcd_body {α : Type}  (G1 : Nat → Int → Int → (Int → Int → Option α) → (Int → Option α) → Option α) (k : Nat) (a : Int) (b_ : Int) (r0 : Int → Option α) : Option α :=
  G1 k a b_
    (fun a2 b_2 =>
      r0 (max a2 (w64 (0 - a2))))
    r0
theorem spec_l01Gcd_gen {α : Type}  (G1 : Nat → Int → Int → (Int → Int → Option α) → (Int → Option α) → Option α) (n : Nat) (a : Int) (b_ : Int) (κ : Res → Option α) : evFn Try.prog (spec_l01Gcd_XG G1 n) Try.f240 (((buildDs spec_l01Gcd_sh [.int a, .int b_]).map Prod.fst).getD []) κ = spec_l01Gcd_body G1 n a b_ (fun v1 => κ ⟨[.int .i64 v1], []⟩) := by kernel_rfl
theorem spec_l01Gcd_eq {α : Type} (n : Nat) (a : Int) (b_ : Int) (r0 : Int → Option α) : spec_l01Gcd_body spec_l01Gcd_l1 n a b_ r0 = spec_l01Gcd n a b_ r0 := (spec_l01Gcd_body.eq_1 spec_l01Gcd_l1 n a b_ r0).trans (spec_l01Gcd.eq_1 n a b_ r0).symm
theorem spec_l01Gcd_rn {α : Type} (F : Nat → Int → Int → (Int → Option α) → Option α) (n : Nat) (a : Int) (b_ : Int) (κ : Res → Option α) : spec_l01Gcd_runG F n [.int a, .int b_] κ = F n a b_ (fun v1 => κ ⟨[.int .i64 v1], []⟩) := rfl
theorem spec_l01Gcd_ev {α : Type} (n : Nat) (a : Int) (b_ : Int) (κ : Res → Option α) : evFn Try.prog (spec_l01Gcd_X n) Try.f240 (((buildDs spec_l01Gcd_sh [.int a, .int b_]).map Prod.fst).getD []) κ = spec_l01Gcd_run n [.int a, .int b_] κ := (spec_l01Gcd_gen spec_l01Gcd_l1 n a b_ κ).trans ((spec_l01Gcd_eq n a b_ (fun v1 => κ ⟨[.int .i64 v1], []⟩)).trans ((spec_l01Gcd_run.eq_1 n [.int a, .int b_] κ).trans (spec_l01Gcd_rn spec_l01Gcd n a b_ κ)).symm)
theorem spec_l01Gcd_en (a : Int) (b_ : Int) : (entry 0 (((buildDs spec_l01Gcd_sh [.int a, .int b_]).map Prod.fst).getD [])).map (fun x => (x.1.length, x.2.lent)) = some (2, []) := by kernel_rfl
theorem spec_l01Gcd_good {α : Type} : ∀ n, GoodFn (α := α) Try.prog 240 (byShape spec_l01Gcd_sh (spec_l01Gcd_run n)) := by
  refine fn_good' Try.func240 (c := (Try.f240.body.getD .skip)) (by kernel_rfl) (by kernel_rfl) (by kernel_rfl) spec_l01Gcd_C spec_l01Gcd_M eqs spec_l01Gcd_lps (fun n => tabC_good (fun _ h => absurd h List.not_mem_nil)) eqs_ok spec_l01Gcd_Lt ?_ ?_ spec_l01Gcd_sh spec_l01Gcd_run ?_
  · refine List.forall_mem_cons.2 ⟨?_, (fun _ h => absurd h List.not_mem_nil)⟩
    · intro p brk ret; show spec_l01Gcd_u1 0 p brk ret = none; unfold spec_l01Gcd_u1 spec_l01Gcd_uG1; split <;> rfl
  · refine List.forall_mem_cons.2 ⟨?_, (fun _ h => absurd h List.not_mem_nil)⟩
    · intro np lent hL n p brk ret st r hb hr
      obtain ⟨rfl, rfl⟩ := hL
      rw [← tpl_of hb]
      change spec_l01Gcd_u1 (n + 1) p brk ret = some r at hr
      have hr0 := hr
      unfold spec_l01Gcd_u1 spec_l01Gcd_uG1 at hr
      split at hr
      · exact (spec_l01Gcd_l1_ev n _ _ brk ret).trans hr0
      · cases hr
  · intro n p κ r ds hd hr
    have hr0 := hr
    unfold spec_l01Gcd_run spec_l01Gcd_runG at hr
    split at hr
    · rw [← ds_of hd]
      exact ⟨en_of (spec_l01Gcd_en _ _) ⟨rfl, rfl⟩, (spec_l01Gcd_ev n _ _ κ).trans hr0⟩
    · cases hr

/-! loop.example/g01297/spec.l01Part -/
def spec_l01Part_sh : List SkD := [.agg [.int .i64, .int .i64]]
def spec_l01Part_runG {α : Type} (F : Nat → Int → Int → (Int → Int → Option α) → Option α) (n : Nat) (p : List P1) (κ : Res → Option α) : Option α := match p with
  | [.int a, .int a1] => F n a a1 (fun v1 v2 => κ ⟨[.agg [.int .i64 v1, .int .i64 v2]], []⟩)
  | _ => none
def spec_l01Part_run {α : Type} (n : Nat) (p : List P1) (κ : Res → Option α) : Option α := spec_l01Part_runG spec_l01Part n p κ
def spec_l01Part_CG {α : Type} (F0 : Nat → Int → Int → (Int → Option α) → Option α) (n : Nat) : FuncId → List D → (Res → Option α) → Option α := tabC [(240, (byShape spec_l01Gcd_sh (spec_l01Gcd_runG F0 n)))]
def spec_l01Part_C {α : Type} (n : Nat) : FuncId → List D → (Res → Option α) → Option α := spec_l01Part_CG spec_l01Gcd n
def spec_l01Part_M : FuncId → List Nat := tabM []
def spec_l01Part_lpsG {α : Type}  : List (LoopT α) := []
def spec_l01Part_lps {α : Type} : List (LoopT α) := spec_l01Part_lpsG
def spec_l01Part_XG {α : Type} (F0 : Nat → Int → Int → (Int → Option α) → Option α)  (n : Nat) : Ctx α := ⟨spec_l01Part_CG F0 n, spec_l01Part_M, eqs, lpOf (spec_l01Part_lpsG) n⟩
def spec_l01Part_X {α : Type} (n : Nat) : Ctx α := spec_l01Part_XG spec_l01Gcd n
def spec_l01Part_Lt (np : Nat) (lent : List (Bool × Nat × Blk)) : Prop := np = 1 ∧ lent = []
def spec_l01Part_body {α : Type} (F0 : Nat → Int → Int → (Int → Option α) → Option α)  (k : Nat) (a : Int) (a1 : Int) (r0 : Int → Int → Option α) : Option α :=
  F0 k a a1 fun v =>
  bif decide (v = 0) then
    none
  else
  bif decide (v = 0) then
    none
  else
    r0 (w64 (Int.tdiv a v)) (w64 (Int.tdiv a1 v))
theorem spec_l01Part_gen {α : Type} (F0 : Nat → Int → Int → (Int → Option α) → Option α)  (n : Nat) (a : Int) (a1 : Int) (κ : Res → Option α) : evFn Try.prog (spec_l01Part_XG F0 n) Try.f182 (((buildDs spec_l01Part_sh [.int a, .int a1]).map Prod.fst).getD []) κ = spec_l01Part_body F0 n a a1 (fun v1 v2 => κ ⟨[.agg [.int .i64 v1, .int .i64 v2]], []⟩) := by kernel_rfl
theorem spec_l01Part_eq {α : Type} (n : Nat) (a : Int) (a1 : Int) (r0 : Int → Int → Option α) : spec_l01Part_body spec_l01Gcd n a a1 r0 = spec_l01Part n a a1 r0 := (spec_l01Part_body.eq_1 spec_l01Gcd n a a1 r0).trans (spec_l01Part.eq_1 n a a1 r0).symm
theorem spec_l01Part_rn {α : Type} (F : Nat → Int → Int → (Int → Int → Option α) → Option α) (n : Nat) (a : Int) (a1 : Int) (κ : Res → Option α) : spec_l01Part_runG F n [.int a, .int a1] κ = F n a a1 (fun v1 v2 => κ ⟨[.agg [.int .i64 v1, .int .i64 v2]], []⟩) := rfl
theorem spec_l01Part_ev {α : Type} (n : Nat) (a : Int) (a1 : Int) (κ : Res → Option α) : evFn Try.prog (spec_l01Part_X n) Try.f182 (((buildDs spec_l01Part_sh [.int a, .int a1]).map Prod.fst).getD []) κ = spec_l01Part_run n [.int a, .int a1] κ := (spec_l01Part_gen spec_l01Gcd n a a1 κ).trans ((spec_l01Part_eq n a a1 (fun v1 v2 => κ ⟨[.agg [.int .i64 v1, .int .i64 v2]], []⟩)).trans ((spec_l01Part_run.eq_1 n [.int a, .int a1] κ).trans (spec_l01Part_rn spec_l01Part n a a1 κ)).symm)
theorem spec_l01Part_en (a : Int) (a1 : Int) : (entry 0 (((buildDs spec_l01Part_sh [.int a, .int a1]).map Prod.fst).getD [])).map (fun x => (x.1.length, x.2.lent)) = some (1, []) := by kernel_rfl
theorem spec_l01Part_good {α : Type} : ∀ n, GoodFn (α := α) Try.prog 182 (byShape spec_l01Part_sh (spec_l01Part_run n)) := by
  refine fn_good' Try.func182 (c := (Try.f182.body.getD .skip)) (by kernel_rfl) (by kernel_rfl) (by kernel_rfl) spec_l01Part_C spec_l01Part_M eqs spec_l01Part_lps (fun n => tabC_good (List.forall_mem_cons.2 ⟨(spec_l01Gcd_good n), (fun _ h => absurd h List.not_mem_nil)⟩)) eqs_ok spec_l01Part_Lt ?_ ?_ spec_l01Part_sh spec_l01Part_run ?_
  · exact (fun _ h => absurd h List.not_mem_nil)
  · exact (fun _ h => absurd h List.not_mem_nil)
  · intro n p κ r ds hd hr
    have hr0 := hr
    unfold spec_l01Part_run spec_l01Part_runG at hr
    split at hr
    · rw [← ds_of hd]
      exact ⟨en_of (spec_l01Part_en _ _) ⟨rfl, rfl⟩, (spec_l01Part_ev n _ _ κ).trans hr0⟩
    · cases hr

/-! loop.example/g01297/spec.l01Length -/
def spec_l01Length_sh : List SkD := [.agg [.int .i64, .int .i64], .agg [.int .i64, .int .i64]]
def spec_l01Length_runG {α : Type} (F : Nat → Int → Int → Int → Int → (Int → Option α) → Option α) (n : Nat) (p : List P1) (κ : Res → Option α) : Option α := match p with
  | [.int a, .int a1, .int b_, .int b_1] => F n a a1 b_ b_1 (fun v1 => κ ⟨[.int .i64 v1], []⟩)
  | _ => none
def spec_l01Length_run {α : Type} (n : Nat) (p : List P1) (κ : Res → Option α) : Option α := spec_l01Length_runG spec_l01Length n p κ
def spec_l01Length_CG {α : Type} (F0 : Nat → Int → Int → (Int → Option α) → Option α) (n : Nat) : FuncId → List D → (Res → Option α) → Option α := tabC [(240, (byShape spec_l01Gcd_sh (spec_l01Gcd_runG F0 n)))]
def spec_l01Length_C {α : Type} (n : Nat) : FuncId → List D → (Res → Option α) → Option α := spec_l01Length_CG spec_l01Gcd n
def spec_l01Length_M : FuncId → List Nat := tabM []
def spec_l01Length_lpsG {α : Type}  : List (LoopT α) := []
def spec_l01Length_lps {α : Type} : List (LoopT α) := spec_l01Length_lpsG
def spec_l01Length_XG {α : Type} (F0 : Nat → Int → Int → (Int → Option α) → Option α)  (n : Nat) : Ctx α := ⟨spec_l01Length_CG F0 n, spec_l01Length_M, eqs, lpOf (spec_l01Length_lpsG) n⟩
def spec_l01Length_X {α : Type} (n : Nat) : Ctx α := spec_l01Length_XG spec_l01Gcd n
def spec_l01Length_Lt (np : Nat) (lent : List (Bool × Nat × Blk)) : Prop := np = 2 ∧ lent = []
def spec_l01Length_body {α : Type} (F0 : Nat → Int → Int → (Int → Option α) → Option α)  (k : Nat) (a : Int) (a1 : Int) (b_ : Int) (b_1 : Int) (r0 : Int → Option α) : Option α :=
  F0 k (w64 (b_ - a)) (w64 (b_1 - a1)) fun v =>
  r0 v
theorem spec_l01Length_gen {α : Type} (F0 : Nat → Int → Int → (Int → Option α) → Option α)  (n : Nat) (a : Int) (a1 : Int) (b_ : Int) (b_1 : Int) (κ : Res → Option α) : evFn Try.prog (spec_l01Length_XG F0 n) Try.f242 (((buildDs spec_l01Length_sh [.int a, .int a1, .int b_, .int b_1]).map Prod.fst).getD []) κ = spec_l01Length_body F0 n a a1 b_ b_1 (fun v1 => κ ⟨[.int .i64 v1], []⟩) := by kernel_rfl
theorem spec_l01Length_eq {α : Type} (n : Nat) (a : Int) (a1 : Int) (b_ : Int) (b_1 : Int) (r0 : Int → Option α) : spec_l01Length_body spec_l01Gcd n a a1 b_ b_1 r0 = spec_l01Length n a a1 b_ b_1 r0 := (spec_l01Length_body.eq_1 spec_l01Gcd n a a1 b_ b_1 r0).trans (spec_l01Length.eq_1 n a a1 b_ b_1 r0).symm
theorem spec_l01Length_rn {α : Type} (F : Nat → Int → Int → Int → Int → (Int → Option α) → Option α) (n : Nat) (a : Int) (a1 : Int) (b_ : Int) (b_1 : Int) (κ : Res → Option α) : spec_l01Length_runG F n [.int a, .int a1, .int b_, .int b_1] κ = F n a a1 b_ b_1 (fun v1 => κ ⟨[.int .i64 v1], []⟩) := rfl
theorem spec_l01Length_ev {α : Type} (n : Nat) (a : Int) (a1 : Int) (b_ : Int) (b_1 : Int) (κ : Res → Option α) : evFn Try.prog (spec_l01Length_X n) Try.f242 (((buildDs spec_l01Length_sh [.int a, .int a1, .int b_, .int b_1]).map Prod.fst).getD []) κ = spec_l01Length_run n [.int a, .int a1, .int b_, .int b_1] κ := (spec_l01Length_gen spec_l01Gcd n a a1 b_ b_1 κ).trans ((spec_l01Length_eq n a a1 b_ b_1 (fun v1 => κ ⟨[.int .i64 v1], []⟩)).trans ((spec_l01Length_run.eq_1 n [.int a, .int a1, .int b_, .int b_1] κ).trans (spec_l01Length_rn spec_l01Length n a a1 b_ b_1 κ)).symm)
theorem spec_l01Length_en (a : Int) (a1 : Int) (b_ : Int) (b_1 : Int) : (entry 0 (((buildDs spec_l01Length_sh [.int a, .int a1, .int b_, .int b_1]).map Prod.fst).getD [])).map (fun x => (x.1.length, x.2.lent)) = some (2, []) := by kernel_rfl
theorem spec_l01Length_good {α : Type} : ∀ n, GoodFn (α := α) Try.prog 242 (byShape spec_l01Length_sh (spec_l01Length_run n)) := by
  refine fn_good' Try.func242 (c := (Try.f242.body.getD .skip)) (by kernel_rfl) (by kernel_rfl) (by kernel_rfl) spec_l01Length_C spec_l01Length_M eqs spec_l01Length_lps (fun n => tabC_good (List.forall_mem_cons.2 ⟨(spec_l01Gcd_good n), (fun _ h => absurd h List.not_mem_nil)⟩)) eqs_ok spec_l01Length_Lt ?_ ?_ spec_l01Length_sh spec_l01Length_run ?_
  · exact (fun _ h => absurd h List.not_mem_nil)
  · exact (fun _ h => absurd h List.not_mem_nil)
  · intro n p κ r ds hd hr
    have hr0 := hr
    unfold spec_l01Length_run spec_l01Length_runG at hr
    split at hr
    · rw [← ds_of hd]
      exact ⟨en_of (spec_l01Length_en _ _ _ _) ⟨rfl, rfl⟩, (spec_l01Length_ev n _ _ _ _ κ).trans hr0⟩
    · cases hr

/-! loop.example/g01297/spec.l04Area -/
def spec_l04Area_sh : List SkD := [.agg [.int .i64, .int .i64, .int .i64, .int .i64, .int .i64, .int .i64]]
def spec_l04Area_runG {α : Type} (F : Nat → Int → Int → Int → Int → Int → Int → (Int → Option α) → Option α) (n : Nat) (p : List P1) (κ : Res → Option α) : Option α := match p with
  | [.int t, .int t1, .int t2, .int t3, .int t4, .int t5] => F n t t1 t2 t3 t4 t5 (fun v1 => κ ⟨[.int .i64 v1], []⟩)
  | _ => none
def spec_l04Area_run {α : Type} (n : Nat) (p : List P1) (κ : Res → Option α) : Option α := spec_l04Area_runG spec_l04Area n p κ
def spec_l04Area_CG {α : Type} (F0 : Nat → Int → Int → Int → Int → Int → Int → (Int → Option α) → Option α) (n : Nat) : FuncId → List D → (Res → Option α) → Option α := tabC [(229, (byShape spec_l01Area_sh (spec_l01Area_runG F0 n)))]
def spec_l04Area_C {α : Type} (n : Nat) : FuncId → List D → (Res → Option α) → Option α := spec_l04Area_CG spec_l01Area n
def spec_l04Area_M : FuncId → List Nat := tabM []
def spec_l04Area_lpsG {α : Type}  : List (LoopT α) := []
def spec_l04Area_lps {α : Type} : List (LoopT α) := spec_l04Area_lpsG
def spec_l04Area_XG {α : Type} (F0 : Nat → Int → Int → Int → Int → Int → Int → (Int → Option α) → Option α)  (n : Nat) : Ctx α := ⟨spec_l04Area_CG F0 n, spec_l04Area_M, eqs, lpOf (spec_l04Area_lpsG) n⟩
def spec_l04Area_X {α : Type} (n : Nat) : Ctx α := spec_l04Area_XG spec_l01Area n
def spec_l04Area_Lt (np : Nat) (lent : List (Bool × Nat × Blk)) : Prop := np = 1 ∧ lent = []
def spec_l04Area_body {α : Type} (F0 : Nat → Int → Int → Int → Int → Int → Int → (Int → Option α) → Option α)  (k : Nat) (t : Int) (t1 : Int) (t2 : Int) (t3 : Int) (t4 : Int) (t5 : Int) (r0 : Int → Option α) : Option α :=
  F0 k t t1 t2 t3 t4 t5 fun v =>
  r0 v
theorem spec_l04Area_gen {α : Type} (F0 : Nat → Int → Int → Int → Int → Int → Int → (Int → Option α) → Option α)  (n : Nat) (t : Int) (t1 : Int) (t2 : Int) (t3 : Int) (t4 : Int) (t5 : Int) (κ : Res → Option α) : evFn Try.prog (spec_l04Area_XG F0 n) Try.f209 (((buildDs spec_l04Area_sh [.int t, .int t1, .int t2, .int t3, .int t4, .int t5]).map Prod.fst).getD []) κ = spec_l04Area_body F0 n t t1 t2 t3 t4 t5 (fun v1 => κ ⟨[.int .i64 v1], []⟩) := by kernel_rfl
theorem spec_l04Area_eq {α : Type} (n : Nat) (t : Int) (t1 : Int) (t2 : Int) (t3 : Int) (t4 : Int) (t5 : Int) (r0 : Int → Option α) : spec_l04Area_body spec_l01Area n t t1 t2 t3 t4 t5 r0 = spec_l04Area n t t1 t2 t3 t4 t5 r0 := (spec_l04Area_body.eq_1 spec_l01Area n t t1 t2 t3 t4 t5 r0).trans (spec_l04Area.eq_1 n t t1 t2 t3 t4 t5 r0).symm
theorem spec_l04Area_rn {α : Type} (F : Nat → Int → Int → Int → Int → Int → Int → (Int → Option α) → Option α) (n : Nat) (t : Int) (t1 : Int) (t2 : Int) (t3 : Int) (t4 : Int) (t5 : Int) (κ : Res → Option α) : spec_l04Area_runG F n [.int t, .int t1, .int t2, .int t3, .int t4, .int t5] κ = F n t t1 t2 t3 t4 t5 (fun v1 => κ ⟨[.int .i64 v1], []⟩) := rfl
theorem spec_l04Area_ev {α : Type} (n : Nat) (t : Int) (t1 : Int) (t2 : Int) (t3 : Int) (t4 : Int) (t5 : Int) (κ : Res → Option α) : evFn Try.prog (spec_l04Area_X n) Try.f209 (((buildDs spec_l04Area_sh [.int t, .int t1, .int t2, .int t3, .int t4, .int t5]).map Prod.fst).getD []) κ = spec_l04Area_run n [.int t, .int t1, .int t2, .int t3, .int t4, .int t5] κ := (spec_l04Area_gen spec_l01Area n t t1 t2 t3 t4 t5 κ).trans ((spec_l04Area_eq n t t1 t2 t3 t4 t5 (fun v1 => κ ⟨[.int .i64 v1], []⟩)).trans ((spec_l04Area_run.eq_1 n [.int t, .int t1, .int t2, .int t3, .int t4, .int t5] κ).trans (spec_l04Area_rn spec_l04Area n t t1 t2 t3 t4 t5 κ)).symm)
theorem spec_l04Area_en (t : Int) (t1 : Int) (t2 : Int) (t3 : Int) (t4 : Int) (t5 : Int) : (entry 0 (((buildDs spec_l04Area_sh [.int t, .int t1, .int t2, .int t3, .int t4, .int t5]).map Prod.fst).getD [])).map (fun x => (x.1.length, x.2.lent)) = some (1, []) := by kernel_rfl
theorem spec_l04Area_good {α : Type} : ∀ n, GoodFn (α := α) Try.prog 209 (byShape spec_l04Area_sh (spec_l04Area_run n)) := by
  refine fn_good' Try.func209 (c := (Try.f209.body.getD .skip)) (by kernel_rfl) (by kernel_rfl) (by kernel_rfl) spec_l04Area_C spec_l04Area_M eqs spec_l04Area_lps (fun n => tabC_good (List.forall_mem_cons.2 ⟨(spec_l01Area_good n), (fun _ h => absurd h List.not_mem_nil)⟩)) eqs_ok spec_l04Area_Lt ?_ ?_ spec_l04Area_sh spec_l04Area_run ?_
  · exact (fun _ h => absurd h List.not_mem_nil)
  · exact (fun _ h => absurd h List.not_mem_nil)
  · intro n p κ r ds hd hr
    have hr0 := hr
    unfold spec_l04Area_run spec_l04Area_runG at hr
    split at hr
    · rw [← ds_of hd]
      exact ⟨en_of (spec_l04Area_en _ _ _ _ _ _) ⟨rfl, rfl⟩, (spec_l04Area_ev n _ _ _ _ _ _ κ).trans hr0⟩
    · cases hr

/-! loop.example/g01297/spec.l01Rest -/
def spec_l01Rest_sh : List SkD := [.int .i64, .int .i64]
def spec_l01Rest_runG {α : Type} (F : Nat → Int → Int → (Int → Option α) → Option α) (n : Nat) (p : List P1) (κ : Res → Option α) : Option α := match p with
  | [.int n_, .int x] => F n n_ x (fun v1 => κ ⟨[.int .i64 v1], []⟩)
  | _ => none
def spec_l01Rest_run {α : Type} (n : Nat) (p : List P1) (κ : Res → Option α) : Option α := spec_l01Rest_runG spec_l01Rest n p κ
def spec_l01Rest_CG {α : Type}  (n : Nat) : FuncId → List D → (Res → Option α) → Option α := tabC []
def spec_l01Rest_C {α : Type} (n : Nat) : FuncId → List D → (Res → Option α) → Option α := spec_l01Rest_CG n
def spec_l01Rest_M : FuncId → List Nat := tabM []
def spec_l01Rest_lpsG {α : Type}  : List (LoopT α) := []
def spec_l01Rest_lps {α : Type} : List (LoopT α) := spec_l01Rest_lpsG
def spec_l01Rest_XG {α : Type}   (n : Nat) : Ctx α := ⟨spec_l01Rest_CG n, spec_l01Rest_M, eqs, lpOf (spec_l01Rest_lpsG) n⟩
def spec_l01Rest_X {α : Type} (n : Nat) : Ctx α := spec_l01Rest_XG n
def spec_l01Rest_Lt (np : Nat) (lent : List (Bool × Nat × Blk)) : Prop := np = 2 ∧ lent = []
def spec_l01Rest_body {α : Type}   (k : Nat) (n_ : Int) (x : Int) (r0 : Int → Option α) : Option α :=
  bif decide (n_ = 0) then
    none
  else
  bif decide (n_ = 0) then
    none
  else
    r0 (Int.tmod (w64 ((Int.tmod x n_) + n_)) n_)
theorem spec_l01Rest_gen {α : Type}   (n : Nat) (n_ : Int) (x : Int) (κ : Res → Option α) : evFn Try.prog (spec_l01Rest_XG n) Try.f270 (((buildDs spec_l01Rest_sh [.int n_, .int x]).map Prod.fst).getD []) κ = spec_l01Rest_body n n_ x (fun v1 => κ ⟨[.int .i64 v1], []⟩) := by kernel_rfl
theorem spec_l01Rest_eq {α : Type} (n : Nat) (n_ : Int) (x : Int) (r0 : Int → Option α) : spec_l01Rest_body n n_ x r0 = spec_l01Rest n n_ x r0 := (spec_l01Rest_body.eq_1 n n_ x r0).trans (spec_l01Rest.eq_1 n n_ x r0).symm
theorem spec_l01Rest_rn {α : Type} (F : Nat → Int → Int → (Int → Option α) → Option α) (n : Nat) (n_ : Int) (x : Int) (κ : Res → Option α) : spec_l01Rest_runG F n [.int n_, .int x] κ = F n n_ x (fun v1 => κ ⟨[.int .i64 v1], []⟩) := rfl
theorem spec_l01Rest_ev {α : Type} (n : Nat) (n_ : Int) (x : Int) (κ : Res → Option α) : evFn Try.prog (spec_l01Rest_X n) Try.f270 (((buildDs spec_l01Rest_sh [.int n_, .int x]).map Prod.fst).getD []) κ = spec_l01Rest_run n [.int n_, .int x] κ := (spec_l01Rest_gen n n_ x κ).trans ((spec_l01Rest_eq n n_ x (fun v1 => κ ⟨[.int .i64 v1], []⟩)).trans ((spec_l01Rest_run.eq_1 n [.int n_, .int x] κ).trans (spec_l01Rest_rn spec_l01Rest n n_ x κ)).symm)
theorem spec_l01Rest_en (n_ : Int) (x : Int) : (entry 0 (((buildDs spec_l01Rest_sh [.int n_, .int x]).map Prod.fst).getD [])).map (fun x => (x.1.length, x.2.lent)) = some (2, []) := by kernel_rfl
theorem spec_l01Rest_good {α : Type} : ∀ n, GoodFn (α := α) Try.prog 270 (byShape spec_l01Rest_sh (spec_l01Rest_run n)) := by
  refine fn_good' Try.func270 (c := (Try.f270.body.getD .skip)) (by kernel_rfl) (by kernel_rfl) (by kernel_rfl) spec_l01Rest_C spec_l01Rest_M eqs spec_l01Rest_lps (fun n => tabC_good (fun _ h => absurd h List.not_mem_nil)) eqs_ok spec_l01Rest_Lt ?_ ?_ spec_l01Rest_sh spec_l01Rest_run ?_
  · exact (fun _ h => absurd h List.not_mem_nil)
  · exact (fun _ h => absurd h List.not_mem_nil)
  · intro n p κ r ds hd hr
    have hr0 := hr
    unfold spec_l01Rest_run spec_l01Rest_runG at hr
    split at hr
    · rw [← ds_of hd]
      exact ⟨en_of (spec_l01Rest_en _ _) ⟨rfl, rfl⟩, (spec_l01Rest_ev n _ _ κ).trans hr0⟩
    · cases hr

/-! loop.example/g01297/spec.l01Base -/
def spec_l01Base_sh : List SkD := [.agg [.int .i64, .int .i64]]
def spec_l01Base_runG {α : Type} (F : Nat → Int → Int → (Int → Int → Option α) → Option α) (n : Nat) (p : List P1) (κ : Res → Option α) : Option α := match p with
  | [.int a, .int a1] => F n a a1 (fun v1 v2 => κ ⟨[.agg [.int .i64 v1, .int .i64 v2]], []⟩)
  | _ => none
def spec_l01Base_run {α : Type} (n : Nat) (p : List P1) (κ : Res → Option α) : Option α := spec_l01Base_runG spec_l01Base n p κ
def spec_l01Base_CG {α : Type} (F0 : Nat → Int → Int → (Int → Option α) → Option α) (n : Nat) : FuncId → List D → (Res → Option α) → Option α := tabC [(270, (byShape spec_l01Rest_sh (spec_l01Rest_runG F0 n)))]
def spec_l01Base_C {α : Type} (n : Nat) : FuncId → List D → (Res → Option α) → Option α := spec_l01Base_CG spec_l01Rest n
def spec_l01Base_M : FuncId → List Nat := tabM []
def spec_l01Base_t5 : Tpl := ⟨[.any, .ptr 64 0 0, .ptr 128 0 0, .int .i64, .int .i64, .int .i64, .int .i64, .int .i64, .any, .any, .any, .any, .any, .any, .any, .any, .any, .any, .any, .any, .any, .any, .any, .any, .any, .any, .any, .any, .any, .any, .any, .any, .any, .any, .any, .any, .any, .any, .any, .any, .any, .any, .any, .any, .any, .any, .any, .any, .any, .any, .any, .any, .any, .any, .any, .any, .any, .any], [(64, .ints 2 26 .i64 2), (128, .ints 2 26 .i64 2)], []⟩
def spec_l01Base_uG5 {α : Type} (G : Nat → Int → Int → Int → Int → Int → Int → Int → Int → Int → (Int → Int → Int → Int → Int → Int → Int → Int → Int → Option α) → (Int → Int → Option α) → Option α) (n : Nat) (p : List P1) (brk : Nat → List P1 → Option α) (ret : Res → Option α) : Option α := match p with
  | [.int n_, .int x, .int before, .int rest, .int next, .int a2, .int a3, .int x1, .int x2] => G n n_ x before rest next a2 a3 x1 x2 (fun n_ x before rest next a2 a3 x1 x2 => brk 0 [.int n_, .int x, .int before, .int rest, .int next, .int a2, .int a3, .int x1, .int x2]) (fun v1 v2 => ret ⟨[.agg [.int .i64 v1, .int .i64 v2]], []⟩)
  | _ => none
def spec_l01Base_u5 {α : Type} (n : Nat) (p : List P1) (brk : Nat → List P1 → Option α) (ret : Res → Option α) : Option α := spec_l01Base_uG5 spec_l01Base_l5 n p brk ret
def spec_l01Base_lpsG {α : Type} (G5 : Nat → Int → Int → Int → Int → Int → Int → Int → Int → Int → (Int → Int → Int → Int → Int → Int → Int → Int → Int → Option α) → (Int → Int → Option α) → Option α) : List (LoopT α) := [⟨5, spec_l01Base_t5, spec_l01Base_uG5 G5⟩]
def spec_l01Base_lps {α : Type} : List (LoopT α) := spec_l01Base_lpsG spec_l01Base_l5
def spec_l01Base_XG {α : Type} (F0 : Nat → Int → Int → (Int → Option α) → Option α) (G5 : Nat → Int → Int → Int → Int → Int → Int → Int → Int → Int → (Int → Int → Int → Int → Int → Int → Int → Int → Int → Option α) → (Int → Int → Option α) → Option α) (n : Nat) : Ctx α := ⟨spec_l01Base_CG F0 n, spec_l01Base_M, eqs, lpOf (spec_l01Base_lpsG G5) n⟩
def spec_l01Base_X {α : Type} (n : Nat) : Ctx α := spec_l01Base_XG spec_l01Rest spec_l01Base_l5 n
def spec_l01Base_Lt (np : Nat) (lent : List (Bool × Nat × Blk)) : Prop := np = 1 ∧ lent = []
def spec_l01Base_lb5 {α : Type} (F0 : Nat → Int → Int → (Int → Option α) → Option α) (G5 : Nat → Int → Int → Int → Int → Int → Int → Int → Int → Int → (Int → Int → Int → Int → Int → Int → Int → Int → Int → Option α) → (Int → Int → Option α) → Option α) (k : Nat) (n_ : Int) (x : Int) (before : Int) (rest : Int) (next : Int) (a2 : Int) (a3 : Int) (x1 : Int) (x2 : Int) (b0 : Int → Int → Int → Int → Int → Int → Int → Int → Int → Option α) (r0 : Int → Int → Option α) : Option α :=
  bif (!decide (next = 0)) then
    bif decide (next = 0) then
      none
    else
      G5 k n_ before (w64 (x - (w64 ((w64 (Int.tdiv rest next)) * before)))) next (w64 (rest - (w64 ((w64 (Int.tdiv rest next)) * next)))) a2 a3 x1 x2 b0 r0
  else
    b0 n_ x before rest next a2 a3 x1 x2
theorem spec_l01Base_l5_gen {α : Type} (F0 : Nat → Int → Int → (Int → Option α) → Option α) (G5 : Nat → Int → Int → Int → Int → Int → Int → Int → Int → Int → (Int → Int → Int → Int → Int → Int → Int → Int → Int → Option α) → (Int → Int → Option α) → Option α) (n : Nat) (n_ : Int) (x : Int) (before : Int) (rest : Int) (next : Int) (a2 : Int) (a3 : Int) (x1 : Int) (x2 : Int) (brk : Nat → List P1 → Option α) (ret : Res → Option α) : ev ((spec_l01Base_XG F0 G5 n).env Try.prog Try.f241 1 []) (findLoop (loopsIn (Try.f241.body.getD .skip)) 5) ((spec_l01Base_t5.build [.int n_, .int x, .int before, .int rest, .int next, .int a2, .int a3, .int x1, .int x2]).getD ⟨[], []⟩) (roundK (1 * 64) spec_l01Base_t5 (fun q => spec_l01Base_uG5 G5 n q brk ret) brk ret) = spec_l01Base_lb5 F0 G5 n n_ x before rest next a2 a3 x1 x2 (fun n_ x before rest next a2 a3 x1 x2 => brk 0 [.int n_, .int x, .int before, .int rest, .int next, .int a2, .int a3, .int x1, .int x2]) (fun v1 v2 => ret ⟨[.agg [.int .i64 v1, .int .i64 v2]], []⟩) := by kernel_rfl
theorem spec_l01Base_l5_eq {α : Type} (k : Nat) (n_ : Int) (x : Int) (before : Int) (rest : Int) (next : Int) (a2 : Int) (a3 : Int) (x1 : Int) (x2 : Int) (b0 : Int → Int → Int → Int → Int → Int → Int → Int → Int → Option α) (r0 : Int → Int → Option α) : spec_l01Base_lb5 spec_l01Rest spec_l01Base_l5 k n_ x before rest next a2 a3 x1 x2 b0 r0 = spec_l01Base_l5 (k + 1) n_ x before rest next a2 a3 x1 x2 b0 r0 := (spec_l01Base_lb5.eq_1 spec_l01Rest spec_l01Base_l5 k n_ x before rest next a2 a3 x1 x2 b0 r0).trans (show spec_l01Base_l5 (k + 1) n_ x before rest next a2 a3 x1 x2 b0 r0 = _ from spec_l01Base_l5.eq_2 _ _ _ _ _ _ _ _ _ _ _ _ ).symm
theorem spec_l01Base_l5_rn {α : Type} (G : Nat → Int → Int → Int → Int → Int → Int → Int → Int → Int → (Int → Int → Int → Int → Int → Int → Int → Int → Int → Option α) → (Int → Int → Option α) → Option α) (n : Nat) (n_ : Int) (x : Int) (before : Int) (rest : Int) (next : Int) (a2 : Int) (a3 : Int) (x1 : Int) (x2 : Int) (brk : Nat → List P1 → Option α) (ret : Res → Option α) : spec_l01Base_uG5 G n [.int n_, .int x, .int before, .int rest, .int next, .int a2, .int a3, .int x1, .int x2] brk ret = G n n_ x before rest next a2 a3 x1 x2 (fun n_ x before rest next a2 a3 x1 x2 => brk 0 [.int n_, .int x, .int before, .int rest, .int next, .int a2, .int a3, .int x1, .int x2]) (fun v1 v2 => ret ⟨[.agg [.int .i64 v1, .int .i64 v2]], []⟩) := rfl
theorem spec_l01Base_l5_ev {α : Type} (n : Nat) (n_ : Int) (x : Int) (before : Int) (rest : Int) (next : Int) (a2 : Int) (a3 : Int) (x1 : Int) (x2 : Int) (brk : Nat → List P1 → Option α) (ret : Res → Option α) : ev ((spec_l01Base_X n).env Try.prog Try.f241 1 []) (findLoop (loopsIn (Try.f241.body.getD .skip)) 5) ((spec_l01Base_t5.build [.int n_, .int x, .int before, .int rest, .int next, .int a2, .int a3, .int x1, .int x2]).getD ⟨[], []⟩) (roundK (1 * 64) spec_l01Base_t5 (fun q => spec_l01Base_u5 n q brk ret) brk ret) = spec_l01Base_u5 (n + 1) [.int n_, .int x, .int before, .int rest, .int next, .int a2, .int a3, .int x1, .int x2] brk ret := (spec_l01Base_l5_gen spec_l01Rest spec_l01Base_l5 n n_ x before rest next a2 a3 x1 x2 brk ret).trans ((spec_l01Base_l5_eq n n_ x before rest next a2 a3 x1 x2 (fun n_ x before rest next a2 a3 x1 x2 => brk 0 [.int n_, .int x, .int before, .int rest, .int next, .int a2, .int a3, .int x1, .int x2]) (fun v1 v2 => ret ⟨[.agg [.int .i64 v1, .int .i64 v2]], []⟩)).trans ((spec_l01Base_u5.eq_1 (n + 1) [.int n_, .int x, .int before, .int rest, .int next, .int a2, .int a3, .int x1, .int x2] brk ret).trans (spec_l01Base_l5_rn spec_l01Base_l5 (n + 1) n_ x before rest next a2 a3 x1 x2 brk ret)).symm)
def spec_l01Base_body {α : Type} (F0 : Nat → Int → Int → (Int → Option α) → Option α) (G5 : Nat → Int → Int → Int → Int → Int → Int → Int → Int → Int → (Int → Int → Int → Int → Int → Int → Int → Int → Int → Option α) → (Int → Int → Option α) → Option α) (k : Nat) (a : Int) (a1 : Int) (r0 : Int → Int → Option α) : Option α :=
  bif decide (a = 0) then
    r0 (w64 (0 - a1)) 0
  else
    F0 k (max a (w64 (0 - a))) a1 fun v =>
    G5 k (max a (w64 (0 - a))) 1 0 v (max a (w64 (0 - a))) a a1 0 0
      (fun n_1 x3 before1 rest1 next1 a4 a5 x4 x5 =>
        F0 k n_1 (w64 (0 - x3)) fun v1 =>
        bif decide (a4 = 0) then
          none
        else
          r0 v1 (w64 (Int.tdiv (w64 (1 + (w64 (a5 * v1)))) a4)))
      r0
theorem spec_l01Base_gen {α : Type} (F0 : Nat → Int → Int → (Int → Option α) → Option α) (G5 : Nat → Int → Int → Int → Int → Int → Int → Int → Int → Int → (Int → Int → Int → Int → Int → Int → Int → Int → Int → Option α) → (Int → Int → Option α) → Option α) (n : Nat) (a : Int) (a1 : Int) (κ : Res → Option α) : evFn Try.prog (spec_l01Base_XG F0 G5 n) Try.f241 (((buildDs spec_l01Base_sh [.int a, .int a1]).map Prod.fst).getD []) κ = spec_l01Base_body F0 G5 n a a1 (fun v1 v2 => κ ⟨[.agg [.int .i64 v1, .int .i64 v2]], []⟩) := by kernel_rfl
theorem spec_l01Base_eq {α : Type} (n : Nat) (a : Int) (a1 : Int) (r0 : Int → Int → Option α) : spec_l01Base_body spec_l01Rest spec_l01Base_l5 n a a1 r0 = spec_l01Base n a a1 r0 := (spec_l01Base_body.eq_1 spec_l01Rest spec_l01Base_l5 n a a1 r0).trans (spec_l01Base.eq_1 n a a1 r0).symm
theorem spec_l01Base_rn {α : Type} (F : Nat → Int → Int → (Int → Int → Option α) → Option α) (n : Nat) (a : Int) (a1 : Int) (κ : Res → Option α) : spec_l01Base_runG F n [.int a, .int a1] κ = F n a a1 (fun v1 v2 => κ ⟨[.agg [.int .i64 v1, .int .i64 v2]], []⟩) := rfl
theorem spec_l01Base_ev {α : Type} (n : Nat) (a : Int) (a1 : Int) (κ : Res → Option α) : evFn Try.prog (spec_l01Base_X n) Try.f241 (((buildDs spec_l01Base_sh [.int a, .int a1]).map Prod.fst).getD []) κ = spec_l01Base_run n [.int a, .int a1] κ := (spec_l01Base_gen spec_l01Rest spec_l01Base_l5 n a a1 κ).trans ((spec_l01Base_eq n a a1 (fun v1 v2 => κ ⟨[.agg [.int .i64 v1, .int .i64 v2]], []⟩)).trans ((spec_l01Base_run.eq_1 n [.int a, .int a1] κ).trans (spec_l01Base_rn spec_l01Base n a a1 κ)).symm)
theorem spec_l01Base_en (a : Int) (a1 : Int) : (entry 0 (((buildDs spec_l01Base_sh [.int a, .int a1]).map Prod.fst).getD [])).map (fun x => (x.1.length, x.2.lent)) = some (1, []) := by kernel_rfl
theorem spec_l01Base_good {α : Type} : ∀ n, GoodFn (α := α) Try.prog 241 (byShape spec_l01Base_sh (spec_l01Base_run n)) := by
  refine fn_good' Try.func241 (c := (Try.f241.body.getD .skip)) (by kernel_rfl) (by kernel_rfl) (by kernel_rfl) spec_l01Base_C spec_l01Base_M eqs spec_l01Base_lps (fun n => tabC_good (List.forall_mem_cons.2 ⟨(spec_l01Rest_good n), (fun _ h => absurd h List.not_mem_nil)⟩)) eqs_ok spec_l01Base_Lt ?_ ?_ spec_l01Base_sh spec_l01Base_run ?_
  · refine List.forall_mem_cons.2 ⟨?_, (fun _ h => absurd h List.not_mem_nil)⟩
    · intro p brk ret; show spec_l01Base_u5 0 p brk ret = none; unfold spec_l01Base_u5 spec_l01Base_uG5; split <;> rfl
  · refine List.forall_mem_cons.2 ⟨?_, (fun _ h => absurd h List.not_mem_nil)⟩
    · intro np lent hL n p brk ret st r hb hr
      obtain ⟨rfl, rfl⟩ := hL
      rw [← tpl_of hb]
      change spec_l01Base_u5 (n + 1) p brk ret = some r at hr
      have hr0 := hr
      unfold spec_l01Base_u5 spec_l01Base_uG5 at hr
      split at hr
      · exact (spec_l01Base_l5_ev n _ _ _ _ _ _ _ _ _ brk ret).trans hr0
      · cases hr
  · intro n p κ r ds hd hr
    have hr0 := hr
    unfold spec_l01Base_run spec_l01Base_runG at hr
    split at hr
    · rw [← ds_of hd]
      exact ⟨en_of (spec_l01Base_en _ _) ⟨rfl, rfl⟩, (spec_l01Base_ev n _ _ κ).trans hr0⟩
    · cases hr

/-! loop.example/g01297/spec.l04Shape -/
def spec_l04Shape_sh : List SkD := [.agg [.int .i64, .int .i64, .int .i64, .int .i64, .int .i64, .int .i64], .int .i64, .int .i64]
def spec_l04Shape_runG {α : Type} (F : Nat → Int → Int → Int → Int → Int → Int → Int → Int → (Int → Int → Int → Option α) → Option α) (n : Nat) (p : List P1) (κ : Res → Option α) : Option α := match p with
  | [.int t, .int t1, .int t2, .int t3, .int t4, .int t5, .int i, .int j] => F n t t1 t2 t3 t4 t5 i j (fun v1 v2 v3 => κ ⟨[.agg [.int .i64 v1, .int .i64 v2, .int .i64 v3]], []⟩)
  | _ => none
def spec_l04Shape_run {α : Type} (n : Nat) (p : List P1) (κ : Res → Option α) : Option α := spec_l04Shape_runG spec_l04Shape n p κ
def spec_l04Shape_CG {α : Type} (F0 : Nat → Int → Int → Int → Int → Int → (Int → Int → Option α) → Option α) (F1 : Nat → Int → Int → (Int → Int → Option α) → Option α) (F2 : Nat → Int → Int → Int → Int → (Int → Option α) → Option α) (F3 : Nat → Int → Int → Int → Int → Int → Int → (Int → Option α) → Option α) (F4 : Nat → Int → Int → (Int → Int → Option α) → Option α) (F5 : Nat → Int → Int → Int → Int → (Int → Option α) → Option α) (F6 : Nat → Int → Int → (Int → Option α) → Option α) (n : Nat) : FuncId → List D → (Res → Option α) → Option α := tabC [(183, (byShape spec_l01Plus_sh (spec_l01Plus_runG F0 n))), (182, (byShape spec_l01Part_sh (spec_l01Part_runG F1 n))), (242, (byShape spec_l01Length_sh (spec_l01Length_runG F2 n))), (209, (byShape spec_l04Area_sh (spec_l04Area_runG F3 n))), (241, (byShape spec_l01Base_sh (spec_l01Base_runG F4 n))), (260, (byShape spec_l01Det_sh (spec_l01Det_runG F5 n))), (270, (byShape spec_l01Rest_sh (spec_l01Rest_runG F6 n)))]
def spec_l04Shape_C {α : Type} (n : Nat) : FuncId → List D → (Res → Option α) → Option α := spec_l04Shape_CG spec_l01Plus spec_l01Part spec_l01Length spec_l04Area spec_l01Base spec_l01Det spec_l01Rest n
def spec_l04Shape_M : FuncId → List Nat := tabM []
def spec_l04Shape_lpsG {α : Type}  : List (LoopT α) := []
def spec_l04Shape_lps {α : Type} : List (LoopT α) := spec_l04Shape_lpsG
def spec_l04Shape_XG {α : Type} (F0 : Nat → Int → Int → Int → Int → Int → (Int → Int → Option α) → Option α) (F1 : Nat → Int → Int → (Int → Int → Option α) → Option α) (F2 : Nat → Int → Int → Int → Int → (Int → Option α) → Option α) (F3 : Nat → Int → Int → Int → Int → Int → Int → (Int → Option α) → Option α) (F4 : Nat → Int → Int → (Int → Int → Option α) → Option α) (F5 : Nat → Int → Int → Int → Int → (Int → Option α) → Option α) (F6 : Nat → Int → Int → (Int → Option α) → Option α)  (n : Nat) : Ctx α := ⟨spec_l04Shape_CG F0 F1 F2 F3 F4 F5 F6 n, spec_l04Shape_M, eqs, lpOf (spec_l04Shape_lpsG) n⟩
def spec_l04Shape_X {α : Type} (n : Nat) : Ctx α := spec_l04Shape_XG spec_l01Plus spec_l01Part spec_l01Length spec_l04Area spec_l01Base spec_l01Det spec_l01Rest n
def spec_l04Shape_Lt (np : Nat) (lent : List (Bool × Nat × Blk)) : Prop := np = 3 ∧ lent = []
def spec_l04Shape_body {α : Type} (F0 : Nat → Int → Int → Int → Int → Int → (Int → Int → Option α) → Option α) (F1 : Nat → Int → Int → (Int → Int → Option α) → Option α) (F2 : Nat → Int → Int → Int → Int → (Int → Option α) → Option α) (F3 : Nat → Int → Int → Int → Int → Int → Int → (Int → Option α) → Option α) (F4 : Nat → Int → Int → (Int → Int → Option α) → Option α) (F5 : Nat → Int → Int → Int → Int → (Int → Option α) → Option α) (F6 : Nat → Int → Int → (Int → Option α) → Option α)  (k : Nat) (t : Int) (t1 : Int) (t2 : Int) (t3 : Int) (t4 : Int) (t5 : Int) (i : Int) (j : Int) (r0 : Int → Int → Int → Option α) : Option α :=
  bif (decide (0 ≤ j) && decide (j < 3)) then
    ([t, t1, t2, t3, t4, t5][(j.toNat * 2)]?).bind fun e_ =>
    ([t, t1, t2, t3, t4, t5][((j.toNat * 2) + 1)]?).bind fun e_1 =>
    bif (decide (0 ≤ i) && decide (i < 3)) then
      ([t, t1, t2, t3, t4, t5][(i.toNat * 2)]?).bind fun e_2 =>
      ([t, t1, t2, t3, t4, t5][((i.toNat * 2) + 1)]?).bind fun e_3 =>
      bif (decide (0 ≤ (w64 ((w64 (3 - i)) - j))) && decide ((w64 ((w64 (3 - i)) - j)) < 3)) then
        ([t, t1, t2, t3, t4, t5][((w64 ((w64 (3 - i)) - j)).toNat * 2)]?).bind fun e_4 =>
        ([t, t1, t2, t3, t4, t5][(((w64 ((w64 (3 - i)) - j)).toNat * 2) + 1)]?).bind fun e_5 =>
        bif (decide (0 ≤ i) && decide (i < 3)) then
          ([t, t1, t2, t3, t4, t5][(i.toNat * 2)]?).bind fun e_6 =>
          ([t, t1, t2, t3, t4, t5][((i.toNat * 2) + 1)]?).bind fun e_7 =>
          F0 k e_ e_1 e_2 e_3 (-1) fun v v1 =>
          F0 k e_4 e_5 e_6 e_7 (-1) fun v2 v3 =>
          F1 k v v1 fun v4 v5 =>
          bif (decide (0 ≤ i) && decide (i < 3)) then
            ([t, t1, t2, t3, t4, t5][(i.toNat * 2)]?).bind fun e_8 =>
            ([t, t1, t2, t3, t4, t5][((i.toNat * 2) + 1)]?).bind fun e_9 =>
            bif (decide (0 ≤ j) && decide (j < 3)) then
              ([t, t1, t2, t3, t4, t5][(j.toNat * 2)]?).bind fun e_10 =>
              ([t, t1, t2, t3, t4, t5][((j.toNat * 2) + 1)]?).bind fun e_11 =>
              F2 k e_8 e_9 e_10 e_11 fun v6 =>
              F3 k t t1 t2 t3 t4 t5 fun v7 =>
              bif decide (v6 = 0) then
                none
              else
                F4 k v4 v5 fun v8 v9 =>
                F5 k v2 v3 v8 v9 fun v10 =>
                F6 k (w64 (Int.tdiv v7 v6)) v10 fun v11 =>
                r0 v6 v11 (w64 (Int.tdiv v7 v6))
            else
              none
          else
            none
        else
          none
      else
        none
    else
      none
  else
    none
theorem spec_l04Shape_gen {α : Type} (F0 : Nat → Int → Int → Int → Int → Int → (Int → Int → Option α) → Option α) (F1 : Nat → Int → Int → (Int → Int → Option α) → Option α) (F2 : Nat → Int → Int → Int → Int → (Int → Option α) → Option α) (F3 : Nat → Int → Int → Int → Int → Int → Int → (Int → Option α) → Option α) (F4 : Nat → Int → Int → (Int → Int → Option α) → Option α) (F5 : Nat → Int → Int → Int → Int → (Int → Option α) → Option α) (F6 : Nat → Int → Int → (Int → Option α) → Option α)  (n : Nat) (t : Int) (t1 : Int) (t2 : Int) (t3 : Int) (t4 : Int) (t5 : Int) (i : Int) (j : Int) (κ : Res → Option α) : evFn Try.prog (spec_l04Shape_XG F0 F1 F2 F3 F4 F5 F6 n) Try.f262 (((buildDs spec_l04Shape_sh [.int t, .int t1, .int t2, .int t3, .int t4, .int t5, .int i, .int j]).map Prod.fst).getD []) κ = spec_l04Shape_body F0 F1 F2 F3 F4 F5 F6 n t t1 t2 t3 t4 t5 i j (fun v1 v2 v3 => κ ⟨[.agg [.int .i64 v1, .int .i64 v2, .int .i64 v3]], []⟩) := by kernel_rfl
theorem spec_l04Shape_eq {α : Type} (n : Nat) (t : Int) (t1 : Int) (t2 : Int) (t3 : Int) (t4 : Int) (t5 : Int) (i : Int) (j : Int) (r0 : Int → Int → Int → Option α) : spec_l04Shape_body spec_l01Plus spec_l01Part spec_l01Length spec_l04Area spec_l01Base spec_l01Det spec_l01Rest n t t1 t2 t3 t4 t5 i j r0 = spec_l04Shape n t t1 t2 t3 t4 t5 i j r0 := (spec_l04Shape_body.eq_1 spec_l01Plus spec_l01Part spec_l01Length spec_l04Area spec_l01Base spec_l01Det spec_l01Rest n t t1 t2 t3 t4 t5 i j r0).trans (spec_l04Shape.eq_1 n t t1 t2 t3 t4 t5 i j r0).symm
theorem spec_l04Shape_rn {α : Type} (F : Nat → Int → Int → Int → Int → Int → Int → Int → Int → (Int → Int → Int → Option α) → Option α) (n : Nat) (t : Int) (t1 : Int) (t2 : Int) (t3 : Int) (t4 : Int) (t5 : Int) (i : Int) (j : Int) (κ : Res → Option α) : spec_l04Shape_runG F n [.int t, .int t1, .int t2, .int t3, .int t4, .int t5, .int i, .int j] κ = F n t t1 t2 t3 t4 t5 i j (fun v1 v2 v3 => κ ⟨[.agg [.int .i64 v1, .int .i64 v2, .int .i64 v3]], []⟩) := rfl
theorem spec_l04Shape_ev {α : Type} (n : Nat) (t : Int) (t1 : Int) (t2 : Int) (t3 : Int) (t4 : Int) (t5 : Int) (i : Int) (j : Int) (κ : Res → Option α) : evFn Try.prog (spec_l04Shape_X n) Try.f262 (((buildDs spec_l04Shape_sh [.int t, .int t1, .int t2, .int t3, .int t4, .int t5, .int i, .int j]).map Prod.fst).getD []) κ = spec_l04Shape_run n [.int t, .int t1, .int t2, .int t3, .int t4, .int t5, .int i, .int j] κ := (spec_l04Shape_gen spec_l01Plus spec_l01Part spec_l01Length spec_l04Area spec_l01Base spec_l01Det spec_l01Rest n t t1 t2 t3 t4 t5 i j κ).trans ((spec_l04Shape_eq n t t1 t2 t3 t4 t5 i j (fun v1 v2 v3 => κ ⟨[.agg [.int .i64 v1, .int .i64 v2, .int .i64 v3]], []⟩)).trans ((spec_l04Shape_run.eq_1 n [.int t, .int t1, .int t2, .int t3, .int t4, .int t5, .int i, .int j] κ).trans (spec_l04Shape_rn spec_l04Shape n t t1 t2 t3 t4 t5 i j κ)).symm)
theorem spec_l04Shape_en (t : Int) (t1 : Int) (t2 : Int) (t3 : Int) (t4 : Int) (t5 : Int) (i : Int) (j : Int) : (entry 0 (((buildDs spec_l04Shape_sh [.int t, .int t1, .int t2, .int t3, .int t4, .int t5, .int i, .int j]).map Prod.fst).getD [])).map (fun x => (x.1.length, x.2.lent)) = some (3, []) := by kernel_rfl
theorem spec_l04Shape_good {α : Type} : ∀ n, GoodFn (α := α) Try.prog 262 (byShape spec_l04Shape_sh (spec_l04Shape_run n)) := by
  refine fn_good' Try.func262 (c := (Try.f262.body.getD .skip)) (by kernel_rfl) (by kernel_rfl) (by kernel_rfl) spec_l04Shape_C spec_l04Shape_M eqs spec_l04Shape_lps (fun n => tabC_good (List.forall_mem_cons.2 ⟨(spec_l01Plus_good n), (List.forall_mem_cons.2 ⟨(spec_l01Part_good n), (List.forall_mem_cons.2 ⟨(spec_l01Length_good n), (List.forall_mem_cons.2 ⟨(spec_l04Area_good n), (List.forall_mem_cons.2 ⟨(spec_l01Base_good n), (List.forall_mem_cons.2 ⟨(spec_l01Det_good n), (List.forall_mem_cons.2 ⟨(spec_l01Rest_good n), (fun _ h => absurd h List.not_mem_nil)⟩)⟩)⟩)⟩)⟩)⟩)⟩)) eqs_ok spec_l04Shape_Lt ?_ ?_ spec_l04Shape_sh spec_l04Shape_run ?_
  · exact (fun _ h => absurd h List.not_mem_nil)
  · exact (fun _ h => absurd h List.not_mem_nil)
  · intro n p κ r ds hd hr
    have hr0 := hr
    unfold spec_l04Shape_run spec_l04Shape_runG at hr
    split at hr
    · rw [← ds_of hd]
      exact ⟨en_of (spec_l04Shape_en _ _ _ _ _ _ _ _) ⟨rfl, rfl⟩, (spec_l04Shape_ev n _ _ _ _ _ _ _ _ κ).trans hr0⟩
    · cases hr

/-! loop.example/g01297/spec.l04Before -/
def spec_l04Before_sh : List SkD := [.agg [.int .i64, .int .i64, .int .i64], .agg [.int .i64, .int .i64, .int .i64]]
def spec_l04Before_runG {α : Type} (F : Nat → Int → Int → Int → Int → Int → Int → (Bool → Option α) → Option α) (n : Nat) (p : List P1) (κ : Res → Option α) : Option α := match p with
  | [.int x, .int x1, .int x2, .int y, .int y1, .int y2] => F n x x1 x2 y y1 y2 (fun v1 => κ ⟨[.bool v1], []⟩)
  | _ => none
def spec_l04Before_run {α : Type} (n : Nat) (p : List P1) (κ : Res → Option α) : Option α := spec_l04Before_runG spec_l04Before n p κ
def spec_l04Before_CG {α : Type}  (n : Nat) : FuncId → List D → (Res → Option α) → Option α := tabC []
def spec_l04Before_C {α : Type} (n : Nat) : FuncId → List D → (Res → Option α) → Option α := spec_l04Before_CG n
def spec_l04Before_M : FuncId → List Nat := tabM []
def spec_l04Before_lpsG {α : Type}  : List (LoopT α) := []
def spec_l04Before_lps {α : Type} : List (LoopT α) := spec_l04Before_lpsG
def spec_l04Before_XG {α : Type}   (n : Nat) : Ctx α := ⟨spec_l04Before_CG n, spec_l04Before_M, eqs, lpOf (spec_l04Before_lpsG) n⟩
def spec_l04Before_X {α : Type} (n : Nat) : Ctx α := spec_l04Before_XG n
def spec_l04Before_Lt (np : Nat) (lent : List (Bool × Nat × Blk)) : Prop := np = 2 ∧ lent = []
def spec_l04Before_body {α : Type}   (k : Nat) (x : Int) (x1 : Int) (x2 : Int) (y : Int) (y1 : Int) (y2 : Int) (r0 : Bool → Option α) : Option α :=
  bif (!decide (x = y)) then
    r0 (decide (x < y))
  else
  bif (!decide (x1 = y1)) then
    r0 (decide (x1 < y1))
  else
    r0 (decide (x2 < y2))
theorem spec_l04Before_gen {α : Type}   (n : Nat) (x : Int) (x1 : Int) (x2 : Int) (y : Int) (y1 : Int) (y2 : Int) (κ : Res → Option α) : evFn Try.prog (spec_l04Before_XG n) Try.f263 (((buildDs spec_l04Before_sh [.int x, .int x1, .int x2, .int y, .int y1, .int y2]).map Prod.fst).getD []) κ = spec_l04Before_body n x x1 x2 y y1 y2 (fun v1 => κ ⟨[.bool v1], []⟩) := by kernel_rfl
theorem spec_l04Before_eq {α : Type} (n : Nat) (x : Int) (x1 : Int) (x2 : Int) (y : Int) (y1 : Int) (y2 : Int) (r0 : Bool → Option α) : spec_l04Before_body n x x1 x2 y y1 y2 r0 = spec_l04Before n x x1 x2 y y1 y2 r0 := (spec_l04Before_body.eq_1 n x x1 x2 y y1 y2 r0).trans (spec_l04Before.eq_1 n x x1 x2 y y1 y2 r0).symm
theorem spec_l04Before_rn {α : Type} (F : Nat → Int → Int → Int → Int → Int → Int → (Bool → Option α) → Option α) (n : Nat) (x : Int) (x1 : Int) (x2 : Int) (y : Int) (y1 : Int) (y2 : Int) (κ : Res → Option α) : spec_l04Before_runG F n [.int x, .int x1, .int x2, .int y, .int y1, .int y2] κ = F n x x1 x2 y y1 y2 (fun v1 => κ ⟨[.bool v1], []⟩) := rfl
theorem spec_l04Before_ev {α : Type} (n : Nat) (x : Int) (x1 : Int) (x2 : Int) (y : Int) (y1 : Int) (y2 : Int) (κ : Res → Option α) : evFn Try.prog (spec_l04Before_X n) Try.f263 (((buildDs spec_l04Before_sh [.int x, .int x1, .int x2, .int y, .int y1, .int y2]).map Prod.fst).getD []) κ = spec_l04Before_run n [.int x, .int x1, .int x2, .int y, .int y1, .int y2] κ := (spec_l04Before_gen n x x1 x2 y y1 y2 κ).trans ((spec_l04Before_eq n x x1 x2 y y1 y2 (fun v1 => κ ⟨[.bool v1], []⟩)).trans ((spec_l04Before_run.eq_1 n [.int x, .int x1, .int x2, .int y, .int y1, .int y2] κ).trans (spec_l04Before_rn spec_l04Before n x x1 x2 y y1 y2 κ)).symm)
theorem spec_l04Before_en (x : Int) (x1 : Int) (x2 : Int) (y : Int) (y1 : Int) (y2 : Int) : (entry 0 (((buildDs spec_l04Before_sh [.int x, .int x1, .int x2, .int y, .int y1, .int y2]).map Prod.fst).getD [])).map (fun x => (x.1.length, x.2.lent)) = some (2, []) := by kernel_rfl
theorem spec_l04Before_good {α : Type} : ∀ n, GoodFn (α := α) Try.prog 263 (byShape spec_l04Before_sh (spec_l04Before_run n)) := by
  refine fn_good' Try.func263 (c := (Try.f263.body.getD .skip)) (by kernel_rfl) (by kernel_rfl) (by kernel_rfl) spec_l04Before_C spec_l04Before_M eqs spec_l04Before_lps (fun n => tabC_good (fun _ h => absurd h List.not_mem_nil)) eqs_ok spec_l04Before_Lt ?_ ?_ spec_l04Before_sh spec_l04Before_run ?_
  · exact (fun _ h => absurd h List.not_mem_nil)
  · exact (fun _ h => absurd h List.not_mem_nil)
  · intro n p κ r ds hd hr
    have hr0 := hr
    unfold spec_l04Before_run spec_l04Before_runG at hr
    split at hr
    · rw [← ds_of hd]
      exact ⟨en_of (spec_l04Before_en _ _ _ _ _ _) ⟨rfl, rfl⟩, (spec_l04Before_ev n _ _ _ _ _ _ κ).trans hr0⟩
    · cases hr

/-! loop.example/g01297/spec.l04Normal -/
def spec_l04Normal_sh : List SkD := [.agg [.int .i64, .int .i64, .int .i64, .int .i64, .int .i64, .int .i64]]
def spec_l04Normal_runG {α : Type} (F : Nat → Int → Int → Int → Int → Int → Int → (Int → Int → Int → Option α) → Option α) (n : Nat) (p : List P1) (κ : Res → Option α) : Option α := match p with
  | [.int t, .int t1, .int t2, .int t3, .int t4, .int t5] => F n t t1 t2 t3 t4 t5 (fun v1 v2 v3 => κ ⟨[.agg [.int .i64 v1, .int .i64 v2, .int .i64 v3]], []⟩)
  | _ => none
def spec_l04Normal_run {α : Type} (n : Nat) (p : List P1) (κ : Res → Option α) : Option α := spec_l04Normal_runG spec_l04Normal n p κ
def spec_l04Normal_CG {α : Type} (F0 : Nat → Int → Int → Int → Int → Int → Int → Int → Int → (Int → Int → Int → Option α) → Option α) (F1 : Nat → Int → Int → Int → Int → Int → Int → (Bool → Option α) → Option α) (n : Nat) : FuncId → List D → (Res → Option α) → Option α := tabC [(262, (byShape spec_l04Shape_sh (spec_l04Shape_runG F0 n))), (263, (byShape spec_l04Before_sh (spec_l04Before_runG F1 n)))]
def spec_l04Normal_C {α : Type} (n : Nat) : FuncId → List D → (Res → Option α) → Option α := spec_l04Normal_CG spec_l04Shape spec_l04Before n
def spec_l04Normal_M : FuncId → List Nat := tabM []
def spec_l04Normal_t3 : Tpl := ⟨[.any, .ptr 64 0 0, .ptr 128 0 0, .ptr 192 0 0, .int .i64, .any, .any, .any, .any, .any, .any, .any, .any, .any, .any, .any, .any, .any, .any, .any, .any, .any, .any, .any, .any, .any, .any, .any, .any], [(64, .ints 2 28 .i64 6), (128, .ints 2 46 .i64 3), (192, .ints 2 46 .i64 3)], []⟩
def spec_l04Normal_uG3 {α : Type} (G : Nat → Int → Int → Int → Int → Int → Int → Int → Int → Int → Int → Int → Int → Int → (Int → Int → Int → Int → Int → Int → Int → Int → Int → Int → Int → Int → Int → Option α) → (Int → Int → Int → Option α) → Option α) (n : Nat) (p : List P1) (brk : Nat → List P1 → Option α) (ret : Res → Option α) : Option α := match p with
  | [.int i, .int t6, .int t7, .int t8, .int t9, .int t10, .int t11, .int x, .int x1, .int x2, .int out, .int out1, .int out2] => G n i t6 t7 t8 t9 t10 t11 x x1 x2 out out1 out2 (fun i t6 t7 t8 t9 t10 t11 x x1 x2 out out1 out2 => brk 0 [.int i, .int t6, .int t7, .int t8, .int t9, .int t10, .int t11, .int x, .int x1, .int x2, .int out, .int out1, .int out2]) (fun v1 v2 v3 => ret ⟨[.agg [.int .i64 v1, .int .i64 v2, .int .i64 v3]], []⟩)
  | _ => none
def spec_l04Normal_u3 {α : Type} (n : Nat) (p : List P1) (brk : Nat → List P1 → Option α) (ret : Res → Option α) : Option α := spec_l04Normal_uG3 spec_l04Normal_l3 n p brk ret
def spec_l04Normal_lpsG {α : Type} (G3 : Nat → Int → Int → Int → Int → Int → Int → Int → Int → Int → Int → Int → Int → Int → (Int → Int → Int → Int → Int → Int → Int → Int → Int → Int → Int → Int → Int → Option α) → (Int → Int → Int → Option α) → Option α) : List (LoopT α) := [⟨3, spec_l04Normal_t3, spec_l04Normal_uG3 G3⟩]
def spec_l04Normal_lps {α : Type} : List (LoopT α) := spec_l04Normal_lpsG spec_l04Normal_l3
def spec_l04Normal_XG {α : Type} (F0 : Nat → Int → Int → Int → Int → Int → Int → Int → Int → (Int → Int → Int → Option α) → Option α) (F1 : Nat → Int → Int → Int → Int → Int → Int → (Bool → Option α) → Option α) (G3 : Nat → Int → Int → Int → Int → Int → Int → Int → Int → Int → Int → Int → Int → Int → (Int → Int → Int → Int → Int → Int → Int → Int → Int → Int → Int → Int → Int → Option α) → (Int → Int → Int → Option α) → Option α) (n : Nat) : Ctx α := ⟨spec_l04Normal_CG F0 F1 n, spec_l04Normal_M, eqs, lpOf (spec_l04Normal_lpsG G3) n⟩
def spec_l04Normal_X {α : Type} (n : Nat) : Ctx α := spec_l04Normal_XG spec_l04Shape spec_l04Before spec_l04Normal_l3 n
def spec_l04Normal_Lt (np : Nat) (lent : List (Bool × Nat × Blk)) : Prop := np = 1 ∧ lent = []
def spec_l04Normal_lb3 {α : Type} (F0 : Nat → Int → Int → Int → Int → Int → Int → Int → Int → (Int → Int → Int → Option α) → Option α) (F1 : Nat → Int → Int → Int → Int → Int → Int → (Bool → Option α) → Option α) (G3 : Nat → Int → Int → Int → Int → Int → Int → Int → Int → Int → Int → Int → Int → Int → (Int → Int → Int → Int → Int → Int → Int → Int → Int → Int → Int → Int → Int → Option α) → (Int → Int → Int → Option α) → Option α) (k : Nat) (i : Int) (t6 : Int) (t7 : Int) (t8 : Int) (t9 : Int) (t10 : Int) (t11 : Int) (x : Int) (x1 : Int) (x2 : Int) (out : Int) (out1 : Int) (out2 : Int) (b0 : Int → Int → Int → Int → Int → Int → Int → Int → Int → Int → Int → Int → Int → Option α) (r0 : Int → Int → Int → Option α) : Option α :=
  bif decide (i < 3) then
    bif decide (i = 0) then
      bif decide (i = 1) then
        bif decide (i = 2) then
          G3 k (w64 (i + 1)) t6 t7 t8 t9 t10 t11 x x1 x2 out out1 out2 b0 r0
        else
          F0 k t6 t7 t8 t9 t10 t11 i 2 fun v3 v4 v5 =>
          F1 k v3 v4 v5 out out1 out2 fun v6 =>
          bif v6 then
            G3 k (w64 (i + 1)) t6 t7 t8 t9 t10 t11 x x1 x2 v3 v4 v5 b0 r0
          else
            G3 k (w64 (i + 1)) t6 t7 t8 t9 t10 t11 x x1 x2 out out1 out2 b0 r0
      else
        F0 k t6 t7 t8 t9 t10 t11 i 1 fun v7 v8 v9 =>
        F1 k v7 v8 v9 out out1 out2 fun v10 =>
        bif v10 then
          bif decide (i = 2) then
            G3 k (w64 (i + 1)) t6 t7 t8 t9 t10 t11 x x1 x2 v7 v8 v9 b0 r0
          else
            F0 k t6 t7 t8 t9 t10 t11 i 2 fun v11 v12 v13 =>
            F1 k v11 v12 v13 v7 v8 v9 fun v14 =>
            bif v14 then
              G3 k (w64 (i + 1)) t6 t7 t8 t9 t10 t11 x x1 x2 v11 v12 v13 b0 r0
            else
              G3 k (w64 (i + 1)) t6 t7 t8 t9 t10 t11 x x1 x2 v7 v8 v9 b0 r0
        else
        bif decide (i = 2) then
          G3 k (w64 (i + 1)) t6 t7 t8 t9 t10 t11 x x1 x2 out out1 out2 b0 r0
        else
          F0 k t6 t7 t8 t9 t10 t11 i 2 fun v15 v16 v17 =>
          F1 k v15 v16 v17 out out1 out2 fun v18 =>
          bif v18 then
            G3 k (w64 (i + 1)) t6 t7 t8 t9 t10 t11 x x1 x2 v15 v16 v17 b0 r0
          else
            G3 k (w64 (i + 1)) t6 t7 t8 t9 t10 t11 x x1 x2 out out1 out2 b0 r0
    else
      F0 k t6 t7 t8 t9 t10 t11 i 0 fun v19 v20 v21 =>
      F1 k v19 v20 v21 out out1 out2 fun v22 =>
      bif v22 then
        bif decide (i = 1) then
          bif decide (i = 2) then
            G3 k (w64 (i + 1)) t6 t7 t8 t9 t10 t11 x x1 x2 v19 v20 v21 b0 r0
          else
            F0 k t6 t7 t8 t9 t10 t11 i 2 fun v23 v24 v25 =>
            F1 k v23 v24 v25 v19 v20 v21 fun v26 =>
            bif v26 then
              G3 k (w64 (i + 1)) t6 t7 t8 t9 t10 t11 x x1 x2 v23 v24 v25 b0 r0
            else
              G3 k (w64 (i + 1)) t6 t7 t8 t9 t10 t11 x x1 x2 v19 v20 v21 b0 r0
        else
          F0 k t6 t7 t8 t9 t10 t11 i 1 fun v27 v28 v29 =>
          F1 k v27 v28 v29 v19 v20 v21 fun v30 =>
          bif v30 then
            bif decide (i = 2) then
              G3 k (w64 (i + 1)) t6 t7 t8 t9 t10 t11 x x1 x2 v27 v28 v29 b0 r0
            else
              F0 k t6 t7 t8 t9 t10 t11 i 2 fun v31 v32 v33 =>
              F1 k v31 v32 v33 v27 v28 v29 fun v34 =>
              bif v34 then
                G3 k (w64 (i + 1)) t6 t7 t8 t9 t10 t11 x x1 x2 v31 v32 v33 b0 r0
              else
                G3 k (w64 (i + 1)) t6 t7 t8 t9 t10 t11 x x1 x2 v27 v28 v29 b0 r0
          else
          bif decide (i = 2) then
            G3 k (w64 (i + 1)) t6 t7 t8 t9 t10 t11 x x1 x2 v19 v20 v21 b0 r0
          else
            F0 k t6 t7 t8 t9 t10 t11 i 2 fun v35 v36 v37 =>
            F1 k v35 v36 v37 v19 v20 v21 fun v38 =>
            bif v38 then
              G3 k (w64 (i + 1)) t6 t7 t8 t9 t10 t11 x x1 x2 v35 v36 v37 b0 r0
            else
              G3 k (w64 (i + 1)) t6 t7 t8 t9 t10 t11 x x1 x2 v19 v20 v21 b0 r0
      else
      bif decide (i = 1) then
        bif decide (i = 2) then
          G3 k (w64 (i + 1)) t6 t7 t8 t9 t10 t11 x x1 x2 out out1 out2 b0 r0
        else
          F0 k t6 t7 t8 t9 t10 t11 i 2 fun v39 v40 v41 =>
          F1 k v39 v40 v41 out out1 out2 fun v42 =>
          bif v42 then
            G3 k (w64 (i + 1)) t6 t7 t8 t9 t10 t11 x x1 x2 v39 v40 v41 b0 r0
          else
            G3 k (w64 (i + 1)) t6 t7 t8 t9 t10 t11 x x1 x2 out out1 out2 b0 r0
      else
        F0 k t6 t7 t8 t9 t10 t11 i 1 fun v43 v44 v45 =>
        F1 k v43 v44 v45 out out1 out2 fun v46 =>
        bif v46 then
          bif decide (i = 2) then
            G3 k (w64 (i + 1)) t6 t7 t8 t9 t10 t11 x x1 x2 v43 v44 v45 b0 r0
          else
            F0 k t6 t7 t8 t9 t10 t11 i 2 fun v47 v48 v49 =>
            F1 k v47 v48 v49 v43 v44 v45 fun v50 =>
            bif v50 then
              G3 k (w64 (i + 1)) t6 t7 t8 t9 t10 t11 x x1 x2 v47 v48 v49 b0 r0
            else
              G3 k (w64 (i + 1)) t6 t7 t8 t9 t10 t11 x x1 x2 v43 v44 v45 b0 r0
        else
        bif decide (i = 2) then
          G3 k (w64 (i + 1)) t6 t7 t8 t9 t10 t11 x x1 x2 out out1 out2 b0 r0
        else
          F0 k t6 t7 t8 t9 t10 t11 i 2 fun v51 v52 v53 =>
          F1 k v51 v52 v53 out out1 out2 fun v54 =>
          bif v54 then
            G3 k (w64 (i + 1)) t6 t7 t8 t9 t10 t11 x x1 x2 v51 v52 v53 b0 r0
          else
            G3 k (w64 (i + 1)) t6 t7 t8 t9 t10 t11 x x1 x2 out out1 out2 b0 r0
  else
    b0 i t6 t7 t8 t9 t10 t11 x x1 x2 out out1 out2
theorem spec_l04Normal_l3_gen {α : Type} (F0 : Nat → Int → Int → Int → Int → Int → Int → Int → Int → (Int → Int → Int → Option α) → Option α) (F1 : Nat → Int → Int → Int → Int → Int → Int → (Bool → Option α) → Option α) (G3 : Nat → Int → Int → Int → Int → Int → Int → Int → Int → Int → Int → Int → Int → Int → (Int → Int → Int → Int → Int → Int → Int → Int → Int → Int → Int → Int → Int → Option α) → (Int → Int → Int → Option α) → Option α) (n : Nat) (i : Int) (t6 : Int) (t7 : Int) (t8 : Int) (t9 : Int) (t10 : Int) (t11 : Int) (x : Int) (x1 : Int) (x2 : Int) (out : Int) (out1 : Int) (out2 : Int) (brk : Nat → List P1 → Option α) (ret : Res → Option α) : ev ((spec_l04Normal_XG F0 F1 G3 n).env Try.prog Try.f148 1 []) (findLoop (loopsIn (Try.f148.body.getD .skip)) 3) ((spec_l04Normal_t3.build [.int i, .int t6, .int t7, .int t8, .int t9, .int t10, .int t11, .int x, .int x1, .int x2, .int out, .int out1, .int out2]).getD ⟨[], []⟩) (roundK (1 * 64) spec_l04Normal_t3 (fun q => spec_l04Normal_uG3 G3 n q brk ret) brk ret) = spec_l04Normal_lb3 F0 F1 G3 n i t6 t7 t8 t9 t10 t11 x x1 x2 out out1 out2 (fun i t6 t7 t8 t9 t10 t11 x x1 x2 out out1 out2 => brk 0 [.int i, .int t6, .int t7, .int t8, .int t9, .int t10, .int t11, .int x, .int x1, .int x2, .int out, .int out1, .int out2]) (fun v1 v2 v3 => ret ⟨[.agg [.int .i64 v1, .int .i64 v2, .int .i64 v3]], []⟩) := by kernel_rfl
theorem spec_l04Normal_l3_eq {α : Type} (k : Nat) (i : Int) (t6 : Int) (t7 : Int) (t8 : Int) (t9 : Int) (t10 : Int) (t11 : Int) (x : Int) (x1 : Int) (x2 : Int) (out : Int) (out1 : Int) (out2 : Int) (b0 : Int → Int → Int → Int → Int → Int → Int → Int → Int → Int → Int → Int → Int → Option α) (r0 : Int → Int → Int → Option α) : spec_l04Normal_lb3 spec_l04Shape spec_l04Before spec_l04Normal_l3 k i t6 t7 t8 t9 t10 t11 x x1 x2 out out1 out2 b0 r0 = spec_l04Normal_l3 (k + 1) i t6 t7 t8 t9 t10 t11 x x1 x2 out out1 out2 b0 r0 := (spec_l04Normal_lb3.eq_1 spec_l04Shape spec_l04Before spec_l04Normal_l3 k i t6 t7 t8 t9 t10 t11 x x1 x2 out out1 out2 b0 r0).trans (show spec_l04Normal_l3 (k + 1) i t6 t7 t8 t9 t10 t11 x x1 x2 out out1 out2 b0 r0 = _ from spec_l04Normal_l3.eq_2 _ _ _ _ _ _ _ _ _ _ _ _ _ _ _ _ ).symm
theorem spec_l04Normal_l3_rn {α : Type} (G : Nat → Int → Int → Int → Int → Int → Int → Int → Int → Int → Int → Int → Int → Int → (Int → Int → Int → Int → Int → Int → Int → Int → Int → Int → Int → Int → Int → Option α) → (Int → Int → Int → Option α) → Option α) (n : Nat) (i : Int) (t6 : Int) (t7 : Int) (t8 : Int) (t9 : Int) (t10 : Int) (t11 : Int) (x : Int) (x1 : Int) (x2 : Int) (out : Int) (out1 : Int) (out2 : Int) (brk : Nat → List P1 → Option α) (ret : Res → Option α) : spec_l04Normal_uG3 G n [.int i, .int t6, .int t7, .int t8, .int t9, .int t10, .int t11, .int x, .int x1, .int x2, .int out, .int out1, .int out2] brk ret = G n i t6 t7 t8 t9 t10 t11 x x1 x2 out out1 out2 (fun i t6 t7 t8 t9 t10 t11 x x1 x2 out out1 out2 => brk 0 [.int i, .int t6, .int t7, .int t8, .int t9, .int t10, .int t11, .int x, .int x1, .int x2, .int out, .int out1, .int out2]) (fun v1 v2 v3 => ret ⟨[.agg [.int .i64 v1, .int .i64 v2, .int .i64 v3]], []⟩) := rfl
theorem spec_l04Normal_l3_ev {α : Type} (n : Nat) (i : Int) (t6 : Int) (t7 : Int) (t8 : Int) (t9 : Int) (t10 : Int) (t11 : Int) (x : Int) (x1 : Int) (x2 : Int) (out : Int) (out1 : Int) (out2 : Int) (brk : Nat → List P1 → Option α) (ret : Res → Option α) : ev ((spec_l04Normal_X n).env Try.prog Try.f148 1 []) (findLoop (loopsIn (Try.f148.body.getD .skip)) 3) ((spec_l04Normal_t3.build [.int i, .int t6, .int t7, .int t8, .int t9, .int t10, .int t11, .int x, .int x1, .int x2, .int out, .int out1, .int out2]).getD ⟨[], []⟩) (roundK (1 * 64) spec_l04Normal_t3 (fun q => spec_l04Normal_u3 n q brk ret) brk ret) = spec_l04Normal_u3 (n + 1) [.int i, .int t6, .int t7, .int t8, .int t9, .int t10, .int t11, .int x, .int x1, .int x2, .int out, .int out1, .int out2] brk ret := (spec_l04Normal_l3_gen spec_l04Shape spec_l04Before spec_l04Normal_l3 n i t6 t7 t8 t9 t10 t11 x x1 x2 out out1 out2 brk ret).trans ((spec_l04Normal_l3_eq n i t6 t7 t8 t9 t10 t11 x x1 x2 out out1 out2 (fun i t6 t7 t8 t9 t10 t11 x x1 x2 out out1 out2 => brk 0 [.int i, .int t6, .int t7, .int t8, .int t9, .int t10, .int t11, .int x, .int x1, .int x2, .int out, .int out1, .int out2]) (fun v1 v2 v3 => ret ⟨[.agg [.int .i64 v1, .int .i64 v2, .int .i64 v3]], []⟩)).trans ((spec_l04Normal_u3.eq_1 (n + 1) [.int i, .int t6, .int t7, .int t8, .int t9, .int t10, .int t11, .int x, .int x1, .int x2, .int out, .int out1, .int out2] brk ret).trans (spec_l04Normal_l3_rn spec_l04Normal_l3 (n + 1) i t6 t7 t8 t9 t10 t11 x x1 x2 out out1 out2 brk ret)).symm)
def spec_l04Normal_body {α : Type} (F0 : Nat → Int → Int → Int → Int → Int → Int → Int → Int → (Int → Int → Int → Option α) → Option α) (F1 : Nat → Int → Int → Int → Int → Int → Int → (Bool → Option α) → Option α) (G3 : Nat → Int → Int → Int → Int → Int → Int → Int → Int → Int → Int → Int → Int → Int → (Int → Int → Int → Int → Int → Int → Int → Int → Int → Int → Int → Int → Int → Option α) → (Int → Int → Int → Option α) → Option α) (k : Nat) (t : Int) (t1 : Int) (t2 : Int) (t3 : Int) (t4 : Int) (t5 : Int) (r0 : Int → Int → Int → Option α) : Option α :=
  F0 k t t1 t2 t3 t4 t5 0 1 fun v v1 v2 =>
  G3 k 0 t t1 t2 t3 t4 t5 0 0 0 v v1 v2
    (fun i1 t12 t13 t14 t15 t16 t17 x3 x4 x5 out3 out4 out5 =>
      r0 out3 out4 out5)
    r0
theorem spec_l04Normal_gen {α : Type} (F0 : Nat → Int → Int → Int → Int → Int → Int → Int → Int → (Int → Int → Int → Option α) → Option α) (F1 : Nat → Int → Int → Int → Int → Int → Int → (Bool → Option α) → Option α) (G3 : Nat → Int → Int → Int → Int → Int → Int → Int → Int → Int → Int → Int → Int → Int → (Int → Int → Int → Int → Int → Int → Int → Int → Int → Int → Int → Int → Int → Option α) → (Int → Int → Int → Option α) → Option α) (n : Nat) (t : Int) (t1 : Int) (t2 : Int) (t3 : Int) (t4 : Int) (t5 : Int) (κ : Res → Option α) : evFn Try.prog (spec_l04Normal_XG F0 F1 G3 n) Try.f148 (((buildDs spec_l04Normal_sh [.int t, .int t1, .int t2, .int t3, .int t4, .int t5]).map Prod.fst).getD []) κ = spec_l04Normal_body F0 F1 G3 n t t1 t2 t3 t4 t5 (fun v1 v2 v3 => κ ⟨[.agg [.int .i64 v1, .int .i64 v2, .int .i64 v3]], []⟩) := by kernel_rfl
theorem spec_l04Normal_eq {α : Type} (n : Nat) (t : Int) (t1 : Int) (t2 : Int) (t3 : Int) (t4 : Int) (t5 : Int) (r0 : Int → Int → Int → Option α) : spec_l04Normal_body spec_l04Shape spec_l04Before spec_l04Normal_l3 n t t1 t2 t3 t4 t5 r0 = spec_l04Normal n t t1 t2 t3 t4 t5 r0 := (spec_l04Normal_body.eq_1 spec_l04Shape spec_l04Before spec_l04Normal_l3 n t t1 t2 t3 t4 t5 r0).trans (spec_l04Normal.eq_1 n t t1 t2 t3 t4 t5 r0).symm
theorem spec_l04Normal_rn {α : Type} (F : Nat → Int → Int → Int → Int → Int → Int → (Int → Int → Int → Option α) → Option α) (n : Nat) (t : Int) (t1 : Int) (t2 : Int) (t3 : Int) (t4 : Int) (t5 : Int) (κ : Res → Option α) : spec_l04Normal_runG F n [.int t, .int t1, .int t2, .int t3, .int t4, .int t5] κ = F n t t1 t2 t3 t4 t5 (fun v1 v2 v3 => κ ⟨[.agg [.int .i64 v1, .int .i64 v2, .int .i64 v3]], []⟩) := rfl
theorem spec_l04Normal_ev {α : Type} (n : Nat) (t : Int) (t1 : Int) (t2 : Int) (t3 : Int) (t4 : Int) (t5 : Int) (κ : Res → Option α) : evFn Try.prog (spec_l04Normal_X n) Try.f148 (((buildDs spec_l04Normal_sh [.int t, .int t1, .int t2, .int t3, .int t4, .int t5]).map Prod.fst).getD []) κ = spec_l04Normal_run n [.int t, .int t1, .int t2, .int t3, .int t4, .int t5] κ := (spec_l04Normal_gen spec_l04Shape spec_l04Before spec_l04Normal_l3 n t t1 t2 t3 t4 t5 κ).trans ((spec_l04Normal_eq n t t1 t2 t3 t4 t5 (fun v1 v2 v3 => κ ⟨[.agg [.int .i64 v1, .int .i64 v2, .int .i64 v3]], []⟩)).trans ((spec_l04Normal_run.eq_1 n [.int t, .int t1, .int t2, .int t3, .int t4, .int t5] κ).trans (spec_l04Normal_rn spec_l04Normal n t t1 t2 t3 t4 t5 κ)).symm)
theorem spec_l04Normal_en (t : Int) (t1 : Int) (t2 : Int) (t3 : Int) (t4 : Int) (t5 : Int) : (entry 0 (((buildDs spec_l04Normal_sh [.int t, .int t1, .int t2, .int t3, .int t4, .int t5]).map Prod.fst).getD [])).map (fun x => (x.1.length, x.2.lent)) = some (1, []) := by kernel_rfl
theorem spec_l04Normal_good {α : Type} : ∀ n, GoodFn (α := α) Try.prog 148 (byShape spec_l04Normal_sh (spec_l04Normal_run n)) := by
  refine fn_good' Try.func148 (c := (Try.f148.body.getD .skip)) (by kernel_rfl) (by kernel_rfl) (by kernel_rfl) spec_l04Normal_C spec_l04Normal_M eqs spec_l04Normal_lps (fun n => tabC_good (List.forall_mem_cons.2 ⟨(spec_l04Shape_good n), (List.forall_mem_cons.2 ⟨(spec_l04Before_good n), (fun _ h => absurd h List.not_mem_nil)⟩)⟩)) eqs_ok spec_l04Normal_Lt ?_ ?_ spec_l04Normal_sh spec_l04Normal_run ?_
  · refine List.forall_mem_cons.2 ⟨?_, (fun _ h => absurd h List.not_mem_nil)⟩
    · intro p brk ret; show spec_l04Normal_u3 0 p brk ret = none; unfold spec_l04Normal_u3 spec_l04Normal_uG3; split <;> rfl
  · refine List.forall_mem_cons.2 ⟨?_, (fun _ h => absurd h List.not_mem_nil)⟩
    · intro np lent hL n p brk ret st r hb hr
      obtain ⟨rfl, rfl⟩ := hL
      rw [← tpl_of hb]
      change spec_l04Normal_u3 (n + 1) p brk ret = some r at hr
      have hr0 := hr
      unfold spec_l04Normal_u3 spec_l04Normal_uG3 at hr
      split at hr
      · exact (spec_l04Normal_l3_ev n _ _ _ _ _ _ _ _ _ _ _ _ _ brk ret).trans hr0
      · cases hr
  · intro n p κ r ds hd hr
    have hr0 := hr
    unfold spec_l04Normal_run spec_l04Normal_runG at hr
    split at hr
    · rw [← ds_of hd]
      exact ⟨en_of (spec_l04Normal_en _ _ _ _ _ _) ⟨rfl, rfl⟩, (spec_l04Normal_ev n _ _ _ _ _ _ κ).trans hr0⟩
    · cases hr

/-! loop.example/g01297/spec.AreEqualTriangles -/
def spec_AreEqualTriangles_sh : List SkD := [.agg [.int .i64, .int .i64, .int .i64, .int .i64, .int .i64, .int .i64], .agg [.int .i64, .int .i64, .int .i64, .int .i64, .int .i64, .int .i64]]
def spec_AreEqualTriangles_runG {α : Type} (F : Nat → Int → Int → Int → Int → Int → Int → Int → Int → Int → Int → Int → Int → (Bool → Int → Option α) → Option α) (n : Nat) (p : List P1) (κ : Res → Option α) : Option α := match p with
  | [.int t, .int t1, .int t2, .int t3, .int t4, .int t5, .int u, .int u1, .int u2, .int u3, .int u4, .int u5] => F n t t1 t2 t3 t4 t5 u u1 u2 u3 u4 u5 (fun v1 v2 => κ ⟨[.bool v1, .int .i64 v2], []⟩)
  | _ => none
def spec_AreEqualTriangles_run {α : Type} (n : Nat) (p : List P1) (κ : Res → Option α) : Option α := spec_AreEqualTriangles_runG spec_AreEqualTriangles n p κ
def spec_AreEqualTriangles_CG {α : Type} (F0 : Nat → Int → Int → Int → Int → Int → Int → (Bool → Option α) → Option α) (F1 : Nat → Int → Int → Int → Int → Int → Int → (Int → Int → Int → Option α) → Option α) (n : Nat) : FuncId → List D → (Res → Option α) → Option α := tabC [(147, (byShape spec_l04Is_sh (spec_l04Is_runG F0 n))), (148, (byShape spec_l04Normal_sh (spec_l04Normal_runG F1 n)))]
def spec_AreEqualTriangles_C {α : Type} (n : Nat) : FuncId → List D → (Res → Option α) → Option α := spec_AreEqualTriangles_CG spec_l04Is spec_l04Normal n
def spec_AreEqualTriangles_M : FuncId → List Nat := tabM []
def spec_AreEqualTriangles_lpsG {α : Type}  : List (LoopT α) := []
def spec_AreEqualTriangles_lps {α : Type} : List (LoopT α) := spec_AreEqualTriangles_lpsG
def spec_AreEqualTriangles_XG {α : Type} (F0 : Nat → Int → Int → Int → Int → Int → Int → (Bool → Option α) → Option α) (F1 : Nat → Int → Int → Int → Int → Int → Int → (Int → Int → Int → Option α) → Option α)  (n : Nat) : Ctx α := ⟨spec_AreEqualTriangles_CG F0 F1 n, spec_AreEqualTriangles_M, eqs, lpOf (spec_AreEqualTriangles_lpsG) n⟩
def spec_AreEqualTriangles_X {α : Type} (n : Nat) : Ctx α := spec_AreEqualTriangles_XG spec_l04Is spec_l04Normal n
def spec_AreEqualTriangles_Lt (np : Nat) (lent : List (Bool × Nat × Blk)) : Prop := np = 2 ∧ lent = []
def spec_AreEqualTriangles_body {α : Type} (F0 : Nat → Int → Int → Int → Int → Int → Int → (Bool → Option α) → Option α) (F1 : Nat → Int → Int → Int → Int → Int → Int → (Int → Int → Int → Option α) → Option α)  (k : Nat) (t : Int) (t1 : Int) (t2 : Int) (t3 : Int) (t4 : Int) (t5 : Int) (u : Int) (u1 : Int) (u2 : Int) (u3 : Int) (u4 : Int) (u5 : Int) (r0 : Bool → Int → Option α) : Option α :=
  F0 k t t1 t2 t3 t4 t5 fun v =>
  bif (!v) then
    r0 false 1
  else
    F0 k u u1 u2 u3 u4 u5 fun v1 =>
    bif (!v1) then
      r0 false 1
    else
      F1 k t t1 t2 t3 t4 t5 fun v2 v3 v4 =>
      F1 k u u1 u2 u3 u4 u5 fun v5 v6 v7 =>
      r0 (decide (v2 = v5) && (decide (v3 = v6) && decide (v4 = v7))) 0
theorem spec_AreEqualTriangles_gen {α : Type} (F0 : Nat → Int → Int → Int → Int → Int → Int → (Bool → Option α) → Option α) (F1 : Nat → Int → Int → Int → Int → Int → Int → (Int → Int → Int → Option α) → Option α)  (n : Nat) (t : Int) (t1 : Int) (t2 : Int) (t3 : Int) (t4 : Int) (t5 : Int) (u : Int) (u1 : Int) (u2 : Int) (u3 : Int) (u4 : Int) (u5 : Int) (κ : Res → Option α) : evFn Try.prog (spec_AreEqualTriangles_XG F0 F1 n) Try.f15 (((buildDs spec_AreEqualTriangles_sh [.int t, .int t1, .int t2, .int t3, .int t4, .int t5, .int u, .int u1, .int u2, .int u3, .int u4, .int u5]).map Prod.fst).getD []) κ = spec_AreEqualTriangles_body F0 F1 n t t1 t2 t3 t4 t5 u u1 u2 u3 u4 u5 (fun v1 v2 => κ ⟨[.bool v1, .int .i64 v2], []⟩) := by kernel_rfl
theorem spec_AreEqualTriangles_eq {α : Type} (n : Nat) (t : Int) (t1 : Int) (t2 : Int) (t3 : Int) (t4 : Int) (t5 : Int) (u : Int) (u1 : Int) (u2 : Int) (u3 : Int) (u4 : Int) (u5 : Int) (r0 : Bool → Int → Option α) : spec_AreEqualTriangles_body spec_l04Is spec_l04Normal n t t1 t2 t3 t4 t5 u u1 u2 u3 u4 u5 r0 = spec_AreEqualTriangles n t t1 t2 t3 t4 t5 u u1 u2 u3 u4 u5 r0 := (spec_AreEqualTriangles_body.eq_1 spec_l04Is spec_l04Normal n t t1 t2 t3 t4 t5 u u1 u2 u3 u4 u5 r0).trans (spec_AreEqualTriangles.eq_1 n t t1 t2 t3 t4 t5 u u1 u2 u3 u4 u5 r0).symm
theorem spec_AreEqualTriangles_rn {α : Type} (F : Nat → Int → Int → Int → Int → Int → Int → Int → Int → Int → Int → Int → Int → (Bool → Int → Option α) → Option α) (n : Nat) (t : Int) (t1 : Int) (t2 : Int) (t3 : Int) (t4 : Int) (t5 : Int) (u : Int) (u1 : Int) (u2 : Int) (u3 : Int) (u4 : Int) (u5 : Int) (κ : Res → Option α) : spec_AreEqualTriangles_runG F n [.int t, .int t1, .int t2, .int t3, .int t4, .int t5, .int u, .int u1, .int u2, .int u3, .int u4, .int u5] κ = F n t t1 t2 t3 t4 t5 u u1 u2 u3 u4 u5 (fun v1 v2 => κ ⟨[.bool v1, .int .i64 v2], []⟩) := rfl
theorem spec_AreEqualTriangles_ev {α : Type} (n : Nat) (t : Int) (t1 : Int) (t2 : Int) (t3 : Int) (t4 : Int) (t5 : Int) (u : Int) (u1 : Int) (u2 : Int) (u3 : Int) (u4 : Int) (u5 : Int) (κ : Res → Option α) : evFn Try.prog (spec_AreEqualTriangles_X n) Try.f15 (((buildDs spec_AreEqualTriangles_sh [.int t, .int t1, .int t2, .int t3, .int t4, .int t5, .int u, .int u1, .int u2, .int u3, .int u4, .int u5]).map Prod.fst).getD []) κ = spec_AreEqualTriangles_run n [.int t, .int t1, .int t2, .int t3, .int t4, .int t5, .int u, .int u1, .int u2, .int u3, .int u4, .int u5] κ := (spec_AreEqualTriangles_gen spec_l04Is spec_l04Normal n t t1 t2 t3 t4 t5 u u1 u2 u3 u4 u5 κ).trans ((spec_AreEqualTriangles_eq n t t1 t2 t3 t4 t5 u u1 u2 u3 u4 u5 (fun v1 v2 => κ ⟨[.bool v1, .int .i64 v2], []⟩)).trans ((spec_AreEqualTriangles_run.eq_1 n [.int t, .int t1, .int t2, .int t3, .int t4, .int t5, .int u, .int u1, .int u2, .int u3, .int u4, .int u5] κ).trans (spec_AreEqualTriangles_rn spec_AreEqualTriangles n t t1 t2 t3 t4 t5 u u1 u2 u3 u4 u5 κ)).symm)
theorem spec_AreEqualTriangles_en (t : Int) (t1 : Int) (t2 : Int) (t3 : Int) (t4 : Int) (t5 : Int) (u : Int) (u1 : Int) (u2 : Int) (u3 : Int) (u4 : Int) (u5 : Int) : (entry 0 (((buildDs spec_AreEqualTriangles_sh [.int t, .int t1, .int t2, .int t3, .int t4, .int t5, .int u, .int u1, .int u2, .int u3, .int u4, .int u5]).map Prod.fst).getD [])).map (fun x => (x.1.length, x.2.lent)) = some (2, []) := by kernel_rfl
theorem spec_AreEqualTriangles_good {α : Type} : ∀ n, GoodFn (α := α) Try.prog 15 (byShape spec_AreEqualTriangles_sh (spec_AreEqualTriangles_run n)) := by
  refine fn_good' Try.func15 (c := (Try.f15.body.getD .skip)) (by kernel_rfl) (by kernel_rfl) (by kernel_rfl) spec_AreEqualTriangles_C spec_AreEqualTriangles_M eqs spec_AreEqualTriangles_lps (fun n => tabC_good (List.forall_mem_cons.2 ⟨(spec_l04Is_good n), (List.forall_mem_cons.2 ⟨(spec_l04Normal_good n), (fun _ h => absurd h List.not_mem_nil)⟩)⟩)) eqs_ok spec_AreEqualTriangles_Lt ?_ ?_ spec_AreEqualTriangles_sh spec_AreEqualTriangles_run ?_
  · exact (fun _ h => absurd h List.not_mem_nil)
  · exact (fun _ h => absurd h List.not_mem_nil)
  · intro n p κ r ds hd hr
    have hr0 := hr
    unfold spec_AreEqualTriangles_run spec_AreEqualTriangles_runG at hr
    split at hr
    · rw [← ds_of hd]
      exact ⟨en_of (spec_AreEqualTriangles_en _ _ _ _ _ _ _ _ _ _ _ _) ⟨rfl, rfl⟩, (spec_AreEqualTriangles_ev n _ _ _ _ _ _ _ _ _ _ _ _ κ).trans hr0⟩
    · cases hr

/-! loop.example/g01297/impl.in -/
def impl_in_sh : List SkD := [.int .i64, .int .i64, .int .i64]
def impl_in_runG {α : Type} (F : Nat → Int → Int → Int → (Bool → Option α) → Option α) (n : Nat) (p : List P1) (κ : Res → Option α) : Option α := match p with
  | [.int n_, .int low, .int high] => F n n_ low high (fun v1 => κ ⟨[.bool v1], []⟩)
  | _ => none
def impl_in_run {α : Type} (n : Nat) (p : List P1) (κ : Res → Option α) : Option α := impl_in_runG impl_in n p κ
def impl_in_CG {α : Type}  (n : Nat) : FuncId → List D → (Res → Option α) → Option α := tabC []
def impl_in_C {α : Type} (n : Nat) : FuncId → List D → (Res → Option α) → Option α := impl_in_CG n
def impl_in_M : FuncId → List Nat := tabM []
def impl_in_lpsG {α : Type}  : List (LoopT α) := []
def impl_in_lps {α : Type} : List (LoopT α) := impl_in_lpsG
def impl_in_XG {α : Type}   (n : Nat) : Ctx α := ⟨impl_in_CG n, impl_in_M, eqs, lpOf (impl_in_lpsG) n⟩
def impl_in_X {α : Type} (n : Nat) : Ctx α := impl_in_XG n
def impl_in_Lt (np : Nat) (lent : List (Bool × Nat × Blk)) : Prop := np = 3 ∧ lent = []
def impl_in_body {α : Type}   (k : Nat) (n_ : Int) (low : Int) (high : Int) (r0 : Bool → Option α) : Option α :=
  bif decide (low ≤ n_) then
    r0 (decide (n_ ≤ high))
  else
    r0 false
theorem impl_in_gen {α : Type}   (n : Nat) (n_ : Int) (low : Int) (high : Int) (κ : Res → Option α) : evFn Try.prog (impl_in_XG n) Try.f173 (((buildDs impl_in_sh [.int n_, .int low, .int high]).map Prod.fst).getD []) κ = impl_in_body n n_ low high (fun v1 => κ ⟨[.bool v1], []⟩) := by kernel_rfl
theorem impl_in_eq {α : Type} (n : Nat) (n_ : Int) (low : Int) (high : Int) (r0 : Bool → Option α) : impl_in_body n n_ low high r0 = impl_in n n_ low high r0 := (impl_in_body.eq_1 n n_ low high r0).trans (impl_in.eq_1 n n_ low high r0).symm
theorem impl_in_rn {α : Type} (F : Nat → Int → Int → Int → (Bool → Option α) → Option α) (n : Nat) (n_ : Int) (low : Int) (high : Int) (κ : Res → Option α) : impl_in_runG F n [.int n_, .int low, .int high] κ = F n n_ low high (fun v1 => κ ⟨[.bool v1], []⟩) := rfl
theorem impl_in_ev {α : Type} (n : Nat) (n_ : Int) (low : Int) (high : Int) (κ : Res → Option α) : evFn Try.prog (impl_in_X n) Try.f173 (((buildDs impl_in_sh [.int n_, .int low, .int high]).map Prod.fst).getD []) κ = impl_in_run n [.int n_, .int low, .int high] κ := (impl_in_gen n n_ low high κ).trans ((impl_in_eq n n_ low high (fun v1 => κ ⟨[.bool v1], []⟩)).trans ((impl_in_run.eq_1 n [.int n_, .int low, .int high] κ).trans (impl_in_rn impl_in n n_ low high κ)).symm)
theorem impl_in_en (n_ : Int) (low : Int) (high : Int) : (entry 0 (((buildDs impl_in_sh [.int n_, .int low, .int high]).map Prod.fst).getD [])).map (fun x => (x.1.length, x.2.lent)) = some (3, []) := by kernel_rfl
theorem impl_in_good {α : Type} : ∀ n, GoodFn (α := α) Try.prog 173 (byShape impl_in_sh (impl_in_run n)) := by
  refine fn_good' Try.func173 (c := (Try.f173.body.getD .skip)) (by kernel_rfl) (by kernel_rfl) (by kernel_rfl) impl_in_C impl_in_M eqs impl_in_lps (fun n => tabC_good (fun _ h => absurd h List.not_mem_nil)) eqs_ok impl_in_Lt ?_ ?_ impl_in_sh impl_in_run ?_
  · exact (fun _ h => absurd h List.not_mem_nil)
  · exact (fun _ h => absurd h List.not_mem_nil)
  · intro n p κ r ds hd hr
    have hr0 := hr
    unfold impl_in_run impl_in_runG at hr
    split at hr
    · rw [← ds_of hd]
      exact ⟨en_of (impl_in_en _ _ _) ⟨rfl, rfl⟩, (impl_in_ev n _ _ _ κ).trans hr0⟩
    · cases hr

/-! loop.example/g01297/impl.small -/
def impl_small_sh : List SkD := [.agg [.int .i64, .int .i64]]
def impl_small_runG {α : Type} (F : Nat → Int → Int → (Bool → Option α) → Option α) (n : Nat) (p : List P1) (κ : Res → Option α) : Option α := match p with
  | [.int a, .int a1] => F n a a1 (fun v1 => κ ⟨[.bool v1], []⟩)
  | _ => none
def impl_small_run {α : Type} (n : Nat) (p : List P1) (κ : Res → Option α) : Option α := impl_small_runG impl_small n p κ
def impl_small_CG {α : Type} (F0 : Nat → Int → Int → Int → (Bool → Option α) → Option α) (n : Nat) : FuncId → List D → (Res → Option α) → Option α := tabC [(173, (byShape impl_in_sh (impl_in_runG F0 n)))]
def impl_small_C {α : Type} (n : Nat) : FuncId → List D → (Res → Option α) → Option α := impl_small_CG impl_in n
def impl_small_M : FuncId → List Nat := tabM []
def impl_small_lpsG {α : Type}  : List (LoopT α) := []
def impl_small_lps {α : Type} : List (LoopT α) := impl_small_lpsG
def impl_small_XG {α : Type} (F0 : Nat → Int → Int → Int → (Bool → Option α) → Option α)  (n : Nat) : Ctx α := ⟨impl_small_CG F0 n, impl_small_M, eqs, lpOf (impl_small_lpsG) n⟩
def impl_small_X {α : Type} (n : Nat) : Ctx α := impl_small_XG impl_in n
def impl_small_Lt (np : Nat) (lent : List (Bool × Nat × Blk)) : Prop := np = 1 ∧ lent = []
def impl_small_body {α : Type} (F0 : Nat → Int → Int → Int → (Bool → Option α) → Option α)  (k : Nat) (a : Int) (a1 : Int) (r0 : Bool → Option α) : Option α :=
  F0 k a (-1000) 1000 fun v =>
  bif v then
    F0 k a1 (-1000) 1000 fun v1 =>
    r0 v1
  else
    r0 false
theorem impl_small_gen {α : Type} (F0 : Nat → Int → Int → Int → (Bool → Option α) → Option α)  (n : Nat) (a : Int) (a1 : Int) (κ : Res → Option α) : evFn Try.prog (impl_small_XG F0 n) Try.f204 (((buildDs impl_small_sh [.int a, .int a1]).map Prod.fst).getD []) κ = impl_small_body F0 n a a1 (fun v1 => κ ⟨[.bool v1], []⟩) := by kernel_rfl
theorem impl_small_eq {α : Type} (n : Nat) (a : Int) (a1 : Int) (r0 : Bool → Option α) : impl_small_body impl_in n a a1 r0 = impl_small n a a1 r0 := (impl_small_body.eq_1 impl_in n a a1 r0).trans (impl_small.eq_1 n a a1 r0).symm
theorem impl_small_rn {α : Type} (F : Nat → Int → Int → (Bool → Option α) → Option α) (n : Nat) (a : Int) (a1 : Int) (κ : Res → Option α) : impl_small_runG F n [.int a, .int a1] κ = F n a a1 (fun v1 => κ ⟨[.bool v1], []⟩) := rfl
theorem impl_small_ev {α : Type} (n : Nat) (a : Int) (a1 : Int) (κ : Res → Option α) : evFn Try.prog (impl_small_X n) Try.f204 (((buildDs impl_small_sh [.int a, .int a1]).map Prod.fst).getD []) κ = impl_small_run n [.int a, .int a1] κ := (impl_small_gen impl_in n a a1 κ).trans ((impl_small_eq n a a1 (fun v1 => κ ⟨[.bool v1], []⟩)).trans ((impl_small_run.eq_1 n [.int a, .int a1] κ).trans (impl_small_rn impl_small n a a1 κ)).symm)
theorem impl_small_en (a : Int) (a1 : Int) : (entry 0 (((buildDs impl_small_sh [.int a, .int a1]).map Prod.fst).getD [])).map (fun x => (x.1.length, x.2.lent)) = some (1, []) := by kernel_rfl
theorem impl_small_good {α : Type} : ∀ n, GoodFn (α := α) Try.prog 204 (byShape impl_small_sh (impl_small_run n)) := by
  refine fn_good' Try.func204 (c := (Try.f204.body.getD .skip)) (by kernel_rfl) (by kernel_rfl) (by kernel_rfl) impl_small_C impl_small_M eqs impl_small_lps (fun n => tabC_good (List.forall_mem_cons.2 ⟨(impl_in_good n), (fun _ h => absurd h List.not_mem_nil)⟩)) eqs_ok impl_small_Lt ?_ ?_ impl_small_sh impl_small_run ?_
  · exact (fun _ h => absurd h List.not_mem_nil)
  · exact (fun _ h => absurd h List.not_mem_nil)
  · intro n p κ r ds hd hr
    have hr0 := hr
    unfold impl_small_run impl_small_runG at hr
    split at hr
    · rw [← ds_of hd]
      exact ⟨en_of (impl_small_en _ _) ⟨rfl, rfl⟩, (impl_small_ev n _ _ κ).trans hr0⟩
    · cases hr

/-! (loop.example/g01297/impl.Point).plus -/
def impl_Point_plus_sh : List SkD := [.agg [.int .i64, .int .i64], .agg [.int .i64, .int .i64], .int .i64]
def impl_Point_plus_runG {α : Type} (F : Nat → Int → Int → Int → Int → Int → (Int → Int → Option α) → Option α) (n : Nat) (p : List P1) (κ : Res → Option α) : Option α := match p with
  | [.int a, .int a1, .int b_, .int b_1, .int k_] => F n a a1 b_ b_1 k_ (fun v1 v2 => κ ⟨[.agg [.int .i64 v1, .int .i64 v2]], []⟩)
  | _ => none
def impl_Point_plus_run {α : Type} (n : Nat) (p : List P1) (κ : Res → Option α) : Option α := impl_Point_plus_runG impl_Point_plus n p κ
def impl_Point_plus_CG {α : Type}  (n : Nat) : FuncId → List D → (Res → Option α) → Option α := tabC []
def impl_Point_plus_C {α : Type} (n : Nat) : FuncId → List D → (Res → Option α) → Option α := impl_Point_plus_CG n
def impl_Point_plus_M : FuncId → List Nat := tabM []
def impl_Point_plus_lpsG {α : Type}  : List (LoopT α) := []
def impl_Point_plus_lps {α : Type} : List (LoopT α) := impl_Point_plus_lpsG
def impl_Point_plus_XG {α : Type}   (n : Nat) : Ctx α := ⟨impl_Point_plus_CG n, impl_Point_plus_M, eqs, lpOf (impl_Point_plus_lpsG) n⟩
def impl_Point_plus_X {α : Type} (n : Nat) : Ctx α := impl_Point_plus_XG n
def impl_Point_plus_Lt (np : Nat) (lent : List (Bool × Nat × Blk)) : Prop := np = 3 ∧ lent = []
def impl_Point_plus_body {α : Type}   (k : Nat) (a : Int) (a1 : Int) (b_ : Int) (b_1 : Int) (k_ : Int) (r0 : Int → Int → Option α) : Option α :=
  r0 (w64 (a + (w64 (k_ * b_)))) (w64 (a1 + (w64 (k_ * b_1))))
theorem impl_Point_plus_gen {α : Type}   (n : Nat) (a : Int) (a1 : Int) (b_ : Int) (b_1 : Int) (k_ : Int) (κ : Res → Option α) : evFn Try.prog (impl_Point_plus_XG n) Try.f155 (((buildDs impl_Point_plus_sh [.int a, .int a1, .int b_, .int b_1, .int k_]).map Prod.fst).getD []) κ = impl_Point_plus_body n a a1 b_ b_1 k_ (fun v1 v2 => κ ⟨[.agg [.int .i64 v1, .int .i64 v2]], []⟩) := by kernel_rfl
theorem impl_Point_plus_eq {α : Type} (n : Nat) (a : Int) (a1 : Int) (b_ : Int) (b_1 : Int) (k_ : Int) (r0 : Int → Int → Option α) : impl_Point_plus_body n a a1 b_ b_1 k_ r0 = impl_Point_plus n a a1 b_ b_1 k_ r0 := (impl_Point_plus_body.eq_1 n a a1 b_ b_1 k_ r0).trans (impl_Point_plus.eq_1 n a a1 b_ b_1 k_ r0).symm
theorem impl_Point_plus_rn {α : Type} (F : Nat → Int → Int → Int → Int → Int → (Int → Int → Option α) → Option α) (n : Nat) (a : Int) (a1 : Int) (b_ : Int) (b_1 : Int) (k_ : Int) (κ : Res → Option α) : impl_Point_plus_runG F n [.int a, .int a1, .int b_, .int b_1, .int k_] κ = F n a a1 b_ b_1 k_ (fun v1 v2 => κ ⟨[.agg [.int .i64 v1, .int .i64 v2]], []⟩) := rfl
theorem impl_Point_plus_ev {α : Type} (n : Nat) (a : Int) (a1 : Int) (b_ : Int) (b_1 : Int) (k_ : Int) (κ : Res → Option α) : evFn Try.prog (impl_Point_plus_X n) Try.f155 (((buildDs impl_Point_plus_sh [.int a, .int a1, .int b_, .int b_1, .int k_]).map Prod.fst).getD []) κ = impl_Point_plus_run n [.int a, .int a1, .int b_, .int b_1, .int k_] κ := (impl_Point_plus_gen n a a1 b_ b_1 k_ κ).trans ((impl_Point_plus_eq n a a1 b_ b_1 k_ (fun v1 v2 => κ ⟨[.agg [.int .i64 v1, .int .i64 v2]], []⟩)).trans ((impl_Point_plus_run.eq_1 n [.int a, .int a1, .int b_, .int b_1, .int k_] κ).trans (impl_Point_plus_rn impl_Point_plus n a a1 b_ b_1 k_ κ)).symm)
theorem impl_Point_plus_en (a : Int) (a1 : Int) (b_ : Int) (b_1 : Int) (k_ : Int) : (entry 0 (((buildDs impl_Point_plus_sh [.int a, .int a1, .int b_, .int b_1, .int k_]).map Prod.fst).getD [])).map (fun x => (x.1.length, x.2.lent)) = some (3, []) := by kernel_rfl
theorem impl_Point_plus_good {α : Type} : ∀ n, GoodFn (α := α) Try.prog 155 (byShape impl_Point_plus_sh (impl_Point_plus_run n)) := by
  refine fn_good' Try.func155 (c := (Try.f155.body.getD .skip)) (by kernel_rfl) (by kernel_rfl) (by kernel_rfl) impl_Point_plus_C impl_Point_plus_M eqs impl_Point_plus_lps (fun n => tabC_good (fun _ h => absurd h List.not_mem_nil)) eqs_ok impl_Point_plus_Lt ?_ ?_ impl_Point_plus_sh impl_Point_plus_run ?_
  · exact (fun _ h => absurd h List.not_mem_nil)
  · exact (fun _ h => absurd h List.not_mem_nil)
  · intro n p κ r ds hd hr
    have hr0 := hr
    unfold impl_Point_plus_run impl_Point_plus_runG at hr
    split at hr
    · rw [← ds_of hd]
      exact ⟨en_of (impl_Point_plus_en _ _ _ _ _) ⟨rfl, rfl⟩, (impl_Point_plus_ev n _ _ _ _ _ κ).trans hr0⟩
    · cases hr

/-! (loop.example/g01297/impl.Point).less -/
def impl_Point_less_sh : List SkD := [.agg [.int .i64, .int .i64], .agg [.int .i64, .int .i64]]
def impl_Point_less_runG {α : Type} (F : Nat → Int → Int → Int → Int → (Int → Int → Option α) → Option α) (n : Nat) (p : List P1) (κ : Res → Option α) : Option α := match p with
  | [.int a, .int a1, .int b_, .int b_1] => F n a a1 b_ b_1 (fun v1 v2 => κ ⟨[.agg [.int .i64 v1, .int .i64 v2]], []⟩)
  | _ => none
def impl_Point_less_run {α : Type} (n : Nat) (p : List P1) (κ : Res → Option α) : Option α := impl_Point_less_runG impl_Point_less n p κ
def impl_Point_less_CG {α : Type} (F0 : Nat → Int → Int → Int → Int → Int → (Int → Int → Option α) → Option α) (n : Nat) : FuncId → List D → (Res → Option α) → Option α := tabC [(155, (byShape impl_Point_plus_sh (impl_Point_plus_runG F0 n)))]
def impl_Point_less_C {α : Type} (n : Nat) : FuncId → List D → (Res → Option α) → Option α := impl_Point_less_CG impl_Point_plus n
def impl_Point_less_M : FuncId → List Nat := tabM []
def impl_Point_less_lpsG {α : Type}  : List (LoopT α) := []
def impl_Point_less_lps {α : Type} : List (LoopT α) := impl_Point_less_lpsG
def impl_Point_less_XG {α : Type} (F0 : Nat → Int → Int → Int → Int → Int → (Int → Int → Option α) → Option α)  (n : Nat) : Ctx α := ⟨impl_Point_less_CG F0 n, impl_Point_less_M, eqs, lpOf (impl_Point_less_lpsG) n⟩
def impl_Point_less_X {α : Type} (n : Nat) : Ctx α := impl_Point_less_XG impl_Point_plus n
def impl_Point_less_Lt (np : Nat) (lent : List (Bool × Nat × Blk)) : Prop := np = 2 ∧ lent = []
def impl_Point_less_body {α : Type} (F0 : Nat → Int → Int → Int → Int → Int → (Int → Int → Option α) → Option α)  (k : Nat) (a : Int) (a1 : Int) (b_ : Int) (b_1 : Int) (r0 : Int → Int → Option α) : Option α :=
  F0 k a a1 b_ b_1 (-1) fun v v1 =>
  r0 v v1
theorem impl_Point_less_gen {α : Type} (F0 : Nat → Int → Int → Int → Int → Int → (Int → Int → Option α) → Option α)  (n : Nat) (a : Int) (a1 : Int) (b_ : Int) (b_1 : Int) (κ : Res → Option α) : evFn Try.prog (impl_Point_less_XG F0 n) Try.f233 (((buildDs impl_Point_less_sh [.int a, .int a1, .int b_, .int b_1]).map Prod.fst).getD []) κ = impl_Point_less_body F0 n a a1 b_ b_1 (fun v1 v2 => κ ⟨[.agg [.int .i64 v1, .int .i64 v2]], []⟩) := by kernel_rfl
theorem impl_Point_less_eq {α : Type} (n : Nat) (a : Int) (a1 : Int) (b_ : Int) (b_1 : Int) (r0 : Int → Int → Option α) : impl_Point_less_body impl_Point_plus n a a1 b_ b_1 r0 = impl_Point_less n a a1 b_ b_1 r0 := (impl_Point_less_body.eq_1 impl_Point_plus n a a1 b_ b_1 r0).trans (impl_Point_less.eq_1 n a a1 b_ b_1 r0).symm
theorem impl_Point_less_rn {α : Type} (F : Nat → Int → Int → Int → Int → (Int → Int → Option α) → Option α) (n : Nat) (a : Int) (a1 : Int) (b_ : Int) (b_1 : Int) (κ : Res → Option α) : impl_Point_less_runG F n [.int a, .int a1, .int b_, .int b_1] κ = F n a a1 b_ b_1 (fun v1 v2 => κ ⟨[.agg [.int .i64 v1, .int .i64 v2]], []⟩) := rfl
theorem impl_Point_less_ev {α : Type} (n : Nat) (a : Int) (a1 : Int) (b_ : Int) (b_1 : Int) (κ : Res → Option α) : evFn Try.prog (impl_Point_less_X n) Try.f233 (((buildDs impl_Point_less_sh [.int a, .int a1, .int b_, .int b_1]).map Prod.fst).getD []) κ = impl_Point_less_run n [.int a, .int a1, .int b_, .int b_1] κ := (impl_Point_less_gen impl_Point_plus n a a1 b_ b_1 κ).trans ((impl_Point_less_eq n a a1 b_ b_1 (fun v1 v2 => κ ⟨[.agg [.int .i64 v1, .int .i64 v2]], []⟩)).trans ((impl_Point_less_run.eq_1 n [.int a, .int a1, .int b_, .int b_1] κ).trans (impl_Point_less_rn impl_Point_less n a a1 b_ b_1 κ)).symm)
theorem impl_Point_less_en (a : Int) (a1 : Int) (b_ : Int) (b_1 : Int) : (entry 0 (((buildDs impl_Point_less_sh [.int a, .int a1, .int b_, .int b_1]).map Prod.fst).getD [])).map (fun x => (x.1.length, x.2.lent)) = some (2, []) := by kernel_rfl
theorem impl_Point_less_good {α : Type} : ∀ n, GoodFn (α := α) Try.prog 233 (byShape impl_Point_less_sh (impl_Point_less_run n)) := by
  refine fn_good' Try.func233 (c := (Try.f233.body.getD .skip)) (by kernel_rfl) (by kernel_rfl) (by kernel_rfl) impl_Point_less_C impl_Point_less_M eqs impl_Point_less_lps (fun n => tabC_good (List.forall_mem_cons.2 ⟨(impl_Point_plus_good n), (fun _ h => absurd h List.not_mem_nil)⟩)) eqs_ok impl_Point_less_Lt ?_ ?_ impl_Point_less_sh impl_Point_less_run ?_
  · exact (fun _ h => absurd h List.not_mem_nil)
  · exact (fun _ h => absurd h List.not_mem_nil)
  · intro n p κ r ds hd hr
    have hr0 := hr
    unfold impl_Point_less_run impl_Point_less_runG at hr
    split at hr
    · rw [← ds_of hd]
      exact ⟨en_of (impl_Point_less_en _ _ _ _) ⟨rfl, rfl⟩, (impl_Point_less_ev n _ _ _ _ κ).trans hr0⟩
    · cases hr

/-! loop.example/g01297/impl.det -/
def impl_det_sh : List SkD := [.agg [.int .i64, .int .i64], .agg [.int .i64, .int .i64]]
def impl_det_runG {α : Type} (F : Nat → Int → Int → Int → Int → (Int → Option α) → Option α) (n : Nat) (p : List P1) (κ : Res → Option α) : Option α := match p with
  | [.int a, .int a1, .int b_, .int b_1] => F n a a1 b_ b_1 (fun v1 => κ ⟨[.int .i64 v1], []⟩)
  | _ => none
def impl_det_run {α : Type} (n : Nat) (p : List P1) (κ : Res → Option α) : Option α := impl_det_runG impl_det n p κ
def impl_det_CG {α : Type}  (n : Nat) : FuncId → List D → (Res → Option α) → Option α := tabC []
def impl_det_C {α : Type} (n : Nat) : FuncId → List D → (Res → Option α) → Option α := impl_det_CG n
def impl_det_M : FuncId → List Nat := tabM []
def impl_det_lpsG {α : Type}  : List (LoopT α) := []
def impl_det_lps {α : Type} : List (LoopT α) := impl_det_lpsG
def impl_det_XG {α : Type}   (n : Nat) : Ctx α := ⟨impl_det_CG n, impl_det_M, eqs, lpOf (impl_det_lpsG) n⟩
def impl_det_X {α : Type} (n : Nat) : Ctx α := impl_det_XG n
def impl_det_Lt (np : Nat) (lent : List (Bool × Nat × Blk)) : Prop := np = 2 ∧ lent = []
def impl_det_body {α : Type}   (k : Nat) (a : Int) (a1 : Int) (b_ : Int) (b_1 : Int) (r0 : Int → Option α) : Option α :=
  r0 (w64 ((w64 (a * b_1)) - (w64 (a1 * b_))))
theorem impl_det_gen {α : Type}   (n : Nat) (a : Int) (a1 : Int) (b_ : Int) (b_1 : Int) (κ : Res → Option α) : evFn Try.prog (impl_det_XG n) Try.f167 (((buildDs impl_det_sh [.int a, .int a1, .int b_, .int b_1]).map Prod.fst).getD []) κ = impl_det_body n a a1 b_ b_1 (fun v1 => κ ⟨[.int .i64 v1], []⟩) := by kernel_rfl
theorem impl_det_eq {α : Type} (n : Nat) (a : Int) (a1 : Int) (b_ : Int) (b_1 : Int) (r0 : Int → Option α) : impl_det_body n a a1 b_ b_1 r0 = impl_det n a a1 b_ b_1 r0 := (impl_det_body.eq_1 n a a1 b_ b_1 r0).trans (impl_det.eq_1 n a a1 b_ b_1 r0).symm
theorem impl_det_rn {α : Type} (F : Nat → Int → Int → Int → Int → (Int → Option α) → Option α) (n : Nat) (a : Int) (a1 : Int) (b_ : Int) (b_1 : Int) (κ : Res → Option α) : impl_det_runG F n [.int a, .int a1, .int b_, .int b_1] κ = F n a a1 b_ b_1 (fun v1 => κ ⟨[.int .i64 v1], []⟩) := rfl
theorem impl_det_ev {α : Type} (n : Nat) (a : Int) (a1 : Int) (b_ : Int) (b_1 : Int) (κ : Res → Option α) : evFn Try.prog (impl_det_X n) Try.f167 (((buildDs impl_det_sh [.int a, .int a1, .int b_, .int b_1]).map Prod.fst).getD []) κ = impl_det_run n [.int a, .int a1, .int b_, .int b_1] κ := (impl_det_gen n a a1 b_ b_1 κ).trans ((impl_det_eq n a a1 b_ b_1 (fun v1 => κ ⟨[.int .i64 v1], []⟩)).trans ((impl_det_run.eq_1 n [.int a, .int a1, .int b_, .int b_1] κ).trans (impl_det_rn impl_det n a a1 b_ b_1 κ)).symm)
theorem impl_det_en (a : Int) (a1 : Int) (b_ : Int) (b_1 : Int) : (entry 0 (((buildDs impl_det_sh [.int a, .int a1, .int b_, .int b_1]).map Prod.fst).getD [])).map (fun x => (x.1.length, x.2.lent)) = some (2, []) := by kernel_rfl
theorem impl_det_good {α : Type} : ∀ n, GoodFn (α := α) Try.prog 167 (byShape impl_det_sh (impl_det_run n)) := by
  refine fn_good' Try.func167 (c := (Try.f167.body.getD .skip)) (by kernel_rfl) (by kernel_rfl) (by kernel_rfl) impl_det_C impl_det_M eqs impl_det_lps (fun n => tabC_good (fun _ h => absurd h List.not_mem_nil)) eqs_ok impl_det_Lt ?_ ?_ impl_det_sh impl_det_run ?_
  · exact (fun _ h => absurd h List.not_mem_nil)
  · exact (fun _ h => absurd h List.not_mem_nil)
  · intro n p κ r ds hd hr
    have hr0 := hr
    unfold impl_det_run impl_det_runG at hr
    split at hr
    · rw [← ds_of hd]
      exact ⟨en_of (impl_det_en _ _ _ _) ⟨rfl, rfl⟩, (impl_det_ev n _ _ _ _ κ).trans hr0⟩
    · cases hr

/-! loop.example/g01297/impl.size -/
def impl_size_sh : List SkD := [.int .i64]
def impl_size_runG {α : Type} (F : Nat → Int → (Int → Option α) → Option α) (n : Nat) (p : List P1) (κ : Res → Option α) : Option α := match p with
  | [.int n_] => F n n_ (fun v1 => κ ⟨[.int .i64 v1], []⟩)
  | _ => none
def impl_size_run {α : Type} (n : Nat) (p : List P1) (κ : Res → Option α) : Option α := impl_size_runG impl_size n p κ
def impl_size_CG {α : Type}  (n : Nat) : FuncId → List D → (Res → Option α) → Option α := tabC []
def impl_size_C {α : Type} (n : Nat) : FuncId → List D → (Res → Option α) → Option α := impl_size_CG n
def impl_size_M : FuncId → List Nat := tabM []
def impl_size_lpsG {α : Type}  : List (LoopT α) := []
def impl_size_lps {α : Type} : List (LoopT α) := impl_size_lpsG
def impl_size_XG {α : Type}   (n : Nat) : Ctx α := ⟨impl_size_CG n, impl_size_M, eqs, lpOf (impl_size_lpsG) n⟩
def impl_size_X {α : Type} (n : Nat) : Ctx α := impl_size_XG n
def impl_size_Lt (np : Nat) (lent : List (Bool × Nat × Blk)) : Prop := np = 1 ∧ lent = []
def impl_size_body {α : Type}   (k : Nat) (n_ : Int) (r0 : Int → Option α) : Option α :=
  r0 (max n_ (w64 (0 - n_)))
theorem impl_size_gen {α : Type}   (n : Nat) (n_ : Int) (κ : Res → Option α) : evFn Try.prog (impl_size_XG n) Try.f266 (((buildDs impl_size_sh [.int n_]).map Prod.fst).getD []) κ = impl_size_body n n_ (fun v1 => κ ⟨[.int .i64 v1], []⟩) := by kernel_rfl
theorem impl_size_eq {α : Type} (n : Nat) (n_ : Int) (r0 : Int → Option α) : impl_size_body n n_ r0 = impl_size n n_ r0 := (impl_size_body.eq_1 n n_ r0).trans (impl_size.eq_1 n n_ r0).symm
theorem impl_size_rn {α : Type} (F : Nat → Int → (Int → Option α) → Option α) (n : Nat) (n_ : Int) (κ : Res → Option α) : impl_size_runG F n [.int n_] κ = F n n_ (fun v1 => κ ⟨[.int .i64 v1], []⟩) := rfl
theorem impl_size_ev {α : Type} (n : Nat) (n_ : Int) (κ : Res → Option α) : evFn Try.prog (impl_size_X n) Try.f266 (((buildDs impl_size_sh [.int n_]).map Prod.fst).getD []) κ = impl_size_run n [.int n_] κ := (impl_size_gen n n_ κ).trans ((impl_size_eq n n_ (fun v1 => κ ⟨[.int .i64 v1], []⟩)).trans ((impl_size_run.eq_1 n [.int n_] κ).trans (impl_size_rn impl_size n n_ κ)).symm)
theorem impl_size_en (n_ : Int) : (entry 0 (((buildDs impl_size_sh [.int n_]).map Prod.fst).getD [])).map (fun x => (x.1.length, x.2.lent)) = some (1, []) := by kernel_rfl
theorem impl_size_good {α : Type} : ∀ n, GoodFn (α := α) Try.prog 266 (byShape impl_size_sh (impl_size_run n)) := by
  refine fn_good' Try.func266 (c := (Try.f266.body.getD .skip)) (by kernel_rfl) (by kernel_rfl) (by kernel_rfl) impl_size_C impl_size_M eqs impl_size_lps (fun n => tabC_good (fun _ h => absurd h List.not_mem_nil)) eqs_ok impl_size_Lt ?_ ?_ impl_size_sh impl_size_run ?_
  · exact (fun _ h => absurd h List.not_mem_nil)
  · exact (fun _ h => absurd h List.not_mem_nil)
  · intro n p κ r ds hd hr
    have hr0 := hr
    unfold impl_size_run impl_size_runG at hr
    split at hr
    · rw [← ds_of hd]
      exact ⟨en_of (impl_size_en _) ⟨rfl, rfl⟩, (impl_size_ev n _ κ).trans hr0⟩
    · cases hr

/-! loop.example/g01297/impl.area -/
def impl_area_sh : List SkD := [.agg [.int .i64, .int .i64], .agg [.int .i64, .int .i64], .agg [.int .i64, .int .i64]]
def impl_area_runG {α : Type} (F : Nat → Int → Int → Int → Int → Int → Int → (Int → Option α) → Option α) (n : Nat) (p : List P1) (κ : Res → Option α) : Option α := match p with
  | [.int a, .int a1, .int b_, .int b_1, .int c, .int c1] => F n a a1 b_ b_1 c c1 (fun v1 => κ ⟨[.int .i64 v1], []⟩)
  | _ => none
def impl_area_run {α : Type} (n : Nat) (p : List P1) (κ : Res → Option α) : Option α := impl_area_runG impl_area n p κ
def impl_area_CG {α : Type} (F0 : Nat → Int → Int → Int → Int → (Int → Int → Option α) → Option α) (F1 : Nat → Int → Int → Int → Int → (Int → Option α) → Option α) (F2 : Nat → Int → (Int → Option α) → Option α) (n : Nat) : FuncId → List D → (Res → Option α) → Option α := tabC [(233, (byShape impl_Point_less_sh (impl_Point_less_runG F0 n))), (167, (byShape impl_det_sh (impl_det_runG F1 n))), (266, (byShape impl_size_sh (impl_size_runG F2 n)))]
def impl_area_C {α : Type} (n : Nat) : FuncId → List D → (Res → Option α) → Option α := impl_area_CG impl_Point_less impl_det impl_size n
def impl_area_M : FuncId → List Nat := tabM []
def impl_area_lpsG {α : Type}  : List (LoopT α) := []
def impl_area_lps {α : Type} : List (LoopT α) := impl_area_lpsG
def impl_area_XG {α : Type} (F0 : Nat → Int → Int → Int → Int → (Int → Int → Option α) → Option α) (F1 : Nat → Int → Int → Int → Int → (Int → Option α) → Option α) (F2 : Nat → Int → (Int → Option α) → Option α)  (n : Nat) : Ctx α := ⟨impl_area_CG F0 F1 F2 n, impl_area_M, eqs, lpOf (impl_area_lpsG) n⟩
def impl_area_X {α : Type} (n : Nat) : Ctx α := impl_area_XG impl_Point_less impl_det impl_size n
def impl_area_Lt (np : Nat) (lent : List (Bool × Nat × Blk)) : Prop := np = 3 ∧ lent = []
def impl_area_body {α : Type} (F0 : Nat → Int → Int → Int → Int → (Int → Int → Option α) → Option α) (F1 : Nat → Int → Int → Int → Int → (Int → Option α) → Option α) (F2 : Nat → Int → (Int → Option α) → Option α)  (k : Nat) (a : Int) (a1 : Int) (b_ : Int) (b_1 : Int) (c : Int) (c1 : Int) (r0 : Int → Option α) : Option α :=
  F0 k b_ b_1 a a1 fun v v1 =>
  F0 k c c1 a a1 fun v2 v3 =>
  F1 k v v1 v2 v3 fun v4 =>
  F2 k v4 fun v5 =>
  r0 v5
theorem impl_area_gen {α : Type} (F0 : Nat → Int → Int → Int → Int → (Int → Int → Option α) → Option α) (F1 : Nat → Int → Int → Int → Int → (Int → Option α) → Option α) (F2 : Nat → Int → (Int → Option α) → Option α)  (n : Nat) (a : Int) (a1 : Int) (b_ : Int) (b_1 : Int) (c : Int) (c1 : Int) (κ : Res → Option α) : evFn Try.prog (impl_area_XG F0 F1 F2 n) Try.f205 (((buildDs impl_area_sh [.int a, .int a1, .int b_, .int b_1, .int c, .int c1]).map Prod.fst).getD []) κ = impl_area_body F0 F1 F2 n a a1 b_ b_1 c c1 (fun v1 => κ ⟨[.int .i64 v1], []⟩) := by kernel_rfl
theorem impl_area_eq {α : Type} (n : Nat) (a : Int) (a1 : Int) (b_ : Int) (b_1 : Int) (c : Int) (c1 : Int) (r0 : Int → Option α) : impl_area_body impl_Point_less impl_det impl_size n a a1 b_ b_1 c c1 r0 = impl_area n a a1 b_ b_1 c c1 r0 := (impl_area_body.eq_1 impl_Point_less impl_det impl_size n a a1 b_ b_1 c c1 r0).trans (impl_area.eq_1 n a a1 b_ b_1 c c1 r0).symm
theorem impl_area_rn {α : Type} (F : Nat → Int → Int → Int → Int → Int → Int → (Int → Option α) → Option α) (n : Nat) (a : Int) (a1 : Int) (b_ : Int) (b_1 : Int) (c : Int) (c1 : Int) (κ : Res → Option α) : impl_area_runG F n [.int a, .int a1, .int b_, .int b_1, .int c, .int c1] κ = F n a a1 b_ b_1 c c1 (fun v1 => κ ⟨[.int .i64 v1], []⟩) := rfl
theorem impl_area_ev {α : Type} (n : Nat) (a : Int) (a1 : Int) (b_ : Int) (b_1 : Int) (c : Int) (c1 : Int) (κ : Res → Option α) : evFn Try.prog (impl_area_X n) Try.f205 (((buildDs impl_area_sh [.int a, .int a1, .int b_, .int b_1, .int c, .int c1]).map Prod.fst).getD []) κ = impl_area_run n [.int a, .int a1, .int b_, .int b_1, .int c, .int c1] κ := (impl_area_gen impl_Point_less impl_det impl_size n a a1 b_ b_1 c c1 κ).trans ((impl_area_eq n a a1 b_ b_1 c c1 (fun v1 => κ ⟨[.int .i64 v1], []⟩)).trans ((impl_area_run.eq_1 n [.int a, .int a1, .int b_, .int b_1, .int c, .int c1] κ).trans (impl_area_rn impl_area n a a1 b_ b_1 c c1 κ)).symm)
theorem impl_area_en (a : Int) (a1 : Int) (b_ : Int) (b_1 : Int) (c : Int) (c1 : Int) : (entry 0 (((buildDs impl_area_sh [.int a, .int a1, .int b_, .int b_1, .int c, .int c1]).map Prod.fst).getD [])).map (fun x => (x.1.length, x.2.lent)) = some (3, []) := by kernel_rfl
theorem impl_area_good {α : Type} : ∀ n, GoodFn (α := α) Try.prog 205 (byShape impl_area_sh (impl_area_run n)) := by
  refine fn_good' Try.func205 (c := (Try.f205.body.getD .skip)) (by kernel_rfl) (by kernel_rfl) (by kernel_rfl) impl_area_C impl_area_M eqs impl_area_lps (fun n => tabC_good (List.forall_mem_cons.2 ⟨(impl_Point_less_good n), (List.forall_mem_cons.2 ⟨(impl_det_good n), (List.forall_mem_cons.2 ⟨(impl_size_good n), (fun _ h => absurd h List.not_mem_nil)⟩)⟩)⟩)) eqs_ok impl_area_Lt ?_ ?_ impl_area_sh impl_area_run ?_
  · exact (fun _ h => absurd h List.not_mem_nil)
  · exact (fun _ h => absurd h List.not_mem_nil)
  · intro n p κ r ds hd hr
    have hr0 := hr
    unfold impl_area_run impl_area_runG at hr
    split at hr
    · rw [← ds_of hd]
      exact ⟨en_of (impl_area_en _ _ _ _ _ _) ⟨rfl, rfl⟩, (impl_area_ev n _ _ _ _ _ _ κ).trans hr0⟩
    · cases hr

/-! loop.example/g01297/impl.IsTriangle -/
def impl_IsTriangle_sh : List SkD := [.agg [.int .i64, .int .i64, .int .i64, .int .i64, .int .i64, .int .i64]]
def impl_IsTriangle_runG {α : Type} (F : Nat → Int → Int → Int → Int → Int → Int → (Bool → Option α) → Option α) (n : Nat) (p : List P1) (κ : Res → Option α) : Option α := match p with
  | [.int t, .int t1, .int t2, .int t3, .int t4, .int t5] => F n t t1 t2 t3 t4 t5 (fun v1 => κ ⟨[.bool v1], []⟩)
  | _ => none
def impl_IsTriangle_run {α : Type} (n : Nat) (p : List P1) (κ : Res → Option α) : Option α := impl_IsTriangle_runG impl_IsTriangle n p κ
def impl_IsTriangle_CG {α : Type} (F0 : Nat → Int → Int → (Bool → Option α) → Option α) (F1 : Nat → Int → Int → Int → Int → Int → Int → (Int → Option α) → Option α) (n : Nat) : FuncId → List D → (Res → Option α) → Option α := tabC [(204, (byShape impl_small_sh (impl_small_runG F0 n))), (205, (byShape impl_area_sh (impl_area_runG F1 n)))]
def impl_IsTriangle_C {α : Type} (n : Nat) : FuncId → List D → (Res → Option α) → Option α := impl_IsTriangle_CG impl_small impl_area n
def impl_IsTriangle_M : FuncId → List Nat := tabM []
def impl_IsTriangle_lpsG {α : Type}  : List (LoopT α) := []
def impl_IsTriangle_lps {α : Type} : List (LoopT α) := impl_IsTriangle_lpsG
def impl_IsTriangle_XG {α : Type} (F0 : Nat → Int → Int → (Bool → Option α) → Option α) (F1 : Nat → Int → Int → Int → Int → Int → Int → (Int → Option α) → Option α)  (n : Nat) : Ctx α := ⟨impl_IsTriangle_CG F0 F1 n, impl_IsTriangle_M, eqs, lpOf (impl_IsTriangle_lpsG) n⟩
def impl_IsTriangle_X {α : Type} (n : Nat) : Ctx α := impl_IsTriangle_XG impl_small impl_area n
def impl_IsTriangle_Lt (np : Nat) (lent : List (Bool × Nat × Blk)) : Prop := np = 1 ∧ lent = []
def impl_IsTriangle_body {α : Type} (F0 : Nat → Int → Int → (Bool → Option α) → Option α) (F1 : Nat → Int → Int → Int → Int → Int → Int → (Int → Option α) → Option α)  (k : Nat) (t : Int) (t1 : Int) (t2 : Int) (t3 : Int) (t4 : Int) (t5 : Int) (r0 : Bool → Option α) : Option α :=
  F0 k t t1 fun v =>
  bif v then
    F0 k t2 t3 fun v1 =>
    bif v1 then
      F0 k t4 t5 fun v2 =>
      bif v2 then
        F1 k t t1 t2 t3 t4 t5 fun v3 =>
        r0 (!decide (v3 = 0))
      else
        r0 false
    else
      r0 false
  else
    r0 false
theorem impl_IsTriangle_gen {α : Type} (F0 : Nat → Int → Int → (Bool → Option α) → Option α) (F1 : Nat → Int → Int → Int → Int → Int → Int → (Int → Option α) → Option α)  (n : Nat) (t : Int) (t1 : Int) (t2 : Int) (t3 : Int) (t4 : Int) (t5 : Int) (κ : Res → Option α) : evFn Try.prog (impl_IsTriangle_XG F0 F1 n) Try.f69 (((buildDs impl_IsTriangle_sh [.int t, .int t1, .int t2, .int t3, .int t4, .int t5]).map Prod.fst).getD []) κ = impl_IsTriangle_body F0 F1 n t t1 t2 t3 t4 t5 (fun v1 => κ ⟨[.bool v1], []⟩) := by kernel_rfl
theorem impl_IsTriangle_eq {α : Type} (n : Nat) (t : Int) (t1 : Int) (t2 : Int) (t3 : Int) (t4 : Int) (t5 : Int) (r0 : Bool → Option α) : impl_IsTriangle_body impl_small impl_area n t t1 t2 t3 t4 t5 r0 = impl_IsTriangle n t t1 t2 t3 t4 t5 r0 := (impl_IsTriangle_body.eq_1 impl_small impl_area n t t1 t2 t3 t4 t5 r0).trans (impl_IsTriangle.eq_1 n t t1 t2 t3 t4 t5 r0).symm
theorem impl_IsTriangle_rn {α : Type} (F : Nat → Int → Int → Int → Int → Int → Int → (Bool → Option α) → Option α) (n : Nat) (t : Int) (t1 : Int) (t2 : Int) (t3 : Int) (t4 : Int) (t5 : Int) (κ : Res → Option α) : impl_IsTriangle_runG F n [.int t, .int t1, .int t2, .int t3, .int t4, .int t5] κ = F n t t1 t2 t3 t4 t5 (fun v1 => κ ⟨[.bool v1], []⟩) := rfl
theorem impl_IsTriangle_ev {α : Type} (n : Nat) (t : Int) (t1 : Int) (t2 : Int) (t3 : Int) (t4 : Int) (t5 : Int) (κ : Res → Option α) : evFn Try.prog (impl_IsTriangle_X n) Try.f69 (((buildDs impl_IsTriangle_sh [.int t, .int t1, .int t2, .int t3, .int t4, .int t5]).map Prod.fst).getD []) κ = impl_IsTriangle_run n [.int t, .int t1, .int t2, .int t3, .int t4, .int t5] κ := (impl_IsTriangle_gen impl_small impl_area n t t1 t2 t3 t4 t5 κ).trans ((impl_IsTriangle_eq n t t1 t2 t3 t4 t5 (fun v1 => κ ⟨[.bool v1], []⟩)).trans ((impl_IsTriangle_run.eq_1 n [.int t, .int t1, .int t2, .int t3, .int t4, .int t5] κ).trans (impl_IsTriangle_rn impl_IsTriangle n t t1 t2 t3 t4 t5 κ)).symm)
theorem impl_IsTriangle_en (t : Int) (t1 : Int) (t2 : Int) (t3 : Int) (t4 : Int) (t5 : Int) : (entry 0 (((buildDs impl_IsTriangle_sh [.int t, .int t1, .int t2, .int t3, .int t4, .int t5]).map Prod.fst).getD [])).map (fun x => (x.1.length, x.2.lent)) = some (1, []) := by kernel_rfl
theorem impl_IsTriangle_good {α : Type} : ∀ n, GoodFn (α := α) Try.prog 69 (byShape impl_IsTriangle_sh (impl_IsTriangle_run n)) := by
  refine fn_good' Try.func69 (c := (Try.f69.body.getD .skip)) (by kernel_rfl) (by kernel_rfl) (by kernel_rfl) impl_IsTriangle_C impl_IsTriangle_M eqs impl_IsTriangle_lps (fun n => tabC_good (List.forall_mem_cons.2 ⟨(impl_small_good n), (List.forall_mem_cons.2 ⟨(impl_area_good n), (fun _ h => absurd h List.not_mem_nil)⟩)⟩)) eqs_ok impl_IsTriangle_Lt ?_ ?_ impl_IsTriangle_sh impl_IsTriangle_run ?_
  · exact (fun _ h => absurd h List.not_mem_nil)
  · exact (fun _ h => absurd h List.not_mem_nil)
  · intro n p κ r ds hd hr
    have hr0 := hr
    unfold impl_IsTriangle_run impl_IsTriangle_runG at hr
    split at hr
    · rw [← ds_of hd]
      exact ⟨en_of (impl_IsTriangle_en _ _ _ _ _ _) ⟨rfl, rfl⟩, (impl_IsTriangle_ev n _ _ _ _ _ _ κ).trans hr0⟩
    · cases hr

/-! (loop.example/g01297/impl.Triangle).side -/
def impl_Triangle_side_sh : List SkD := [.agg [.int .i64, .int .i64, .int .i64, .int .i64, .int .i64, .int .i64], .int .i64, .int .i64]
def impl_Triangle_side_runG {α : Type} (F : Nat → Int → Int → Int → Int → Int → Int → Int → Int → (Int → Int → Option α) → Option α) (n : Nat) (p : List P1) (κ : Res → Option α) : Option α := match p with
  | [.int t, .int t1, .int t2, .int t3, .int t4, .int t5, .int i, .int k_] => F n t t1 t2 t3 t4 t5 i k_ (fun v1 v2 => κ ⟨[.agg [.int .i64 v1, .int .i64 v2]], []⟩)
  | _ => none
def impl_Triangle_side_run {α : Type} (n : Nat) (p : List P1) (κ : Res → Option α) : Option α := impl_Triangle_side_runG impl_Triangle_side n p κ
def impl_Triangle_side_CG {α : Type} (F0 : Nat → Int → Int → Int → Int → (Int → Int → Option α) → Option α) (n : Nat) : FuncId → List D → (Res → Option α) → Option α := tabC [(233, (byShape impl_Point_less_sh (impl_Point_less_runG F0 n)))]
def impl_Triangle_side_C {α : Type} (n : Nat) : FuncId → List D → (Res → Option α) → Option α := impl_Triangle_side_CG impl_Point_less n
def impl_Triangle_side_M : FuncId → List Nat := tabM []
def impl_Triangle_side_lpsG {α : Type}  : List (LoopT α) := []
def impl_Triangle_side_lps {α : Type} : List (LoopT α) := impl_Triangle_side_lpsG
def impl_Triangle_side_XG {α : Type} (F0 : Nat → Int → Int → Int → Int → (Int → Int → Option α) → Option α)  (n : Nat) : Ctx α := ⟨impl_Triangle_side_CG F0 n, impl_Triangle_side_M, eqs, lpOf (impl_Triangle_side_lpsG) n⟩
def impl_Triangle_side_X {α : Type} (n : Nat) : Ctx α := impl_Triangle_side_XG impl_Point_less n
def impl_Triangle_side_Lt (np : Nat) (lent : List (Bool × Nat × Blk)) : Prop := np = 3 ∧ lent = []
def impl_Triangle_side_body {α : Type} (F0 : Nat → Int → Int → Int → Int → (Int → Int → Option α) → Option α)  (k : Nat) (t : Int) (t1 : Int) (t2 : Int) (t3 : Int) (t4 : Int) (t5 : Int) (i : Int) (k_ : Int) (r0 : Int → Int → Option α) : Option α :=
  bif (decide (0 ≤ k_) && decide (k_ < 3)) then
    ([t, t1, t2, t3, t4, t5][(k_.toNat * 2)]?).bind fun e_ =>
    ([t, t1, t2, t3, t4, t5][((k_.toNat * 2) + 1)]?).bind fun e_1 =>
    bif (decide (0 ≤ i) && decide (i < 3)) then
      ([t, t1, t2, t3, t4, t5][(i.toNat * 2)]?).bind fun e_2 =>
      ([t, t1, t2, t3, t4, t5][((i.toNat * 2) + 1)]?).bind fun e_3 =>
      F0 k e_ e_1 e_2 e_3 fun v v1 =>
      r0 v v1
    else
      none
  else
    none
theorem impl_Triangle_side_gen {α : Type} (F0 : Nat → Int → Int → Int → Int → (Int → Int → Option α) → Option α)  (n : Nat) (t : Int) (t1 : Int) (t2 : Int) (t3 : Int) (t4 : Int) (t5 : Int) (i : Int) (k_ : Int) (κ : Res → Option α) : evFn Try.prog (impl_Triangle_side_XG F0 n) Try.f295 (((buildDs impl_Triangle_side_sh [.int t, .int t1, .int t2, .int t3, .int t4, .int t5, .int i, .int k_]).map Prod.fst).getD []) κ = impl_Triangle_side_body F0 n t t1 t2 t3 t4 t5 i k_ (fun v1 v2 => κ ⟨[.agg [.int .i64 v1, .int .i64 v2]], []⟩) := by kernel_rfl
theorem impl_Triangle_side_eq {α : Type} (n : Nat) (t : Int) (t1 : Int) (t2 : Int) (t3 : Int) (t4 : Int) (t5 : Int) (i : Int) (k_ : Int) (r0 : Int → Int → Option α) : impl_Triangle_side_body impl_Point_less n t t1 t2 t3 t4 t5 i k_ r0 = impl_Triangle_side n t t1 t2 t3 t4 t5 i k_ r0 := (impl_Triangle_side_body.eq_1 impl_Point_less n t t1 t2 t3 t4 t5 i k_ r0).trans (impl_Triangle_side.eq_1 n t t1 t2 t3 t4 t5 i k_ r0).symm
theorem impl_Triangle_side_rn {α : Type} (F : Nat → Int → Int → Int → Int → Int → Int → Int → Int → (Int → Int → Option α) → Option α) (n : Nat) (t : Int) (t1 : Int) (t2 : Int) (t3 : Int) (t4 : Int) (t5 : Int) (i : Int) (k_ : Int) (κ : Res → Option α) : impl_Triangle_side_runG F n [.int t, .int t1, .int t2, .int t3, .int t4, .int t5, .int i, .int k_] κ = F n t t1 t2 t3 t4 t5 i k_ (fun v1 v2 => κ ⟨[.agg [.int .i64 v1, .int .i64 v2]], []⟩) := rfl
theorem impl_Triangle_side_ev {α : Type} (n : Nat) (t : Int) (t1 : Int) (t2 : Int) (t3 : Int) (t4 : Int) (t5 : Int) (i : Int) (k_ : Int) (κ : Res → Option α) : evFn Try.prog (impl_Triangle_side_X n) Try.f295 (((buildDs impl_Triangle_side_sh [.int t, .int t1, .int t2, .int t3, .int t4, .int t5, .int i, .int k_]).map Prod.fst).getD []) κ = impl_Triangle_side_run n [.int t, .int t1, .int t2, .int t3, .int t4, .int t5, .int i, .int k_] κ := (impl_Triangle_side_gen impl_Point_less n t t1 t2 t3 t4 t5 i k_ κ).trans ((impl_Triangle_side_eq n t t1 t2 t3 t4 t5 i k_ (fun v1 v2 => κ ⟨[.agg [.int .i64 v1, .int .i64 v2]], []⟩)).trans ((impl_Triangle_side_run.eq_1 n [.int t, .int t1, .int t2, .int t3, .int t4, .int t5, .int i, .int k_] κ).trans (impl_Triangle_side_rn impl_Triangle_side n t t1 t2 t3 t4 t5 i k_ κ)).symm)
theorem impl_Triangle_side_en (t : Int) (t1 : Int) (t2 : Int) (t3 : Int) (t4 : Int) (t5 : Int) (i : Int) (k_ : Int) : (entry 0 (((buildDs impl_Triangle_side_sh [.int t, .int t1, .int t2, .int t3, .int t4, .int t5, .int i, .int k_]).map Prod.fst).getD [])).map (fun x => (x.1.length, x.2.lent)) = some (3, []) := by kernel_rfl
theorem impl_Triangle_side_good {α : Type} : ∀ n, GoodFn (α := α) Try.prog 295 (byShape impl_Triangle_side_sh (impl_Triangle_side_run n)) := by
  refine fn_good' Try.func295 (c := (Try.f295.body.getD .skip)) (by kernel_rfl) (by kernel_rfl) (by kernel_rfl) impl_Triangle_side_C impl_Triangle_side_M eqs impl_Triangle_side_lps (fun n => tabC_good (List.forall_mem_cons.2 ⟨(impl_Point_less_good n), (fun _ h => absurd h List.not_mem_nil)⟩)) eqs_ok impl_Triangle_side_Lt ?_ ?_ impl_Triangle_side_sh impl_Triangle_side_run ?_
  · exact (fun _ h => absurd h List.not_mem_nil)
  · exact (fun _ h => absurd h List.not_mem_nil)
  · intro n p κ r ds hd hr
    have hr0 := hr
    unfold impl_Triangle_side_run impl_Triangle_side_runG at hr
    split at hr
    · rw [← ds_of hd]
      exact ⟨en_of (impl_Triangle_side_en _ _ _ _ _ _ _ _) ⟨rfl, rfl⟩, (impl_Triangle_side_ev n _ _ _ _ _ _ _ _ κ).trans hr0⟩
    · cases hr

end Go.Proofs.Ytjekmhinmcniaaa
