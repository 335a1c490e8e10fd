/- The program's functions hold to their readings without memory: printed by a program of ours. -/
import Derived.Test.YtmaclfmobhhclaaSeXSinesOf
namespace Go.Proofs.Ytmaclfmobhhclaa
open Go Go.Ev Go.Sh Go.Proofs

/-! loop.example/g01297/laws.toPoint -/
def laws_toPoint_sh : List SkD := [.agg [.int .i64, .int .i64]]
def laws_toPoint_runG {α : Type} (F : Nat → Int → Int → (Int → Int → Option α) → Option α) (n : Nat) (p : List P1) (κ : Res → Option α) : Option α := match p with
  | [.int a, .int a1] => F n a a1 (fun v1 v2 => κ ⟨[.agg [.int .i64 v1, .int .i64 v2]], []⟩)
  | _ => none
def laws_toPoint_run {α : Type} (n : Nat) (p : List P1) (κ : Res → Option α) : Option α := laws_toPoint_runG laws_toPoint n p κ
def laws_toPoint_CG {α : Type}  (n : Nat) : FuncId → List D → (Res → Option α) → Option α := tabC []
def laws_toPoint_C {α : Type} (n : Nat) : FuncId → List D → (Res → Option α) → Option α := laws_toPoint_CG n
def laws_toPoint_M : FuncId → List Nat := tabM []
def laws_toPoint_lpsG {α : Type}  : List (LoopT α) := []
def laws_toPoint_lps {α : Type} : List (LoopT α) := laws_toPoint_lpsG
def laws_toPoint_XG {α : Type}   (n : Nat) : Ctx α := ⟨laws_toPoint_CG n, laws_toPoint_M, eqs, lpOf (laws_toPoint_lpsG) n⟩
def laws_toPoint_X {α : Type} (n : Nat) : Ctx α := laws_toPoint_XG n
def laws_toPoint_Lt (np : Nat) (lent : List (Bool × Nat × Blk)) : Prop := np = 1 ∧ lent = []
def laws_toPoint_body {α : Type}   (k : Nat) (a : Int) (a1 : Int) (r0 : Int → Int → Option α) : Option α :=
  r0 a a1
theorem laws_toPoint_gen {α : Type}   (n : Nat) (a : Int) (a1 : Int) (κ : Res → Option α) : evFn Try.prog (laws_toPoint_XG n) Try.f13 (((buildDs laws_toPoint_sh [.int a, .int a1]).map Prod.fst).getD []) κ = laws_toPoint_body n a a1 (fun v1 v2 => κ ⟨[.agg [.int .i64 v1, .int .i64 v2]], []⟩) := by kernel_rfl
theorem laws_toPoint_eq {α : Type} (n : Nat) (a : Int) (a1 : Int) (r0 : Int → Int → Option α) : laws_toPoint_body n a a1 r0 = laws_toPoint n a a1 r0 := (laws_toPoint_body.eq_1 n a a1 r0).trans (laws_toPoint.eq_1 n a a1 r0).symm
theorem laws_toPoint_rn {α : Type} (F : Nat → Int → Int → (Int → Int → Option α) → Option α) (n : Nat) (a : Int) (a1 : Int) (κ : Res → Option α) : laws_toPoint_runG F n [.int a, .int a1] κ = F n a a1 (fun v1 v2 => κ ⟨[.agg [.int .i64 v1, .int .i64 v2]], []⟩) := rfl
theorem laws_toPoint_ev {α : Type} (n : Nat) (a : Int) (a1 : Int) (κ : Res → Option α) : evFn Try.prog (laws_toPoint_X n) Try.f13 (((buildDs laws_toPoint_sh [.int a, .int a1]).map Prod.fst).getD []) κ = laws_toPoint_run n [.int a, .int a1] κ := (laws_toPoint_gen n a a1 κ).trans ((laws_toPoint_eq n a a1 (fun v1 v2 => κ ⟨[.agg [.int .i64 v1, .int .i64 v2]], []⟩)).trans ((laws_toPoint_run.eq_1 n [.int a, .int a1] κ).trans (laws_toPoint_rn laws_toPoint n a a1 κ)).symm)
theorem laws_toPoint_en (a : Int) (a1 : Int) : (entry 0 (((buildDs laws_toPoint_sh [.int a, .int a1]).map Prod.fst).getD [])).map (fun x => (x.1.length, x.2.lent)) = some (1, []) := by kernel_rfl
theorem laws_toPoint_good {α : Type} : ∀ n, GoodFn (α := α) Try.prog 13 (byShape laws_toPoint_sh (laws_toPoint_run n)) := by
  refine fn_good' Try.func13 (c := (Try.f13.body.getD .skip)) (by kernel_rfl) (by kernel_rfl) (by kernel_rfl) laws_toPoint_C laws_toPoint_M eqs laws_toPoint_lps (fun n => tabC_good (fun _ h => absurd h List.not_mem_nil)) eqs_ok laws_toPoint_Lt ?_ ?_ laws_toPoint_sh laws_toPoint_run ?_
  · exact (fun _ h => absurd h List.not_mem_nil)
  · exact (fun _ h => absurd h List.not_mem_nil)
  · intro n p κ r ds hd hr
    have hr0 := hr
    unfold laws_toPoint_run laws_toPoint_runG at hr
    split at hr
    · rw [← ds_of hd]
      exact ⟨en_of (laws_toPoint_en _ _) ⟨rfl, rfl⟩, (laws_toPoint_ev n _ _ κ).trans hr0⟩
    · cases hr

/-! loop.example/g01297/laws.toTriangle -/
def laws_toTriangle_sh : List SkD := [.agg [.int .i64, .int .i64, .int .i64, .int .i64, .int .i64, .int .i64]]
def laws_toTriangle_runG {α : Type} (F : Nat → Int → Int → Int → Int → Int → Int → (Int → Int → Int → Int → Int → Int → Option α) → Option α) (n : Nat) (p : List P1) (κ : Res → Option α) : Option α := match p with
  | [.int a, .int a1, .int a2, .int a3, .int a4, .int a5] => F n a a1 a2 a3 a4 a5 (fun v1 v2 v3 v4 v5 v6 => κ ⟨[.agg [.int .i64 v1, .int .i64 v2, .int .i64 v3, .int .i64 v4, .int .i64 v5, .int .i64 v6]], []⟩)
  | _ => none
def laws_toTriangle_run {α : Type} (n : Nat) (p : List P1) (κ : Res → Option α) : Option α := laws_toTriangle_runG laws_toTriangle n p κ
def laws_toTriangle_CG {α : Type} (F0 : Nat → Int → Int → (Int → Int → Option α) → Option α) (n : Nat) : FuncId → List D → (Res → Option α) → Option α := tabC [(13, (byShape laws_toPoint_sh (laws_toPoint_runG F0 n)))]
def laws_toTriangle_C {α : Type} (n : Nat) : FuncId → List D → (Res → Option α) → Option α := laws_toTriangle_CG laws_toPoint n
def laws_toTriangle_M : FuncId → List Nat := tabM []
def laws_toTriangle_lpsG {α : Type}  : List (LoopT α) := []
def laws_toTriangle_lps {α : Type} : List (LoopT α) := laws_toTriangle_lpsG
def laws_toTriangle_XG {α : Type} (F0 : Nat → Int → Int → (Int → Int → Option α) → Option α)  (n : Nat) : Ctx α := ⟨laws_toTriangle_CG F0 n, laws_toTriangle_M, eqs, lpOf (laws_toTriangle_lpsG) n⟩
def laws_toTriangle_X {α : Type} (n : Nat) : Ctx α := laws_toTriangle_XG laws_toPoint n
def laws_toTriangle_Lt (np : Nat) (lent : List (Bool × Nat × Blk)) : Prop := np = 1 ∧ lent = []
def laws_toTriangle_body {α : Type} (F0 : Nat → Int → Int → (Int → Int → Option α) → Option α)  (k : Nat) (a : Int) (a1 : Int) (a2 : Int) (a3 : Int) (a4 : Int) (a5 : Int) (r0 : Int → Int → Int → Int → Int → Int → Option α) : Option α :=
  F0 k a a1 fun v v1 =>
  F0 k a2 a3 fun v2 v3 =>
  F0 k a4 a5 fun v4 v5 =>
  r0 v v1 v2 v3 v4 v5
theorem laws_toTriangle_gen {α : Type} (F0 : Nat → Int → Int → (Int → Int → Option α) → Option α)  (n : Nat) (a : Int) (a1 : Int) (a2 : Int) (a3 : Int) (a4 : Int) (a5 : Int) (κ : Res → Option α) : evFn Try.prog (laws_toTriangle_XG F0 n) Try.f5 (((buildDs laws_toTriangle_sh [.int a, .int a1, .int a2, .int a3, .int a4, .int a5]).map Prod.fst).getD []) κ = laws_toTriangle_body F0 n a a1 a2 a3 a4 a5 (fun v1 v2 v3 v4 v5 v6 => κ ⟨[.agg [.int .i64 v1, .int .i64 v2, .int .i64 v3, .int .i64 v4, .int .i64 v5, .int .i64 v6]], []⟩) := by kernel_rfl
theorem laws_toTriangle_eq {α : Type} (n : Nat) (a : Int) (a1 : Int) (a2 : Int) (a3 : Int) (a4 : Int) (a5 : Int) (r0 : Int → Int → Int → Int → Int → Int → Option α) : laws_toTriangle_body laws_toPoint n a a1 a2 a3 a4 a5 r0 = laws_toTriangle n a a1 a2 a3 a4 a5 r0 := (laws_toTriangle_body.eq_1 laws_toPoint n a a1 a2 a3 a4 a5 r0).trans (laws_toTriangle.eq_1 n a a1 a2 a3 a4 a5 r0).symm
theorem laws_toTriangle_rn {α : Type} (F : Nat → Int → Int → Int → Int → Int → Int → (Int → Int → Int → Int → Int → Int → Option α) → Option α) (n : Nat) (a : Int) (a1 : Int) (a2 : Int) (a3 : Int) (a4 : Int) (a5 : Int) (κ : Res → Option α) : laws_toTriangle_runG F n [.int a, .int a1, .int a2, .int a3, .int a4, .int a5] κ = F n a a1 a2 a3 a4 a5 (fun v1 v2 v3 v4 v5 v6 => κ ⟨[.agg [.int .i64 v1, .int .i64 v2, .int .i64 v3, .int .i64 v4, .int .i64 v5, .int .i64 v6]], []⟩) := rfl
theorem laws_toTriangle_ev {α : Type} (n : Nat) (a : Int) (a1 : Int) (a2 : Int) (a3 : Int) (a4 : Int) (a5 : Int) (κ : Res → Option α) : evFn Try.prog (laws_toTriangle_X n) Try.f5 (((buildDs laws_toTriangle_sh [.int a, .int a1, .int a2, .int a3, .int a4, .int a5]).map Prod.fst).getD []) κ = laws_toTriangle_run n [.int a, .int a1, .int a2, .int a3, .int a4, .int a5] κ := (laws_toTriangle_gen laws_toPoint n a a1 a2 a3 a4 a5 κ).trans ((laws_toTriangle_eq n a a1 a2 a3 a4 a5 (fun v1 v2 v3 v4 v5 v6 => κ ⟨[.agg [.int .i64 v1, .int .i64 v2, .int .i64 v3, .int .i64 v4, .int .i64 v5, .int .i64 v6]], []⟩)).trans ((laws_toTriangle_run.eq_1 n [.int a, .int a1, .int a2, .int a3, .int a4, .int a5] κ).trans (laws_toTriangle_rn laws_toTriangle n a a1 a2 a3 a4 a5 κ)).symm)
theorem laws_toTriangle_en (a : Int) (a1 : Int) (a2 : Int) (a3 : Int) (a4 : Int) (a5 : Int) : (entry 0 (((buildDs laws_toTriangle_sh [.int a, .int a1, .int a2, .int a3, .int a4, .int a5]).map Prod.fst).getD [])).map (fun x => (x.1.length, x.2.lent)) = some (1, []) := by kernel_rfl
theorem laws_toTriangle_good {α : Type} : ∀ n, GoodFn (α := α) Try.prog 5 (byShape laws_toTriangle_sh (laws_toTriangle_run n)) := by
  refine fn_good' Try.func5 (c := (Try.f5.body.getD .skip)) (by kernel_rfl) (by kernel_rfl) (by kernel_rfl) laws_toTriangle_C laws_toTriangle_M eqs laws_toTriangle_lps (fun n => tabC_good (List.forall_mem_cons.2 ⟨(laws_toPoint_good n), (fun _ h => absurd h List.not_mem_nil)⟩)) eqs_ok laws_toTriangle_Lt ?_ ?_ laws_toTriangle_sh laws_toTriangle_run ?_
  · exact (fun _ h => absurd h List.not_mem_nil)
  · exact (fun _ h => absurd h List.not_mem_nil)
  · intro n p κ r ds hd hr
    have hr0 := hr
    unfold laws_toTriangle_run laws_toTriangle_runG at hr
    split at hr
    · rw [← ds_of hd]
      exact ⟨en_of (laws_toTriangle_en _ _ _ _ _ _) ⟨rfl, rfl⟩, (laws_toTriangle_ev n _ _ _ _ _ _ κ).trans hr0⟩
    · cases hr

/-! loop.example/g01297/spec.l01In -/
def spec_l01In_sh : List SkD := [.int .i64, .int .i64, .int .i64]
def spec_l01In_runG {α : Type} (F : Nat → Int → Int → Int → (Bool → Option α) → Option α) (n : Nat) (p : List P1) (κ : Res → Option α) : Option α := match p with
  | [.int n_, .int low, .int high] => F n n_ low high (fun v1 => κ ⟨[.bool v1], []⟩)
  | _ => none
def spec_l01In_run {α : Type} (n : Nat) (p : List P1) (κ : Res → Option α) : Option α := spec_l01In_runG spec_l01In n p κ
def spec_l01In_CG {α : Type}  (n : Nat) : FuncId → List D → (Res → Option α) → Option α := tabC []
def spec_l01In_C {α : Type} (n : Nat) : FuncId → List D → (Res → Option α) → Option α := spec_l01In_CG n
def spec_l01In_M : FuncId → List Nat := tabM []
def spec_l01In_lpsG {α : Type}  : List (LoopT α) := []
def spec_l01In_lps {α : Type} : List (LoopT α) := spec_l01In_lpsG
def spec_l01In_XG {α : Type}   (n : Nat) : Ctx α := ⟨spec_l01In_CG n, spec_l01In_M, eqs, lpOf (spec_l01In_lpsG) n⟩
def spec_l01In_X {α : Type} (n : Nat) : Ctx α := spec_l01In_XG n
def spec_l01In_Lt (np : Nat) (lent : List (Bool × Nat × Blk)) : Prop := np = 3 ∧ lent = []
def spec_l01In_body {α : Type}   (k : Nat) (n_ : Int) (low : Int) (high : Int) (r0 : Bool → Option α) : Option α :=
  bif decide (low ≤ n_) then
    r0 (decide (n_ ≤ high))
  else
    r0 false
theorem spec_l01In_gen {α : Type}   (n : Nat) (n_ : Int) (low : Int) (high : Int) (κ : Res → Option α) : evFn Try.prog (spec_l01In_XG n) Try.f17 (((buildDs spec_l01In_sh [.int n_, .int low, .int high]).map Prod.fst).getD []) κ = spec_l01In_body n n_ low high (fun v1 => κ ⟨[.bool v1], []⟩) := by kernel_rfl
theorem spec_l01In_eq {α : Type} (n : Nat) (n_ : Int) (low : Int) (high : Int) (r0 : Bool → Option α) : spec_l01In_body n n_ low high r0 = spec_l01In n n_ low high r0 := (spec_l01In_body.eq_1 n n_ low high r0).trans (spec_l01In.eq_1 n n_ low high r0).symm
theorem spec_l01In_rn {α : Type} (F : Nat → Int → Int → Int → (Bool → Option α) → Option α) (n : Nat) (n_ : Int) (low : Int) (high : Int) (κ : Res → Option α) : spec_l01In_runG F n [.int n_, .int low, .int high] κ = F n n_ low high (fun v1 => κ ⟨[.bool v1], []⟩) := rfl
theorem spec_l01In_ev {α : Type} (n : Nat) (n_ : Int) (low : Int) (high : Int) (κ : Res → Option α) : evFn Try.prog (spec_l01In_X n) Try.f17 (((buildDs spec_l01In_sh [.int n_, .int low, .int high]).map Prod.fst).getD []) κ = spec_l01In_run n [.int n_, .int low, .int high] κ := (spec_l01In_gen n n_ low high κ).trans ((spec_l01In_eq n n_ low high (fun v1 => κ ⟨[.bool v1], []⟩)).trans ((spec_l01In_run.eq_1 n [.int n_, .int low, .int high] κ).trans (spec_l01In_rn spec_l01In n n_ low high κ)).symm)
theorem spec_l01In_en (n_ : Int) (low : Int) (high : Int) : (entry 0 (((buildDs spec_l01In_sh [.int n_, .int low, .int high]).map Prod.fst).getD [])).map (fun x => (x.1.length, x.2.lent)) = some (3, []) := by kernel_rfl
theorem spec_l01In_good {α : Type} : ∀ n, GoodFn (α := α) Try.prog 17 (byShape spec_l01In_sh (spec_l01In_run n)) := by
  refine fn_good' Try.func17 (c := (Try.f17.body.getD .skip)) (by kernel_rfl) (by kernel_rfl) (by kernel_rfl) spec_l01In_C spec_l01In_M eqs spec_l01In_lps (fun n => tabC_good (fun _ h => absurd h List.not_mem_nil)) eqs_ok spec_l01In_Lt ?_ ?_ spec_l01In_sh spec_l01In_run ?_
  · exact (fun _ h => absurd h List.not_mem_nil)
  · exact (fun _ h => absurd h List.not_mem_nil)
  · intro n p κ r ds hd hr
    have hr0 := hr
    unfold spec_l01In_run spec_l01In_runG at hr
    split at hr
    · rw [← ds_of hd]
      exact ⟨en_of (spec_l01In_en _ _ _) ⟨rfl, rfl⟩, (spec_l01In_ev n _ _ _ κ).trans hr0⟩
    · cases hr

/-! loop.example/g01297/spec.l01Plus -/
def spec_l01Plus_sh : List SkD := [.agg [.int .i64, .int .i64], .agg [.int .i64, .int .i64], .int .i64]
def spec_l01Plus_runG {α : Type} (F : Nat → Int → Int → Int → Int → Int → (Int → Int → Option α) → Option α) (n : Nat) (p : List P1) (κ : Res → Option α) : Option α := match p with
  | [.int a, .int a1, .int b_, .int b_1, .int k_] => F n a a1 b_ b_1 k_ (fun v1 v2 => κ ⟨[.agg [.int .i64 v1, .int .i64 v2]], []⟩)
  | _ => none
def spec_l01Plus_run {α : Type} (n : Nat) (p : List P1) (κ : Res → Option α) : Option α := spec_l01Plus_runG spec_l01Plus n p κ
def spec_l01Plus_CG {α : Type}  (n : Nat) : FuncId → List D → (Res → Option α) → Option α := tabC []
def spec_l01Plus_C {α : Type} (n : Nat) : FuncId → List D → (Res → Option α) → Option α := spec_l01Plus_CG n
def spec_l01Plus_M : FuncId → List Nat := tabM []
def spec_l01Plus_lpsG {α : Type}  : List (LoopT α) := []
def spec_l01Plus_lps {α : Type} : List (LoopT α) := spec_l01Plus_lpsG
def spec_l01Plus_XG {α : Type}   (n : Nat) : Ctx α := ⟨spec_l01Plus_CG n, spec_l01Plus_M, eqs, lpOf (spec_l01Plus_lpsG) n⟩
def spec_l01Plus_X {α : Type} (n : Nat) : Ctx α := spec_l01Plus_XG n
def spec_l01Plus_Lt (np : Nat) (lent : List (Bool × Nat × Blk)) : Prop := np = 3 ∧ lent = []
def spec_l01Plus_body {α : Type}   (k : Nat) (a : Int) (a1 : Int) (b_ : Int) (b_1 : Int) (k_ : Int) (r0 : Int → Int → Option α) : Option α :=
  r0 (w64 (a + (w64 (k_ * b_)))) (w64 (a1 + (w64 (k_ * b_1))))
theorem spec_l01Plus_gen {α : Type}   (n : Nat) (a : Int) (a1 : Int) (b_ : Int) (b_1 : Int) (k_ : Int) (κ : Res → Option α) : evFn Try.prog (spec_l01Plus_XG n) Try.f21 (((buildDs spec_l01Plus_sh [.int a, .int a1, .int b_, .int b_1, .int k_]).map Prod.fst).getD []) κ = spec_l01Plus_body n a a1 b_ b_1 k_ (fun v1 v2 => κ ⟨[.agg [.int .i64 v1, .int .i64 v2]], []⟩) := by kernel_rfl
theorem spec_l01Plus_eq {α : Type} (n : Nat) (a : Int) (a1 : Int) (b_ : Int) (b_1 : Int) (k_ : Int) (r0 : Int → Int → Option α) : spec_l01Plus_body n a a1 b_ b_1 k_ r0 = spec_l01Plus n a a1 b_ b_1 k_ r0 := (spec_l01Plus_body.eq_1 n a a1 b_ b_1 k_ r0).trans (spec_l01Plus.eq_1 n a a1 b_ b_1 k_ r0).symm
theorem spec_l01Plus_rn {α : Type} (F : Nat → Int → Int → Int → Int → Int → (Int → Int → Option α) → Option α) (n : Nat) (a : Int) (a1 : Int) (b_ : Int) (b_1 : Int) (k_ : Int) (κ : Res → Option α) : spec_l01Plus_runG F n [.int a, .int a1, .int b_, .int b_1, .int k_] κ = F n a a1 b_ b_1 k_ (fun v1 v2 => κ ⟨[.agg [.int .i64 v1, .int .i64 v2]], []⟩) := rfl
theorem spec_l01Plus_ev {α : Type} (n : Nat) (a : Int) (a1 : Int) (b_ : Int) (b_1 : Int) (k_ : Int) (κ : Res → Option α) : evFn Try.prog (spec_l01Plus_X n) Try.f21 (((buildDs spec_l01Plus_sh [.int a, .int a1, .int b_, .int b_1, .int k_]).map Prod.fst).getD []) κ = spec_l01Plus_run n [.int a, .int a1, .int b_, .int b_1, .int k_] κ := (spec_l01Plus_gen n a a1 b_ b_1 k_ κ).trans ((spec_l01Plus_eq n a a1 b_ b_1 k_ (fun v1 v2 => κ ⟨[.agg [.int .i64 v1, .int .i64 v2]], []⟩)).trans ((spec_l01Plus_run.eq_1 n [.int a, .int a1, .int b_, .int b_1, .int k_] κ).trans (spec_l01Plus_rn spec_l01Plus n a a1 b_ b_1 k_ κ)).symm)
theorem spec_l01Plus_en (a : Int) (a1 : Int) (b_ : Int) (b_1 : Int) (k_ : Int) : (entry 0 (((buildDs spec_l01Plus_sh [.int a, .int a1, .int b_, .int b_1, .int k_]).map Prod.fst).getD [])).map (fun x => (x.1.length, x.2.lent)) = some (3, []) := by kernel_rfl
theorem spec_l01Plus_good {α : Type} : ∀ n, GoodFn (α := α) Try.prog 21 (byShape spec_l01Plus_sh (spec_l01Plus_run n)) := by
  refine fn_good' Try.func21 (c := (Try.f21.body.getD .skip)) (by kernel_rfl) (by kernel_rfl) (by kernel_rfl) spec_l01Plus_C spec_l01Plus_M eqs spec_l01Plus_lps (fun n => tabC_good (fun _ h => absurd h List.not_mem_nil)) eqs_ok spec_l01Plus_Lt ?_ ?_ spec_l01Plus_sh spec_l01Plus_run ?_
  · exact (fun _ h => absurd h List.not_mem_nil)
  · exact (fun _ h => absurd h List.not_mem_nil)
  · intro n p κ r ds hd hr
    have hr0 := hr
    unfold spec_l01Plus_run spec_l01Plus_runG at hr
    split at hr
    · rw [← ds_of hd]
      exact ⟨en_of (spec_l01Plus_en _ _ _ _ _) ⟨rfl, rfl⟩, (spec_l01Plus_ev n _ _ _ _ _ κ).trans hr0⟩
    · cases hr

/-! loop.example/g01297/spec.l01Det -/
def spec_l01Det_sh : List SkD := [.agg [.int .i64, .int .i64], .agg [.int .i64, .int .i64]]
def spec_l01Det_runG {α : Type} (F : Nat → Int → Int → Int → Int → (Int → Option α) → Option α) (n : Nat) (p : List P1) (κ : Res → Option α) : Option α := match p with
  | [.int a, .int a1, .int b_, .int b_1] => F n a a1 b_ b_1 (fun v1 => κ ⟨[.int .i64 v1], []⟩)
  | _ => none
def spec_l01Det_run {α : Type} (n : Nat) (p : List P1) (κ : Res → Option α) : Option α := spec_l01Det_runG spec_l01Det n p κ
def spec_l01Det_CG {α : Type}  (n : Nat) : FuncId → List D → (Res → Option α) → Option α := tabC []
def spec_l01Det_C {α : Type} (n : Nat) : FuncId → List D → (Res → Option α) → Option α := spec_l01Det_CG n
def spec_l01Det_M : FuncId → List Nat := tabM []
def spec_l01Det_lpsG {α : Type}  : List (LoopT α) := []
def spec_l01Det_lps {α : Type} : List (LoopT α) := spec_l01Det_lpsG
def spec_l01Det_XG {α : Type}   (n : Nat) : Ctx α := ⟨spec_l01Det_CG n, spec_l01Det_M, eqs, lpOf (spec_l01Det_lpsG) n⟩
def spec_l01Det_X {α : Type} (n : Nat) : Ctx α := spec_l01Det_XG n
def spec_l01Det_Lt (np : Nat) (lent : List (Bool × Nat × Blk)) : Prop := np = 2 ∧ lent = []
def spec_l01Det_body {α : Type}   (k : Nat) (a : Int) (a1 : Int) (b_ : Int) (b_1 : Int) (r0 : Int → Option α) : Option α :=
  r0 (w64 ((w64 (a * b_1)) - (w64 (a1 * b_))))
theorem spec_l01Det_gen {α : Type}   (n : Nat) (a : Int) (a1 : Int) (b_ : Int) (b_1 : Int) (κ : Res → Option α) : evFn Try.prog (spec_l01Det_XG n) Try.f19 (((buildDs spec_l01Det_sh [.int a, .int a1, .int b_, .int b_1]).map Prod.fst).getD []) κ = spec_l01Det_body n a a1 b_ b_1 (fun v1 => κ ⟨[.int .i64 v1], []⟩) := by kernel_rfl
theorem spec_l01Det_eq {α : Type} (n : Nat) (a : Int) (a1 : Int) (b_ : Int) (b_1 : Int) (r0 : Int → Option α) : spec_l01Det_body n a a1 b_ b_1 r0 = spec_l01Det n a a1 b_ b_1 r0 := (spec_l01Det_body.eq_1 n a a1 b_ b_1 r0).trans (spec_l01Det.eq_1 n a a1 b_ b_1 r0).symm
theorem spec_l01Det_rn {α : Type} (F : Nat → Int → Int → Int → Int → (Int → Option α) → Option α) (n : Nat) (a : Int) (a1 : Int) (b_ : Int) (b_1 : Int) (κ : Res → Option α) : spec_l01Det_runG F n [.int a, .int a1, .int b_, .int b_1] κ = F n a a1 b_ b_1 (fun v1 => κ ⟨[.int .i64 v1], []⟩) := rfl
theorem spec_l01Det_ev {α : Type} (n : Nat) (a : Int) (a1 : Int) (b_ : Int) (b_1 : Int) (κ : Res → Option α) : evFn Try.prog (spec_l01Det_X n) Try.f19 (((buildDs spec_l01Det_sh [.int a, .int a1, .int b_, .int b_1]).map Prod.fst).getD []) κ = spec_l01Det_run n [.int a, .int a1, .int b_, .int b_1] κ := (spec_l01Det_gen n a a1 b_ b_1 κ).trans ((spec_l01Det_eq n a a1 b_ b_1 (fun v1 => κ ⟨[.int .i64 v1], []⟩)).trans ((spec_l01Det_run.eq_1 n [.int a, .int a1, .int b_, .int b_1] κ).trans (spec_l01Det_rn spec_l01Det n a a1 b_ b_1 κ)).symm)
theorem spec_l01Det_en (a : Int) (a1 : Int) (b_ : Int) (b_1 : Int) : (entry 0 (((buildDs spec_l01Det_sh [.int a, .int a1, .int b_, .int b_1]).map Prod.fst).getD [])).map (fun x => (x.1.length, x.2.lent)) = some (2, []) := by kernel_rfl
theorem spec_l01Det_good {α : Type} : ∀ n, GoodFn (α := α) Try.prog 19 (byShape spec_l01Det_sh (spec_l01Det_run n)) := by
  refine fn_good' Try.func19 (c := (Try.f19.body.getD .skip)) (by kernel_rfl) (by kernel_rfl) (by kernel_rfl) spec_l01Det_C spec_l01Det_M eqs spec_l01Det_lps (fun n => tabC_good (fun _ h => absurd h List.not_mem_nil)) eqs_ok spec_l01Det_Lt ?_ ?_ spec_l01Det_sh spec_l01Det_run ?_
  · exact (fun _ h => absurd h List.not_mem_nil)
  · exact (fun _ h => absurd h List.not_mem_nil)
  · intro n p κ r ds hd hr
    have hr0 := hr
    unfold spec_l01Det_run spec_l01Det_runG at hr
    split at hr
    · rw [← ds_of hd]
      exact ⟨en_of (spec_l01Det_en _ _ _ _) ⟨rfl, rfl⟩, (spec_l01Det_ev n _ _ _ _ κ).trans hr0⟩
    · cases hr

/-! loop.example/g01297/spec.l01Area -/
def spec_l01Area_sh : List SkD := [.agg [.int .i64, .int .i64], .agg [.int .i64, .int .i64], .agg [.int .i64, .int .i64]]
def spec_l01Area_runG {α : Type} (F : Nat → Int → Int → Int → Int → Int → Int → (Int → Option α) → Option α) (n : Nat) (p : List P1) (κ : Res → Option α) : Option α := match p with
  | [.int a, .int a1, .int b_, .int b_1, .int c, .int c1] => F n a a1 b_ b_1 c c1 (fun v1 => κ ⟨[.int .i64 v1], []⟩)
  | _ => none
def spec_l01Area_run {α : Type} (n : Nat) (p : List P1) (κ : Res → Option α) : Option α := spec_l01Area_runG spec_l01Area n p κ
def spec_l01Area_CG {α : Type} (F0 : Nat → Int → Int → Int → Int → Int → (Int → Int → Option α) → Option α) (F1 : Nat → Int → Int → Int → Int → (Int → Option α) → Option α) (n : Nat) : FuncId → List D → (Res → Option α) → Option α := tabC [(21, (byShape spec_l01Plus_sh (spec_l01Plus_runG F0 n))), (19, (byShape spec_l01Det_sh (spec_l01Det_runG F1 n)))]
def spec_l01Area_C {α : Type} (n : Nat) : FuncId → List D → (Res → Option α) → Option α := spec_l01Area_CG spec_l01Plus spec_l01Det n
def spec_l01Area_M : FuncId → List Nat := tabM []
def spec_l01Area_lpsG {α : Type}  : List (LoopT α) := []
def spec_l01Area_lps {α : Type} : List (LoopT α) := spec_l01Area_lpsG
def spec_l01Area_XG {α : Type} (F0 : Nat → Int → Int → Int → Int → Int → (Int → Int → Option α) → Option α) (F1 : Nat → Int → Int → Int → Int → (Int → Option α) → Option α)  (n : Nat) : Ctx α := ⟨spec_l01Area_CG F0 F1 n, spec_l01Area_M, eqs, lpOf (spec_l01Area_lpsG) n⟩
def spec_l01Area_X {α : Type} (n : Nat) : Ctx α := spec_l01Area_XG spec_l01Plus spec_l01Det n
def spec_l01Area_Lt (np : Nat) (lent : List (Bool × Nat × Blk)) : Prop := np = 3 ∧ lent = []
def spec_l01Area_body {α : Type} (F0 : Nat → Int → Int → Int → Int → Int → (Int → Int → Option α) → Option α) (F1 : Nat → Int → Int → Int → Int → (Int → Option α) → Option α)  (k : Nat) (a : Int) (a1 : Int) (b_ : Int) (b_1 : Int) (c : Int) (c1 : Int) (r0 : Int → Option α) : Option α :=
  F0 k b_ b_1 a a1 (-1) fun v v1 =>
  F0 k c c1 a a1 (-1) fun v2 v3 =>
  F1 k v v1 v2 v3 fun v4 =>
  r0 (max v4 (w64 (0 - v4)))
theorem spec_l01Area_gen {α : Type} (F0 : Nat → Int → Int → Int → Int → Int → (Int → Int → Option α) → Option α) (F1 : Nat → Int → Int → Int → Int → (Int → Option α) → Option α)  (n : Nat) (a : Int) (a1 : Int) (b_ : Int) (b_1 : Int) (c : Int) (c1 : Int) (κ : Res → Option α) : evFn Try.prog (spec_l01Area_XG F0 F1 n) Try.f18 (((buildDs spec_l01Area_sh [.int a, .int a1, .int b_, .int b_1, .int c, .int c1]).map Prod.fst).getD []) κ = spec_l01Area_body F0 F1 n a a1 b_ b_1 c c1 (fun v1 => κ ⟨[.int .i64 v1], []⟩) := by kernel_rfl
theorem spec_l01Area_eq {α : Type} (n : Nat) (a : Int) (a1 : Int) (b_ : Int) (b_1 : Int) (c : Int) (c1 : Int) (r0 : Int → Option α) : spec_l01Area_body spec_l01Plus spec_l01Det n a a1 b_ b_1 c c1 r0 = spec_l01Area n a a1 b_ b_1 c c1 r0 := (spec_l01Area_body.eq_1 spec_l01Plus spec_l01Det n a a1 b_ b_1 c c1 r0).trans (spec_l01Area.eq_1 n a a1 b_ b_1 c c1 r0).symm
theorem spec_l01Area_rn {α : Type} (F : Nat → Int → Int → Int → Int → Int → Int → (Int → Option α) → Option α) (n : Nat) (a : Int) (a1 : Int) (b_ : Int) (b_1 : Int) (c : Int) (c1 : Int) (κ : Res → Option α) : spec_l01Area_runG F n [.int a, .int a1, .int b_, .int b_1, .int c, .int c1] κ = F n a a1 b_ b_1 c c1 (fun v1 => κ ⟨[.int .i64 v1], []⟩) := rfl
theorem spec_l01Area_ev {α : Type} (n : Nat) (a : Int) (a1 : Int) (b_ : Int) (b_1 : Int) (c : Int) (c1 : Int) (κ : Res → Option α) : evFn Try.prog (spec_l01Area_X n) Try.f18 (((buildDs spec_l01Area_sh [.int a, .int a1, .int b_, .int b_1, .int c, .int c1]).map Prod.fst).getD []) κ = spec_l01Area_run n [.int a, .int a1, .int b_, .int b_1, .int c, .int c1] κ := (spec_l01Area_gen spec_l01Plus spec_l01Det n a a1 b_ b_1 c c1 κ).trans ((spec_l01Area_eq n a a1 b_ b_1 c c1 (fun v1 => κ ⟨[.int .i64 v1], []⟩)).trans ((spec_l01Area_run.eq_1 n [.int a, .int a1, .int b_, .int b_1, .int c, .int c1] κ).trans (spec_l01Area_rn spec_l01Area n a a1 b_ b_1 c c1 κ)).symm)
theorem spec_l01Area_en (a : Int) (a1 : Int) (b_ : Int) (b_1 : Int) (c : Int) (c1 : Int) : (entry 0 (((buildDs spec_l01Area_sh [.int a, .int a1, .int b_, .int b_1, .int c, .int c1]).map Prod.fst).getD [])).map (fun x => (x.1.length, x.2.lent)) = some (3, []) := by kernel_rfl
theorem spec_l01Area_good {α : Type} : ∀ n, GoodFn (α := α) Try.prog 18 (byShape spec_l01Area_sh (spec_l01Area_run n)) := by
  refine fn_good' Try.func18 (c := (Try.f18.body.getD .skip)) (by kernel_rfl) (by kernel_rfl) (by kernel_rfl) spec_l01Area_C spec_l01Area_M eqs spec_l01Area_lps (fun n => tabC_good (List.forall_mem_cons.2 ⟨(spec_l01Plus_good n), (List.forall_mem_cons.2 ⟨(spec_l01Det_good n), (fun _ h => absurd h List.not_mem_nil)⟩)⟩)) eqs_ok spec_l01Area_Lt ?_ ?_ spec_l01Area_sh spec_l01Area_run ?_
  · exact (fun _ h => absurd h List.not_mem_nil)
  · exact (fun _ h => absurd h List.not_mem_nil)
  · intro n p κ r ds hd hr
    have hr0 := hr
    unfold spec_l01Area_run spec_l01Area_runG at hr
    split at hr
    · rw [← ds_of hd]
      exact ⟨en_of (spec_l01Area_en _ _ _ _ _ _) ⟨rfl, rfl⟩, (spec_l01Area_ev n _ _ _ _ _ _ κ).trans hr0⟩
    · cases hr

/-! loop.example/g01297/spec.l04Is -/
def spec_l04Is_sh : List SkD := [.agg [.int .i64, .int .i64, .int .i64, .int .i64, .int .i64, .int .i64]]
def spec_l04Is_runG {α : Type} (F : Nat → Int → Int → Int → Int → Int → Int → (Bool → Option α) → Option α) (n : Nat) (p : List P1) (κ : Res → Option α) : Option α := match p with
  | [.int t, .int t1, .int t2, .int t3, .int t4, .int t5] => F n t t1 t2 t3 t4 t5 (fun v1 => κ ⟨[.bool v1], []⟩)
  | _ => none
def spec_l04Is_run {α : Type} (n : Nat) (p : List P1) (κ : Res → Option α) : Option α := spec_l04Is_runG spec_l04Is n p κ
def spec_l04Is_CG {α : Type} (F0 : Nat → Int → Int → Int → (Bool → Option α) → Option α) (F1 : Nat → Int → Int → Int → Int → Int → Int → (Int → Option α) → Option α) (n : Nat) : FuncId → List D → (Res → Option α) → Option α := tabC [(17, (byShape spec_l01In_sh (spec_l01In_runG F0 n))), (18, (byShape spec_l01Area_sh (spec_l01Area_runG F1 n)))]
def spec_l04Is_C {α : Type} (n : Nat) : FuncId → List D → (Res → Option α) → Option α := spec_l04Is_CG spec_l01In spec_l01Area n
def spec_l04Is_M : FuncId → List Nat := tabM []
def spec_l04Is_lpsG {α : Type}  : List (LoopT α) := []
def spec_l04Is_lps {α : Type} : List (LoopT α) := spec_l04Is_lpsG
def spec_l04Is_XG {α : Type} (F0 : Nat → Int → Int → Int → (Bool → Option α) → Option α) (F1 : Nat → Int → Int → Int → Int → Int → Int → (Int → Option α) → Option α)  (n : Nat) : Ctx α := ⟨spec_l04Is_CG F0 F1 n, spec_l04Is_M, eqs, lpOf (spec_l04Is_lpsG) n⟩
def spec_l04Is_X {α : Type} (n : Nat) : Ctx α := spec_l04Is_XG spec_l01In spec_l01Area n
def spec_l04Is_Lt (np : Nat) (lent : List (Bool × Nat × Blk)) : Prop := np = 1 ∧ lent = []
def spec_l04Is_body {α : Type} (F0 : Nat → Int → Int → Int → (Bool → Option α) → Option α) (F1 : Nat → Int → Int → Int → Int → Int → Int → (Int → Option α) → Option α)  (k : Nat) (t : Int) (t1 : Int) (t2 : Int) (t3 : Int) (t4 : Int) (t5 : Int) (r0 : Bool → Option α) : Option α :=
  F0 k t (-1000) 1000 fun v =>
  bif (!v) then
    r0 false
  else
    F0 k t1 (-1000) 1000 fun v1 =>
    bif (!v1) then
      r0 false
    else
      F0 k t2 (-1000) 1000 fun v2 =>
      bif (!v2) then
        r0 false
      else
        F0 k t3 (-1000) 1000 fun v3 =>
        bif (!v3) then
          r0 false
        else
          F0 k t4 (-1000) 1000 fun v4 =>
          bif (!v4) then
            r0 false
          else
            F0 k t5 (-1000) 1000 fun v5 =>
            bif (!v5) then
              r0 false
            else
              F1 k t t1 t2 t3 t4 t5 fun v6 =>
              r0 (!decide (v6 = 0))
theorem spec_l04Is_gen {α : Type} (F0 : Nat → Int → Int → Int → (Bool → Option α) → Option α) (F1 : Nat → Int → Int → Int → Int → Int → Int → (Int → Option α) → Option α)  (n : Nat) (t : Int) (t1 : Int) (t2 : Int) (t3 : Int) (t4 : Int) (t5 : Int) (κ : Res → Option α) : evFn Try.prog (spec_l04Is_XG F0 F1 n) Try.f10 (((buildDs spec_l04Is_sh [.int t, .int t1, .int t2, .int t3, .int t4, .int t5]).map Prod.fst).getD []) κ = spec_l04Is_body F0 F1 n t t1 t2 t3 t4 t5 (fun v1 => κ ⟨[.bool v1], []⟩) := by kernel_rfl
theorem spec_l04Is_eq {α : Type} (n : Nat) (t : Int) (t1 : Int) (t2 : Int) (t3 : Int) (t4 : Int) (t5 : Int) (r0 : Bool → Option α) : spec_l04Is_body spec_l01In spec_l01Area n t t1 t2 t3 t4 t5 r0 = spec_l04Is n t t1 t2 t3 t4 t5 r0 := (spec_l04Is_body.eq_1 spec_l01In spec_l01Area n t t1 t2 t3 t4 t5 r0).trans (spec_l04Is.eq_1 n t t1 t2 t3 t4 t5 r0).symm
theorem spec_l04Is_rn {α : Type} (F : Nat → Int → Int → Int → Int → Int → Int → (Bool → Option α) → Option α) (n : Nat) (t : Int) (t1 : Int) (t2 : Int) (t3 : Int) (t4 : Int) (t5 : Int) (κ : Res → Option α) : spec_l04Is_runG F n [.int t, .int t1, .int t2, .int t3, .int t4, .int t5] κ = F n t t1 t2 t3 t4 t5 (fun v1 => κ ⟨[.bool v1], []⟩) := rfl
theorem spec_l04Is_ev {α : Type} (n : Nat) (t : Int) (t1 : Int) (t2 : Int) (t3 : Int) (t4 : Int) (t5 : Int) (κ : Res → Option α) : evFn Try.prog (spec_l04Is_X n) Try.f10 (((buildDs spec_l04Is_sh [.int t, .int t1, .int t2, .int t3, .int t4, .int t5]).map Prod.fst).getD []) κ = spec_l04Is_run n [.int t, .int t1, .int t2, .int t3, .int t4, .int t5] κ := (spec_l04Is_gen spec_l01In spec_l01Area n t t1 t2 t3 t4 t5 κ).trans ((spec_l04Is_eq n t t1 t2 t3 t4 t5 (fun v1 => κ ⟨[.bool v1], []⟩)).trans ((spec_l04Is_run.eq_1 n [.int t, .int t1, .int t2, .int t3, .int t4, .int t5] κ).trans (spec_l04Is_rn spec_l04Is n t t1 t2 t3 t4 t5 κ)).symm)
theorem spec_l04Is_en (t : Int) (t1 : Int) (t2 : Int) (t3 : Int) (t4 : Int) (t5 : Int) : (entry 0 (((buildDs spec_l04Is_sh [.int t, .int t1, .int t2, .int t3, .int t4, .int t5]).map Prod.fst).getD [])).map (fun x => (x.1.length, x.2.lent)) = some (1, []) := by kernel_rfl
theorem spec_l04Is_good {α : Type} : ∀ n, GoodFn (α := α) Try.prog 10 (byShape spec_l04Is_sh (spec_l04Is_run n)) := by
  refine fn_good' Try.func10 (c := (Try.f10.body.getD .skip)) (by kernel_rfl) (by kernel_rfl) (by kernel_rfl) spec_l04Is_C spec_l04Is_M eqs spec_l04Is_lps (fun n => tabC_good (List.forall_mem_cons.2 ⟨(spec_l01In_good n), (List.forall_mem_cons.2 ⟨(spec_l01Area_good n), (fun _ h => absurd h List.not_mem_nil)⟩)⟩)) eqs_ok spec_l04Is_Lt ?_ ?_ spec_l04Is_sh spec_l04Is_run ?_
  · exact (fun _ h => absurd h List.not_mem_nil)
  · exact (fun _ h => absurd h List.not_mem_nil)
  · intro n p κ r ds hd hr
    have hr0 := hr
    unfold spec_l04Is_run spec_l04Is_runG at hr
    split at hr
    · rw [← ds_of hd]
      exact ⟨en_of (spec_l04Is_en _ _ _ _ _ _) ⟨rfl, rfl⟩, (spec_l04Is_ev n _ _ _ _ _ _ κ).trans hr0⟩
    · cases hr

/-! loop.example/g01297/spec.l01Gcd -/
def spec_l01Gcd_sh : List SkD := [.int .i64, .int .i64]
def spec_l01Gcd_runG {α : Type} (F : Nat → Int → Int → (Int → Option α) → Option α) (n : Nat) (p : List P1) (κ : Res → Option α) : Option α := match p with
  | [.int a, .int b_] => F n a b_ (fun v1 => κ ⟨[.int .i64 v1], []⟩)
  | _ => none
def spec_l01Gcd_run {α : Type} (n : Nat) (p : List P1) (κ : Res → Option α) : Option α := spec_l01Gcd_runG spec_l01Gcd n p κ
def spec_l01Gcd_CG {α : Type}  (n : Nat) : FuncId → List D → (Res → Option α) → Option α := tabC []
def spec_l01Gcd_C {α : Type} (n : Nat) : FuncId → List D → (Res → Option α) → Option α := spec_l01Gcd_CG n
def spec_l01Gcd_M : FuncId → List Nat := tabM []
def spec_l01Gcd_t1 : Tpl := ⟨[.int .i64, .int .i64, .any, .any, .any, .any, .any, .any, .any, .any, .any, .any, .any, .any, .any, .any, .any], [], []⟩
def spec_l01Gcd_uG1 {α : Type} (G : Nat → Int → Int → (Int → Int → Option α) → (Int → Option α) → Option α) (n : Nat) (p : List P1) (brk : Nat → List P1 → Option α) (ret : Res → Option α) : Option α := match p with
  | [.int a1, .int b_1] => G n a1 b_1 (fun a1 b_1 => brk 0 [.int a1, .int b_1]) (fun v1 => ret ⟨[.int .i64 v1], []⟩)
  | _ => none
def spec_l01Gcd_u1 {α : Type} (n : Nat) (p : List P1) (brk : Nat → List P1 → Option α) (ret : Res → Option α) : Option α := spec_l01Gcd_uG1 spec_l01Gcd_l1 n p brk ret
def spec_l01Gcd_lpsG {α : Type} (G1 : Nat → Int → Int → (Int → Int → Option α) → (Int → Option α) → Option α) : List (LoopT α) := [⟨1, spec_l01Gcd_t1, spec_l01Gcd_uG1 G1⟩]
def spec_l01Gcd_lps {α : Type} : List (LoopT α) := spec_l01Gcd_lpsG spec_l01Gcd_l1
def spec_l01Gcd_XG {α : Type}  (G1 : Nat → Int → Int → (Int → Int → Option α) → (Int → Option α) → Option α) (n : Nat) : Ctx α := ⟨spec_l01Gcd_CG n, spec_l01Gcd_M, eqs, lpOf (spec_l01Gcd_lpsG G1) n⟩
def spec_l01Gcd_X {α : Type} (n : Nat) : Ctx α := spec_l01Gcd_XG spec_l01Gcd_l1 n
def spec_l01Gcd_Lt (np : Nat) (lent : List (Bool × Nat × Blk)) : Prop := np = 2 ∧ lent = []
def spec_l01Gcd_lb1 {α : Type}  (G1 : Nat → Int → Int → (Int → Int → Option α) → (Int → Option α) → Option α) (k : Nat) (a1 : Int) (b_1 : Int) (b0 : Int → Int → Option α) (r0 : Int → Option α) : Option α :=
  bif (!decide (b_1 = 0)) then
    bif decide (b_1 = 0) then
      none
    else
      G1 k b_1 (Int.tmod a1 b_1) b0 r0
  else
    b0 a1 b_1
theorem spec_l01Gcd_l1_gen {α : Type}  (G1 : Nat → Int → Int → (Int → Int → Option α) → (Int → Option α) → Option α) (n : Nat) (a1 : Int) (b_1 : Int) (brk : Nat → List P1 → Option α) (ret : Res → Option α) : ev ((spec_l01Gcd_XG G1 n).env Try.prog Try.f28 2 []) (findLoop (loopsIn (Try.f28.body.getD .skip)) 1) ((spec_l01Gcd_t1.build [.int a1, .int b_1]).getD ⟨[], []⟩) (roundK (2 * 64) spec_l01Gcd_t1 (fun q => spec_l01Gcd_uG1 G1 n q brk ret) brk ret) = spec_l01Gcd_lb1 G1 n a1 b_1 (fun a1 b_1 => brk 0 [.int a1, .int b_1]) (fun v1 => ret ⟨[.int .i64 v1], []⟩) := by kernel_rfl
theorem spec_l01Gcd_l1_eq {α : Type} (k : Nat) (a1 : Int) (b_1 : Int) (b0 : Int → Int → Option α) (r0 : Int → Option α) : spec_l01Gcd_lb1 spec_l01Gcd_l1 k a1 b_1 b0 r0 = spec_l01Gcd_l1 (k + 1) a1 b_1 b0 r0 := (spec_l01Gcd_lb1.eq_1 spec_l01Gcd_l1 k a1 b_1 b0 r0).trans (show spec_l01Gcd_l1 (k + 1) a1 b_1 b0 r0 = _ from spec_l01Gcd_l1.eq_2 _ _ _ _ _ ).symm
theorem spec_l01Gcd_l1_rn {α : Type} (G : Nat → Int → Int → (Int → Int → Option α) → (Int → Option α) → Option α) (n : Nat) (a1 : Int) (b_1 : Int) (brk : Nat → List P1 → Option α) (ret : Res → Option α) : spec_l01Gcd_uG1 G n [.int a1, .int b_1] brk ret = G n a1 b_1 (fun a1 b_1 => brk 0 [.int a1, .int b_1]) (fun v1 => ret ⟨[.int .i64 v1], []⟩) := rfl
theorem spec_l01Gcd_l1_ev {α : Type} (n : Nat) (a1 : Int) (b_1 : Int) (brk : Nat → List P1 → Option α) (ret : Res → Option α) : ev ((spec_l01Gcd_X n).env Try.prog Try.f28 2 []) (findLoop (loopsIn (Try.f28.body.getD .skip)) 1) ((spec_l01Gcd_t1.build [.int a1, .int b_1]).getD ⟨[], []⟩) (roundK (2 * 64) spec_l01Gcd_t1 (fun q => spec_l01Gcd_u1 n q brk ret) brk ret) = spec_l01Gcd_u1 (n + 1) [.int a1, .int b_1] brk ret := (spec_l01Gcd_l1_gen spec_l01Gcd_l1 n a1 b_1 brk ret).trans ((spec_l01Gcd_l1_eq n a1 b_1 (fun a1 b_1 => brk 0 [.int a1, .int b_1]) (fun v1 => ret ⟨[.int .i64 v1], []⟩)).trans ((spec_l01Gcd_u1.eq_1 (n + 1) [.int a1, .int b_1] brk ret).trans (spec_l01Gcd_l1_rn spec_l01Gcd_l1 (n + 1) a1 b_1 brk ret)).symm)
def spec_l01Gcd_body {α : Type}  (G1 : Nat → Int → Int → (Int → Int → Option α) → (Int → Option α) → Option α) (k : Nat) (a : Int) (b_ : Int) (r0 : Int → Option α) : Option α :=
  G1 k a b_
    (fun a2 b_2 =>
      r0 (max a2 (w64 (0 - a2))))
    r0
theorem spec_l01Gcd_gen {α : Type}  (G1 : Nat → Int → Int → (Int → Int → Option α) → (Int → Option α) → Option α) (n : Nat) (a : Int) (b_ : Int) (κ : Res → Option α) : evFn Try.prog (spec_l01Gcd_XG G1 n) Try.f28 (((buildDs spec_l01Gcd_sh [.int a, .int b_]).map Prod.fst).getD []) κ = spec_l01Gcd_body G1 n a b_ (fun v1 => κ ⟨[.int .i64 v1], []⟩) := by kernel_rfl
theorem spec_l01Gcd_eq {α : Type} (n : Nat) (a : Int) (b_ : Int) (r0 : Int → Option α) : spec_l01Gcd_body spec_l01Gcd_l1 n a b_ r0 = spec_l01Gcd n a b_ r0 := (spec_l01Gcd_body.eq_1 spec_l01Gcd_l1 n a b_ r0).trans (spec_l01Gcd.eq_1 n a b_ r0).symm
theorem spec_l01Gcd_rn {α : Type} (F : Nat → Int → Int → (Int → Option α) → Option α) (n : Nat) (a : Int) (b_ : Int) (κ : Res → Option α) : spec_l01Gcd_runG F n [.int a, .int b_] κ = F n a b_ (fun v1 => κ ⟨[.int .i64 v1], []⟩) := rfl
theorem spec_l01Gcd_ev {α : Type} (n : Nat) (a : Int) (b_ : Int) (κ : Res → Option α) : evFn Try.prog (spec_l01Gcd_X n) Try.f28 (((buildDs spec_l01Gcd_sh [.int a, .int b_]).map Prod.fst).getD []) κ = spec_l01Gcd_run n [.int a, .int b_] κ := (spec_l01Gcd_gen spec_l01Gcd_l1 n a b_ κ).trans ((spec_l01Gcd_eq n a b_ (fun v1 => κ ⟨[.int .i64 v1], []⟩)).trans ((spec_l01Gcd_run.eq_1 n [.int a, .int b_] κ).trans (spec_l01Gcd_rn spec_l01Gcd n a b_ κ)).symm)
theorem spec_l01Gcd_en (a : Int) (b_ : Int) : (entry 0 (((buildDs spec_l01Gcd_sh [.int a, .int b_]).map Prod.fst).getD [])).map (fun x => (x.1.length, x.2.lent)) = some (2, []) := by kernel_rfl
theorem spec_l01Gcd_good {α : Type} : ∀ n, GoodFn (α := α) Try.prog 28 (byShape spec_l01Gcd_sh (spec_l01Gcd_run n)) := by
  refine fn_good' Try.func28 (c := (Try.f28.body.getD .skip)) (by kernel_rfl) (by kernel_rfl) (by kernel_rfl) spec_l01Gcd_C spec_l01Gcd_M eqs spec_l01Gcd_lps (fun n => tabC_good (fun _ h => absurd h List.not_mem_nil)) eqs_ok spec_l01Gcd_Lt ?_ ?_ spec_l01Gcd_sh spec_l01Gcd_run ?_
  · refine List.forall_mem_cons.2 ⟨?_, (fun _ h => absurd h List.not_mem_nil)⟩
    · intro p brk ret; show spec_l01Gcd_u1 0 p brk ret = none; unfold spec_l01Gcd_u1 spec_l01Gcd_uG1; split <;> rfl
  · refine List.forall_mem_cons.2 ⟨?_, (fun _ h => absurd h List.not_mem_nil)⟩
    · intro np lent hL n p brk ret st r hb hr
      obtain ⟨rfl, rfl⟩ := hL
      rw [← tpl_of hb]
      change spec_l01Gcd_u1 (n + 1) p brk ret = some r at hr
      have hr0 := hr
      unfold spec_l01Gcd_u1 spec_l01Gcd_uG1 at hr
      split at hr
      · exact (spec_l01Gcd_l1_ev n _ _ brk ret).trans hr0
      · cases hr
  · intro n p κ r ds hd hr
    have hr0 := hr
    unfold spec_l01Gcd_run spec_l01Gcd_runG at hr
    split at hr
    · rw [← ds_of hd]
      exact ⟨en_of (spec_l01Gcd_en _ _) ⟨rfl, rfl⟩, (spec_l01Gcd_ev n _ _ κ).trans hr0⟩
    · cases hr

/-! loop.example/g01297/spec.l01Part -/
def spec_l01Part_sh : List SkD := [.agg [.int .i64, .int .i64]]
def spec_l01Part_runG {α : Type} (F : Nat → Int → Int → (Int → Int → Option α) → Option α) (n : Nat) (p : List P1) (κ : Res → Option α) : Option α := match p with
  | [.int a, .int a1] => F n a a1 (fun v1 v2 => κ ⟨[.agg [.int .i64 v1, .int .i64 v2]], []⟩)
  | _ => none
def spec_l01Part_run {α : Type} (n : Nat) (p : List P1) (κ : Res → Option α) : Option α := spec_l01Part_runG spec_l01Part n p κ
def spec_l01Part_CG {α : Type} (F0 : Nat → Int → Int → (Int → Option α) → Option α) (n : Nat) : FuncId → List D → (Res → Option α) → Option α := tabC [(28, (byShape spec_l01Gcd_sh (spec_l01Gcd_runG F0 n)))]
def spec_l01Part_C {α : Type} (n : Nat) : FuncId → List D → (Res → Option α) → Option α := spec_l01Part_CG spec_l01Gcd n
def spec_l01Part_M : FuncId → List Nat := tabM []
def spec_l01Part_lpsG {α : Type}  : List (LoopT α) := []
def spec_l01Part_lps {α : Type} : List (LoopT α) := spec_l01Part_lpsG
def spec_l01Part_XG {α : Type} (F0 : Nat → Int → Int → (Int → Option α) → Option α)  (n : Nat) : Ctx α := ⟨spec_l01Part_CG F0 n, spec_l01Part_M, eqs, lpOf (spec_l01Part_lpsG) n⟩
def spec_l01Part_X {α : Type} (n : Nat) : Ctx α := spec_l01Part_XG spec_l01Gcd n
def spec_l01Part_Lt (np : Nat) (lent : List (Bool × Nat × Blk)) : Prop := np = 1 ∧ lent = []
def spec_l01Part_body {α : Type} (F0 : Nat → Int → Int → (Int → Option α) → Option α)  (k : Nat) (a : Int) (a1 : Int) (r0 : Int → Int → Option α) : Option α :=
  F0 k a a1 fun v =>
  bif decide (v = 0) then
    none
  else
  bif decide (v = 0) then
    none
  else
    r0 (w64 (Int.tdiv a v)) (w64 (Int.tdiv a1 v))
theorem spec_l01Part_gen {α : Type} (F0 : Nat → Int → Int → (Int → Option α) → Option α)  (n : Nat) (a : Int) (a1 : Int) (κ : Res → Option α) : evFn Try.prog (spec_l01Part_XG F0 n) Try.f20 (((buildDs spec_l01Part_sh [.int a, .int a1]).map Prod.fst).getD []) κ = spec_l01Part_body F0 n a a1 (fun v1 v2 => κ ⟨[.agg [.int .i64 v1, .int .i64 v2]], []⟩) := by kernel_rfl
theorem spec_l01Part_eq {α : Type} (n : Nat) (a : Int) (a1 : Int) (r0 : Int → Int → Option α) : spec_l01Part_body spec_l01Gcd n a a1 r0 = spec_l01Part n a a1 r0 := (spec_l01Part_body.eq_1 spec_l01Gcd n a a1 r0).trans (spec_l01Part.eq_1 n a a1 r0).symm
theorem spec_l01Part_rn {α : Type} (F : Nat → Int → Int → (Int → Int → Option α) → Option α) (n : Nat) (a : Int) (a1 : Int) (κ : Res → Option α) : spec_l01Part_runG F n [.int a, .int a1] κ = F n a a1 (fun v1 v2 => κ ⟨[.agg [.int .i64 v1, .int .i64 v2]], []⟩) := rfl
theorem spec_l01Part_ev {α : Type} (n : Nat) (a : Int) (a1 : Int) (κ : Res → Option α) : evFn Try.prog (spec_l01Part_X n) Try.f20 (((buildDs spec_l01Part_sh [.int a, .int a1]).map Prod.fst).getD []) κ = spec_l01Part_run n [.int a, .int a1] κ := (spec_l01Part_gen spec_l01Gcd n a a1 κ).trans ((spec_l01Part_eq n a a1 (fun v1 v2 => κ ⟨[.agg [.int .i64 v1, .int .i64 v2]], []⟩)).trans ((spec_l01Part_run.eq_1 n [.int a, .int a1] κ).trans (spec_l01Part_rn spec_l01Part n a a1 κ)).symm)
theorem spec_l01Part_en (a : Int) (a1 : Int) : (entry 0 (((buildDs spec_l01Part_sh [.int a, .int a1]).map Prod.fst).getD [])).map (fun x => (x.1.length, x.2.lent)) = some (1, []) := by kernel_rfl
theorem spec_l01Part_good {α : Type} : ∀ n, GoodFn (α := α) Try.prog 20 (byShape spec_l01Part_sh (spec_l01Part_run n)) := by
  refine fn_good' Try.func20 (c := (Try.f20.body.getD .skip)) (by kernel_rfl) (by kernel_rfl) (by kernel_rfl) spec_l01Part_C spec_l01Part_M eqs spec_l01Part_lps (fun n => tabC_good (List.forall_mem_cons.2 ⟨(spec_l01Gcd_good n), (fun _ h => absurd h List.not_mem_nil)⟩)) eqs_ok spec_l01Part_Lt ?_ ?_ spec_l01Part_sh spec_l01Part_run ?_
  · exact (fun _ h => absurd h List.not_mem_nil)
  · exact (fun _ h => absurd h List.not_mem_nil)
  · intro n p κ r ds hd hr
    have hr0 := hr
    unfold spec_l01Part_run spec_l01Part_runG at hr
    split at hr
    · rw [← ds_of hd]
      exact ⟨en_of (spec_l01Part_en _ _) ⟨rfl, rfl⟩, (spec_l01Part_ev n _ _ κ).trans hr0⟩
    · cases hr

/-! loop.example/g01297/spec.l04Corner -/
def spec_l04Corner_sh : List SkD := [.agg [.int .i64, .int .i64, .int .i64, .int .i64, .int .i64, .int .i64], .int .i64]
def spec_l04Corner_runG {α : Type} (F : Nat → Int → Int → Int → Int → Int → Int → Int → (Int → Int → Int → Int → Option α) → Option α) (n : Nat) (p : List P1) (κ : Res → Option α) : Option α := match p with
  | [.int t, .int t1, .int t2, .int t3, .int t4, .int t5, .int i] => F n t t1 t2 t3 t4 t5 i (fun v1 v2 v3 v4 => κ ⟨[.agg [.int .i64 v1, .int .i64 v2, .int .i64 v3, .int .i64 v4]], []⟩)
  | _ => none
def spec_l04Corner_run {α : Type} (n : Nat) (p : List P1) (κ : Res → Option α) : Option α := spec_l04Corner_runG spec_l04Corner n p κ
def spec_l04Corner_CG {α : Type} (F0 : Nat → Int → Int → Int → Int → Int → (Int → Int → Option α) → Option α) (F1 : Nat → Int → Int → (Int → Int → Option α) → Option α) (n : Nat) : FuncId → List D → (Res → Option α) → Option α := tabC [(21, (byShape spec_l01Plus_sh (spec_l01Plus_runG F0 n))), (20, (byShape spec_l01Part_sh (spec_l01Part_runG F1 n)))]
def spec_l04Corner_C {α : Type} (n : Nat) : FuncId → List D → (Res → Option α) → Option α := spec_l04Corner_CG spec_l01Plus spec_l01Part n
def spec_l04Corner_M : FuncId → List Nat := tabM []
def spec_l04Corner_lpsG {α : Type}  : List (LoopT α) := []
def spec_l04Corner_lps {α : Type} : List (LoopT α) := spec_l04Corner_lpsG
def spec_l04Corner_XG {α : Type} (F0 : Nat → Int → Int → Int → Int → Int → (Int → Int → Option α) → Option α) (F1 : Nat → Int → Int → (Int → Int → Option α) → Option α)  (n : Nat) : Ctx α := ⟨spec_l04Corner_CG F0 F1 n, spec_l04Corner_M, eqs, lpOf (spec_l04Corner_lpsG) n⟩
def spec_l04Corner_X {α : Type} (n : Nat) : Ctx α := spec_l04Corner_XG spec_l01Plus spec_l01Part n
def spec_l04Corner_Lt (np : Nat) (lent : List (Bool × Nat × Blk)) : Prop := np = 2 ∧ lent = []
def spec_l04Corner_body {α : Type} (F0 : Nat → Int → Int → Int → Int → Int → (Int → Int → Option α) → Option α) (F1 : Nat → Int → Int → (Int → Int → Option α) → Option α)  (k : Nat) (t : Int) (t1 : Int) (t2 : Int) (t3 : Int) (t4 : Int) (t5 : Int) (i : Int) (r0 : Int → Int → Int → Int → Option α) : Option α :=
  bif (decide (0 ≤ i) && decide (i < 3)) then
    ([t, t1, t2, t3, t4, t5][(i.toNat * 2)]?).bind fun e_ =>
    ([t, t1, t2, t3, t4, t5][((i.toNat * 2) + 1)]?).bind fun e_1 =>
    bif (decide (0 ≤ (Int.tmod (w64 (i + 1)) 3)) && decide ((Int.tmod (w64 (i + 1)) 3) < 3)) then
      ([t, t1, t2, t3, t4, t5][((Int.tmod (w64 (i + 1)) 3).toNat * 2)]?).bind fun e_2 =>
      ([t, t1, t2, t3, t4, t5][(((Int.tmod (w64 (i + 1)) 3).toNat * 2) + 1)]?).bind fun e_3 =>
      bif (decide (0 ≤ (Int.tmod (w64 (i + 2)) 3)) && decide ((Int.tmod (w64 (i + 2)) 3) < 3)) then
        ([t, t1, t2, t3, t4, t5][((Int.tmod (w64 (i + 2)) 3).toNat * 2)]?).bind fun e_4 =>
        ([t, t1, t2, t3, t4, t5][(((Int.tmod (w64 (i + 2)) 3).toNat * 2) + 1)]?).bind fun e_5 =>
        F0 k e_2 e_3 e_ e_1 (-1) fun v v1 =>
        F1 k v v1 fun v2 v3 =>
        F0 k e_4 e_5 e_ e_1 (-1) fun v4 v5 =>
        F1 k v4 v5 fun v6 v7 =>
        r0 v2 v3 v6 v7
      else
        none
    else
      none
  else
    none
theorem spec_l04Corner_gen {α : Type} (F0 : Nat → Int → Int → Int → Int → Int → (Int → Int → Option α) → Option α) (F1 : Nat → Int → Int → (Int → Int → Option α) → Option α)  (n : Nat) (t : Int) (t1 : Int) (t2 : Int) (t3 : Int) (t4 : Int) (t5 : Int) (i : Int) (κ : Res → Option α) : evFn Try.prog (spec_l04Corner_XG F0 F1 n) Try.f12 (((buildDs spec_l04Corner_sh [.int t, .int t1, .int t2, .int t3, .int t4, .int t5, .int i]).map Prod.fst).getD []) κ = spec_l04Corner_body F0 F1 n t t1 t2 t3 t4 t5 i (fun v1 v2 v3 v4 => κ ⟨[.agg [.int .i64 v1, .int .i64 v2, .int .i64 v3, .int .i64 v4]], []⟩) := by kernel_rfl
theorem spec_l04Corner_eq {α : Type} (n : Nat) (t : Int) (t1 : Int) (t2 : Int) (t3 : Int) (t4 : Int) (t5 : Int) (i : Int) (r0 : Int → Int → Int → Int → Option α) : spec_l04Corner_body spec_l01Plus spec_l01Part n t t1 t2 t3 t4 t5 i r0 = spec_l04Corner n t t1 t2 t3 t4 t5 i r0 := (spec_l04Corner_body.eq_1 spec_l01Plus spec_l01Part n t t1 t2 t3 t4 t5 i r0).trans (spec_l04Corner.eq_1 n t t1 t2 t3 t4 t5 i r0).symm
theorem spec_l04Corner_rn {α : Type} (F : Nat → Int → Int → Int → Int → Int → Int → Int → (Int → Int → Int → Int → Option α) → Option α) (n : Nat) (t : Int) (t1 : Int) (t2 : Int) (t3 : Int) (t4 : Int) (t5 : Int) (i : Int) (κ : Res → Option α) : spec_l04Corner_runG F n [.int t, .int t1, .int t2, .int t3, .int t4, .int t5, .int i] κ = F n t t1 t2 t3 t4 t5 i (fun v1 v2 v3 v4 => κ ⟨[.agg [.int .i64 v1, .int .i64 v2, .int .i64 v3, .int .i64 v4]], []⟩) := rfl
theorem spec_l04Corner_ev {α : Type} (n : Nat) (t : Int) (t1 : Int) (t2 : Int) (t3 : Int) (t4 : Int) (t5 : Int) (i : Int) (κ : Res → Option α) : evFn Try.prog (spec_l04Corner_X n) Try.f12 (((buildDs spec_l04Corner_sh [.int t, .int t1, .int t2, .int t3, .int t4, .int t5, .int i]).map Prod.fst).getD []) κ = spec_l04Corner_run n [.int t, .int t1, .int t2, .int t3, .int t4, .int t5, .int i] κ := (spec_l04Corner_gen spec_l01Plus spec_l01Part n t t1 t2 t3 t4 t5 i κ).trans ((spec_l04Corner_eq n t t1 t2 t3 t4 t5 i (fun v1 v2 v3 v4 => κ ⟨[.agg [.int .i64 v1, .int .i64 v2, .int .i64 v3, .int .i64 v4]], []⟩)).trans ((spec_l04Corner_run.eq_1 n [.int t, .int t1, .int t2, .int t3, .int t4, .int t5, .int i] κ).trans (spec_l04Corner_rn spec_l04Corner n t t1 t2 t3 t4 t5 i κ)).symm)
theorem spec_l04Corner_en (t : Int) (t1 : Int) (t2 : Int) (t3 : Int) (t4 : Int) (t5 : Int) (i : Int) : (entry 0 (((buildDs spec_l04Corner_sh [.int t, .int t1, .int t2, .int t3, .int t4, .int t5, .int i]).map Prod.fst).getD [])).map (fun x => (x.1.length, x.2.lent)) = some (2, []) := by kernel_rfl
theorem spec_l04Corner_good {α : Type} : ∀ n, GoodFn (α := α) Try.prog 12 (byShape spec_l04Corner_sh (spec_l04Corner_run n)) := by
  refine fn_good' Try.func12 (c := (Try.f12.body.getD .skip)) (by kernel_rfl) (by kernel_rfl) (by kernel_rfl) spec_l04Corner_C spec_l04Corner_M eqs spec_l04Corner_lps (fun n => tabC_good (List.forall_mem_cons.2 ⟨(spec_l01Plus_good n), (List.forall_mem_cons.2 ⟨(spec_l01Part_good n), (fun _ h => absurd h List.not_mem_nil)⟩)⟩)) eqs_ok spec_l04Corner_Lt ?_ ?_ spec_l04Corner_sh spec_l04Corner_run ?_
  · exact (fun _ h => absurd h List.not_mem_nil)
  · exact (fun _ h => absurd h List.not_mem_nil)
  · intro n p κ r ds hd hr
    have hr0 := hr
    unfold spec_l04Corner_run spec_l04Corner_runG at hr
    split at hr
    · rw [← ds_of hd]
      exact ⟨en_of (spec_l04Corner_en _ _ _ _ _ _ _) ⟨rfl, rfl⟩, (spec_l04Corner_ev n _ _ _ _ _ _ _ κ).trans hr0⟩
    · cases hr

/-! loop.example/g01297/spec.l02Sine -/
def spec_l02Sine_sh : List SkD := [.agg [.int .i64, .int .i64, .int .i64, .int .i64]]
def spec_l02Sine_runG {α : Type} (F : Nat → Int → Int → Int → Int → (Int → Option α) → Option α) (n : Nat) (p : List P1) (κ : Res → Option α) : Option α := match p with
  | [.int x, .int x1, .int x2, .int x3] => F n x x1 x2 x3 (fun v1 => κ ⟨[.int .i64 v1], []⟩)
  | _ => none
def spec_l02Sine_run {α : Type} (n : Nat) (p : List P1) (κ : Res → Option α) : Option α := spec_l02Sine_runG spec_l02Sine n p κ
def spec_l02Sine_CG {α : Type} (F0 : Nat → Int → Int → Int → Int → (Int → Option α) → Option α) (n : Nat) : FuncId → List D → (Res → Option α) → Option α := tabC [(19, (byShape spec_l01Det_sh (spec_l01Det_runG F0 n)))]
def spec_l02Sine_C {α : Type} (n : Nat) : FuncId → List D → (Res → Option α) → Option α := spec_l02Sine_CG spec_l01Det n
def spec_l02Sine_M : FuncId → List Nat := tabM []
def spec_l02Sine_lpsG {α : Type}  : List (LoopT α) := []
def spec_l02Sine_lps {α : Type} : List (LoopT α) := spec_l02Sine_lpsG
def spec_l02Sine_XG {α : Type} (F0 : Nat → Int → Int → Int → Int → (Int → Option α) → Option α)  (n : Nat) : Ctx α := ⟨spec_l02Sine_CG F0 n, spec_l02Sine_M, eqs, lpOf (spec_l02Sine_lpsG) n⟩
def spec_l02Sine_X {α : Type} (n : Nat) : Ctx α := spec_l02Sine_XG spec_l01Det n
def spec_l02Sine_Lt (np : Nat) (lent : List (Bool × Nat × Blk)) : Prop := np = 1 ∧ lent = []
def spec_l02Sine_body {α : Type} (F0 : Nat → Int → Int → Int → Int → (Int → Option α) → Option α)  (k : Nat) (x : Int) (x1 : Int) (x2 : Int) (x3 : Int) (r0 : Int → Option α) : Option α :=
  F0 k x x1 x2 x3 fun v =>
  r0 (max v (w64 (0 - v)))
theorem spec_l02Sine_gen {α : Type} (F0 : Nat → Int → Int → Int → Int → (Int → Option α) → Option α)  (n : Nat) (x : Int) (x1 : Int) (x2 : Int) (x3 : Int) (κ : Res → Option α) : evFn Try.prog (spec_l02Sine_XG F0 n) Try.f11 (((buildDs spec_l02Sine_sh [.int x, .int x1, .int x2, .int x3]).map Prod.fst).getD []) κ = spec_l02Sine_body F0 n x x1 x2 x3 (fun v1 => κ ⟨[.int .i64 v1], []⟩) := by kernel_rfl
theorem spec_l02Sine_eq {α : Type} (n : Nat) (x : Int) (x1 : Int) (x2 : Int) (x3 : Int) (r0 : Int → Option α) : spec_l02Sine_body spec_l01Det n x x1 x2 x3 r0 = spec_l02Sine n x x1 x2 x3 r0 := (spec_l02Sine_body.eq_1 spec_l01Det n x x1 x2 x3 r0).trans (spec_l02Sine.eq_1 n x x1 x2 x3 r0).symm
theorem spec_l02Sine_rn {α : Type} (F : Nat → Int → Int → Int → Int → (Int → Option α) → Option α) (n : Nat) (x : Int) (x1 : Int) (x2 : Int) (x3 : Int) (κ : Res → Option α) : spec_l02Sine_runG F n [.int x, .int x1, .int x2, .int x3] κ = F n x x1 x2 x3 (fun v1 => κ ⟨[.int .i64 v1], []⟩) := rfl
theorem spec_l02Sine_ev {α : Type} (n : Nat) (x : Int) (x1 : Int) (x2 : Int) (x3 : Int) (κ : Res → Option α) : evFn Try.prog (spec_l02Sine_X n) Try.f11 (((buildDs spec_l02Sine_sh [.int x, .int x1, .int x2, .int x3]).map Prod.fst).getD []) κ = spec_l02Sine_run n [.int x, .int x1, .int x2, .int x3] κ := (spec_l02Sine_gen spec_l01Det n x x1 x2 x3 κ).trans ((spec_l02Sine_eq n x x1 x2 x3 (fun v1 => κ ⟨[.int .i64 v1], []⟩)).trans ((spec_l02Sine_run.eq_1 n [.int x, .int x1, .int x2, .int x3] κ).trans (spec_l02Sine_rn spec_l02Sine n x x1 x2 x3 κ)).symm)
theorem spec_l02Sine_en (x : Int) (x1 : Int) (x2 : Int) (x3 : Int) : (entry 0 (((buildDs spec_l02Sine_sh [.int x, .int x1, .int x2, .int x3]).map Prod.fst).getD [])).map (fun x => (x.1.length, x.2.lent)) = some (1, []) := by kernel_rfl
theorem spec_l02Sine_good {α : Type} : ∀ n, GoodFn (α := α) Try.prog 11 (byShape spec_l02Sine_sh (spec_l02Sine_run n)) := by
  refine fn_good' Try.func11 (c := (Try.f11.body.getD .skip)) (by kernel_rfl) (by kernel_rfl) (by kernel_rfl) spec_l02Sine_C spec_l02Sine_M eqs spec_l02Sine_lps (fun n => tabC_good (List.forall_mem_cons.2 ⟨(spec_l01Det_good n), (fun _ h => absurd h List.not_mem_nil)⟩)) eqs_ok spec_l02Sine_Lt ?_ ?_ spec_l02Sine_sh spec_l02Sine_run ?_
  · exact (fun _ h => absurd h List.not_mem_nil)
  · exact (fun _ h => absurd h List.not_mem_nil)
  · intro n p κ r ds hd hr
    have hr0 := hr
    unfold spec_l02Sine_run spec_l02Sine_runG at hr
    split at hr
    · rw [← ds_of hd]
      exact ⟨en_of (spec_l02Sine_en _ _ _ _) ⟨rfl, rfl⟩, (spec_l02Sine_ev n _ _ _ _ κ).trans hr0⟩
    · cases hr

/-! loop.example/g01297/spec.SinesOf -/
def spec_SinesOf_sh : List SkD := [.agg [.int .i64, .int .i64, .int .i64, .int .i64, .int .i64, .int .i64]]
def spec_SinesOf_runG {α : Type} (F : Nat → Int → Int → Int → Int → Int → Int → (Int → Option α) → (List Int → Int → Option α) → Option α) (n : Nat) (p : List P1) (κ : Res → Option α) : Option α := match p with
  | [.int t, .int t1, .int t2, .int t3, .int t4, .int t5] => F n t t1 t2 t3 t4 t5 (fun v1 => κ ⟨[.nilsl, .int .i64 v1], []⟩) (fun v1 v2 => κ ⟨[.sl 2 (.int .i64) v1, .int .i64 v2], []⟩)
  | _ => none
def spec_SinesOf_run {α : Type} (n : Nat) (p : List P1) (κ : Res → Option α) : Option α := spec_SinesOf_runG spec_SinesOf n p κ
def spec_SinesOf_CG {α : Type} (F0 : Nat → Int → Int → Int → Int → Int → Int → (Bool → Option α) → Option α) (F1 : Nat → Int → Int → Int → Int → Int → Int → Int → (Int → Int → Int → Int → Option α) → Option α) (F2 : Nat → Int → Int → Int → Int → (Int → Option α) → Option α) (n : Nat) : FuncId → List D → (Res → Option α) → Option α := tabC [(10, (byShape spec_l04Is_sh (spec_l04Is_runG F0 n))), (12, (byShape spec_l04Corner_sh (spec_l04Corner_runG F1 n))), (11, (byShape spec_l02Sine_sh (spec_l02Sine_runG F2 n)))]
def spec_SinesOf_C {α : Type} (n : Nat) : FuncId → List D → (Res → Option α) → Option α := spec_SinesOf_CG spec_l04Is spec_l04Corner spec_l02Sine n
def spec_SinesOf_M : FuncId → List Nat := tabM []
def spec_SinesOf_lpsG {α : Type}  : List (LoopT α) := []
def spec_SinesOf_lps {α : Type} : List (LoopT α) := spec_SinesOf_lpsG
def spec_SinesOf_XG {α : Type} (F0 : Nat → Int → Int → Int → Int → Int → Int → (Bool → Option α) → Option α) (F1 : Nat → Int → Int → Int → Int → Int → Int → Int → (Int → Int → Int → Int → Option α) → Option α) (F2 : Nat → Int → Int → Int → Int → (Int → Option α) → Option α)  (n : Nat) : Ctx α := ⟨spec_SinesOf_CG F0 F1 F2 n, spec_SinesOf_M, eqs, lpOf (spec_SinesOf_lpsG) n⟩
def spec_SinesOf_X {α : Type} (n : Nat) : Ctx α := spec_SinesOf_XG spec_l04Is spec_l04Corner spec_l02Sine n
def spec_SinesOf_Lt (np : Nat) (lent : List (Bool × Nat × Blk)) : Prop := np = 1 ∧ lent = []
def spec_SinesOf_body {α : Type} (F0 : Nat → Int → Int → Int → Int → Int → Int → (Bool → Option α) → Option α) (F1 : Nat → Int → Int → Int → Int → Int → Int → Int → (Int → Int → Int → Int → Option α) → Option α) (F2 : Nat → Int → Int → Int → Int → (Int → Option α) → Option α)  (k : Nat) (t : Int) (t1 : Int) (t2 : Int) (t3 : Int) (t4 : Int) (t5 : Int) (r0 : Int → Option α) (r1 : List Int → Int → Option α) : Option α :=
  F0 k t t1 t2 t3 t4 t5 fun v =>
  bif (!v) then
    r0 1
  else
    F1 k t t1 t2 t3 t4 t5 0 fun v1 v2 v3 v4 =>
    F2 k v1 v2 v3 v4 fun v5 =>
    F1 k t t1 t2 t3 t4 t5 1 fun v6 v7 v8 v9 =>
    F2 k v6 v7 v8 v9 fun v10 =>
    F1 k t t1 t2 t3 t4 t5 2 fun v11 v12 v13 v14 =>
    F2 k v11 v12 v13 v14 fun v15 =>
    r1 [v5, v10, v15] 0
theorem spec_SinesOf_gen {α : Type} (F0 : Nat → Int → Int → Int → Int → Int → Int → (Bool → Option α) → Option α) (F1 : Nat → Int → Int → Int → Int → Int → Int → Int → (Int → Int → Int → Int → Option α) → Option α) (F2 : Nat → Int → Int → Int → Int → (Int → Option α) → Option α)  (n : Nat) (t : Int) (t1 : Int) (t2 : Int) (t3 : Int) (t4 : Int) (t5 : Int) (κ : Res → Option α) : evFn Try.prog (spec_SinesOf_XG F0 F1 F2 n) Try.f4 (((buildDs spec_SinesOf_sh [.int t, .int t1, .int t2, .int t3, .int t4, .int t5]).map Prod.fst).getD []) κ = spec_SinesOf_body F0 F1 F2 n t t1 t2 t3 t4 t5 (fun v1 => κ ⟨[.nilsl, .int .i64 v1], []⟩) (fun v1 v2 => κ ⟨[.sl 2 (.int .i64) v1, .int .i64 v2], []⟩) := by kernel_rfl
theorem spec_SinesOf_eq {α : Type} (n : Nat) (t : Int) (t1 : Int) (t2 : Int) (t3 : Int) (t4 : Int) (t5 : Int) (r0 : Int → Option α) (r1 : List Int → Int → Option α) : spec_SinesOf_body spec_l04Is spec_l04Corner spec_l02Sine n t t1 t2 t3 t4 t5 r0 r1 = spec_SinesOf n t t1 t2 t3 t4 t5 r0 r1 := (spec_SinesOf_body.eq_1 spec_l04Is spec_l04Corner spec_l02Sine n t t1 t2 t3 t4 t5 r0 r1).trans (spec_SinesOf.eq_1 n t t1 t2 t3 t4 t5 r0 r1).symm
theorem spec_SinesOf_rn {α : Type} (F : Nat → Int → Int → Int → Int → Int → Int → (Int → Option α) → (List Int → Int → Option α) → Option α) (n : Nat) (t : Int) (t1 : Int) (t2 : Int) (t3 : Int) (t4 : Int) (t5 : Int) (κ : Res → Option α) : spec_SinesOf_runG F n [.int t, .int t1, .int t2, .int t3, .int t4, .int t5] κ = F n t t1 t2 t3 t4 t5 (fun v1 => κ ⟨[.nilsl, .int .i64 v1], []⟩) (fun v1 v2 => κ ⟨[.sl 2 (.int .i64) v1, .int .i64 v2], []⟩) := rfl
theorem spec_SinesOf_ev {α : Type} (n : Nat) (t : Int) (t1 : Int) (t2 : Int) (t3 : Int) (t4 : Int) (t5 : Int) (κ : Res → Option α) : evFn Try.prog (spec_SinesOf_X n) Try.f4 (((buildDs spec_SinesOf_sh [.int t, .int t1, .int t2, .int t3, .int t4, .int t5]).map Prod.fst).getD []) κ = spec_SinesOf_run n [.int t, .int t1, .int t2, .int t3, .int t4, .int t5] κ := (spec_SinesOf_gen spec_l04Is spec_l04Corner spec_l02Sine n t t1 t2 t3 t4 t5 κ).trans ((spec_SinesOf_eq n t t1 t2 t3 t4 t5 (fun v1 => κ ⟨[.nilsl, .int .i64 v1], []⟩) (fun v1 v2 => κ ⟨[.sl 2 (.int .i64) v1, .int .i64 v2], []⟩)).trans ((spec_SinesOf_run.eq_1 n [.int t, .int t1, .int t2, .int t3, .int t4, .int t5] κ).trans (spec_SinesOf_rn spec_SinesOf n t t1 t2 t3 t4 t5 κ)).symm)
theorem spec_SinesOf_en (t : Int) (t1 : Int) (t2 : Int) (t3 : Int) (t4 : Int) (t5 : Int) : (entry 0 (((buildDs spec_SinesOf_sh [.int t, .int t1, .int t2, .int t3, .int t4, .int t5]).map Prod.fst).getD [])).map (fun x => (x.1.length, x.2.lent)) = some (1, []) := by kernel_rfl
theorem spec_SinesOf_good {α : Type} : ∀ n, GoodFn (α := α) Try.prog 4 (byShape spec_SinesOf_sh (spec_SinesOf_run n)) := by
  refine fn_good' Try.func4 (c := (Try.f4.body.getD .skip)) (by kernel_rfl) (by kernel_rfl) (by kernel_rfl) spec_SinesOf_C spec_SinesOf_M eqs spec_SinesOf_lps (fun n => tabC_good (List.forall_mem_cons.2 ⟨(spec_l04Is_good n), (List.forall_mem_cons.2 ⟨(spec_l04Corner_good n), (List.forall_mem_cons.2 ⟨(spec_l02Sine_good n), (fun _ h => absurd h List.not_mem_nil)⟩)⟩)⟩)) eqs_ok spec_SinesOf_Lt ?_ ?_ spec_SinesOf_sh spec_SinesOf_run ?_
  · exact (fun _ h => absurd h List.not_mem_nil)
  · exact (fun _ h => absurd h List.not_mem_nil)
  · intro n p κ r ds hd hr
    have hr0 := hr
    unfold spec_SinesOf_run spec_SinesOf_runG at hr
    split at hr
    · rw [← ds_of hd]
      exact ⟨en_of (spec_SinesOf_en _ _ _ _ _ _) ⟨rfl, rfl⟩, (spec_SinesOf_ev n _ _ _ _ _ _ κ).trans hr0⟩
    · cases hr

/-! loop.example/g01297/impl.in -/
def impl_in_sh : List SkD := [.int .i64, .int .i64, .int .i64]
def impl_in_runG {α : Type} (F : Nat → Int → Int → Int → (Bool → Option α) → Option α) (n : Nat) (p : List P1) (κ : Res → Option α) : Option α := match p with
  | [.int n_, .int low, .int high] => F n n_ low high (fun v1 => κ ⟨[.bool v1], []⟩)
  | _ => none
def impl_in_run {α : Type} (n : Nat) (p : List P1) (κ : Res → Option α) : Option α := impl_in_runG impl_in n p κ
def impl_in_CG {α : Type}  (n : Nat) : FuncId → List D → (Res → Option α) → Option α := tabC []
def impl_in_C {α : Type} (n : Nat) : FuncId → List D → (Res → Option α) → Option α := impl_in_CG n
def impl_in_M : FuncId → List Nat := tabM []
def impl_in_lpsG {α : Type}  : List (LoopT α) := []
def impl_in_lps {α : Type} : List (LoopT α) := impl_in_lpsG
def impl_in_XG {α : Type}   (n : Nat) : Ctx α := ⟨impl_in_CG n, impl_in_M, eqs, lpOf (impl_in_lpsG) n⟩
def impl_in_X {α : Type} (n : Nat) : Ctx α := impl_in_XG n
def impl_in_Lt (np : Nat) (lent : List (Bool × Nat × Blk)) : Prop := np = 3 ∧ lent = []
def impl_in_body {α : Type}   (k : Nat) (n_ : Int) (low : Int) (high : Int) (r0 : Bool → Option α) : Option α :=
  bif decide (low ≤ n_) then
    r0 (decide (n_ ≤ high))
  else
    r0 false
theorem impl_in_gen {α : Type}   (n : Nat) (n_ : Int) (low : Int) (high : Int) (κ : Res → Option α) : evFn Try.prog (impl_in_XG n) Try.f29 (((buildDs impl_in_sh [.int n_, .int low, .int high]).map Prod.fst).getD []) κ = impl_in_body n n_ low high (fun v1 => κ ⟨[.bool v1], []⟩) := by kernel_rfl
theorem impl_in_eq {α : Type} (n : Nat) (n_ : Int) (low : Int) (high : Int) (r0 : Bool → Option α) : impl_in_body n n_ low high r0 = impl_in n n_ low high r0 := (impl_in_body.eq_1 n n_ low high r0).trans (impl_in.eq_1 n n_ low high r0).symm
theorem impl_in_rn {α : Type} (F : Nat → Int → Int → Int → (Bool → Option α) → Option α) (n : Nat) (n_ : Int) (low : Int) (high : Int) (κ : Res → Option α) : impl_in_runG F n [.int n_, .int low, .int high] κ = F n n_ low high (fun v1 => κ ⟨[.bool v1], []⟩) := rfl
theorem impl_in_ev {α : Type} (n : Nat) (n_ : Int) (low : Int) (high : Int) (κ : Res → Option α) : evFn Try.prog (impl_in_X n) Try.f29 (((buildDs impl_in_sh [.int n_, .int low, .int high]).map Prod.fst).getD []) κ = impl_in_run n [.int n_, .int low, .int high] κ := (impl_in_gen n n_ low high κ).trans ((impl_in_eq n n_ low high (fun v1 => κ ⟨[.bool v1], []⟩)).trans ((impl_in_run.eq_1 n [.int n_, .int low, .int high] κ).trans (impl_in_rn impl_in n n_ low high κ)).symm)
theorem impl_in_en (n_ : Int) (low : Int) (high : Int) : (entry 0 (((buildDs impl_in_sh [.int n_, .int low, .int high]).map Prod.fst).getD [])).map (fun x => (x.1.length, x.2.lent)) = some (3, []) := by kernel_rfl
theorem impl_in_good {α : Type} : ∀ n, GoodFn (α := α) Try.prog 29 (byShape impl_in_sh (impl_in_run n)) := by
  refine fn_good' Try.func29 (c := (Try.f29.body.getD .skip)) (by kernel_rfl) (by kernel_rfl) (by kernel_rfl) impl_in_C impl_in_M eqs impl_in_lps (fun n => tabC_good (fun _ h => absurd h List.not_mem_nil)) eqs_ok impl_in_Lt ?_ ?_ impl_in_sh impl_in_run ?_
  · exact (fun _ h => absurd h List.not_mem_nil)
  · exact (fun _ h => absurd h List.not_mem_nil)
  · intro n p κ r ds hd hr
    have hr0 := hr
    unfold impl_in_run impl_in_runG at hr
    split at hr
    · rw [← ds_of hd]
      exact ⟨en_of (impl_in_en _ _ _) ⟨rfl, rfl⟩, (impl_in_ev n _ _ _ κ).trans hr0⟩
    · cases hr

/-! loop.example/g01297/impl.small -/
def impl_small_sh : List SkD := [.agg [.int .i64, .int .i64]]
def impl_small_runG {α : Type} (F : Nat → Int → Int → (Bool → Option α) → Option α) (n : Nat) (p : List P1) (κ : Res → Option α) : Option α := match p with
  | [.int a, .int a1] => F n a a1 (fun v1 => κ ⟨[.bool v1], []⟩)
  | _ => none
def impl_small_run {α : Type} (n : Nat) (p : List P1) (κ : Res → Option α) : Option α := impl_small_runG impl_small n p κ
def impl_small_CG {α : Type} (F0 : Nat → Int → Int → Int → (Bool → Option α) → Option α) (n : Nat) : FuncId → List D → (Res → Option α) → Option α := tabC [(29, (byShape impl_in_sh (impl_in_runG F0 n)))]
def impl_small_C {α : Type} (n : Nat) : FuncId → List D → (Res → Option α) → Option α := impl_small_CG impl_in n
def impl_small_M : FuncId → List Nat := tabM []
def impl_small_lpsG {α : Type}  : List (LoopT α) := []
def impl_small_lps {α : Type} : List (LoopT α) := impl_small_lpsG
def impl_small_XG {α : Type} (F0 : Nat → Int → Int → Int → (Bool → Option α) → Option α)  (n : Nat) : Ctx α := ⟨impl_small_CG F0 n, impl_small_M, eqs, lpOf (impl_small_lpsG) n⟩
def impl_small_X {α : Type} (n : Nat) : Ctx α := impl_small_XG impl_in n
def impl_small_Lt (np : Nat) (lent : List (Bool × Nat × Blk)) : Prop := np = 1 ∧ lent = []
def impl_small_body {α : Type} (F0 : Nat → Int → Int → Int → (Bool → Option α) → Option α)  (k : Nat) (a : Int) (a1 : Int) (r0 : Bool → Option α) : Option α :=
  F0 k a (-1000) 1000 fun v =>
  bif v then
    F0 k a1 (-1000) 1000 fun v1 =>
    r0 v1
  else
    r0 false
theorem impl_small_gen {α : Type} (F0 : Nat → Int → Int → Int → (Bool → Option α) → Option α)  (n : Nat) (a : Int) (a1 : Int) (κ : Res → Option α) : evFn Try.prog (impl_small_XG F0 n) Try.f22 (((buildDs impl_small_sh [.int a, .int a1]).map Prod.fst).getD []) κ = impl_small_body F0 n a a1 (fun v1 => κ ⟨[.bool v1], []⟩) := by kernel_rfl
theorem impl_small_eq {α : Type} (n : Nat) (a : Int) (a1 : Int) (r0 : Bool → Option α) : impl_small_body impl_in n a a1 r0 = impl_small n a a1 r0 := (impl_small_body.eq_1 impl_in n a a1 r0).trans (impl_small.eq_1 n a a1 r0).symm
theorem impl_small_rn {α : Type} (F : Nat → Int → Int → (Bool → Option α) → Option α) (n : Nat) (a : Int) (a1 : Int) (κ : Res → Option α) : impl_small_runG F n [.int a, .int a1] κ = F n a a1 (fun v1 => κ ⟨[.bool v1], []⟩) := rfl
theorem impl_small_ev {α : Type} (n : Nat) (a : Int) (a1 : Int) (κ : Res → Option α) : evFn Try.prog (impl_small_X n) Try.f22 (((buildDs impl_small_sh [.int a, .int a1]).map Prod.fst).getD []) κ = impl_small_run n [.int a, .int a1] κ := (impl_small_gen impl_in n a a1 κ).trans ((impl_small_eq n a a1 (fun v1 => κ ⟨[.bool v1], []⟩)).trans ((impl_small_run.eq_1 n [.int a, .int a1] κ).trans (impl_small_rn impl_small n a a1 κ)).symm)
theorem impl_small_en (a : Int) (a1 : Int) : (entry 0 (((buildDs impl_small_sh [.int a, .int a1]).map Prod.fst).getD [])).map (fun x => (x.1.length, x.2.lent)) = some (1, []) := by kernel_rfl
theorem impl_small_good {α : Type} : ∀ n, GoodFn (α := α) Try.prog 22 (byShape impl_small_sh (impl_small_run n)) := by
  refine fn_good' Try.func22 (c := (Try.f22.body.getD .skip)) (by kernel_rfl) (by kernel_rfl) (by kernel_rfl) impl_small_C impl_small_M eqs impl_small_lps (fun n => tabC_good (List.forall_mem_cons.2 ⟨(impl_in_good n), (fun _ h => absurd h List.not_mem_nil)⟩)) eqs_ok impl_small_Lt ?_ ?_ impl_small_sh impl_small_run ?_
  · exact (fun _ h => absurd h List.not_mem_nil)
  · exact (fun _ h => absurd h List.not_mem_nil)
  · intro n p κ r ds hd hr
    have hr0 := hr
    unfold impl_small_run impl_small_runG at hr
    split at hr
    · rw [← ds_of hd]
      exact ⟨en_of (impl_small_en _ _) ⟨rfl, rfl⟩, (impl_small_ev n _ _ κ).trans hr0⟩
    · cases hr

/-! (loop.example/g01297/impl.Point).plus -/
def impl_Point_plus_sh : List SkD := [.agg [.int .i64, .int .i64], .agg [.int .i64, .int .i64], .int .i64]
def impl_Point_plus_runG {α : Type} (F : Nat → Int → Int → Int → Int → Int → (Int → Int → Option α) → Option α) (n : Nat) (p : List P1) (κ : Res → Option α) : Option α := match p with
  | [.int a, .int a1, .int b_, .int b_1, .int k_] => F n a a1 b_ b_1 k_ (fun v1 v2 => κ ⟨[.agg [.int .i64 v1, .int .i64 v2]], []⟩)
  | _ => none
def impl_Point_plus_run {α : Type} (n : Nat) (p : List P1) (κ : Res → Option α) : Option α := impl_Point_plus_runG impl_Point_plus n p κ
def impl_Point_plus_CG {α : Type}  (n : Nat) : FuncId → List D → (Res → Option α) → Option α := tabC []
def impl_Point_plus_C {α : Type} (n : Nat) : FuncId → List D → (Res → Option α) → Option α := impl_Point_plus_CG n
def impl_Point_plus_M : FuncId → List Nat := tabM []
def impl_Point_plus_lpsG {α : Type}  : List (LoopT α) := []
def impl_Point_plus_lps {α : Type} : List (LoopT α) := impl_Point_plus_lpsG
def impl_Point_plus_XG {α : Type}   (n : Nat) : Ctx α := ⟨impl_Point_plus_CG n, impl_Point_plus_M, eqs, lpOf (impl_Point_plus_lpsG) n⟩
def impl_Point_plus_X {α : Type} (n : Nat) : Ctx α := impl_Point_plus_XG n
def impl_Point_plus_Lt (np : Nat) (lent : List (Bool × Nat × Blk)) : Prop := np = 3 ∧ lent = []
def impl_Point_plus_body {α : Type}   (k : Nat) (a : Int) (a1 : Int) (b_ : Int) (b_1 : Int) (k_ : Int) (r0 : Int → Int → Option α) : Option α :=
  r0 (w64 (a + (w64 (k_ * b_)))) (w64 (a1 + (w64 (k_ * b_1))))
theorem impl_Point_plus_gen {α : Type}   (n : Nat) (a : Int) (a1 : Int) (b_ : Int) (b_1 : Int) (k_ : Int) (κ : Res → Option α) : evFn Try.prog (impl_Point_plus_XG n) Try.f32 (((buildDs impl_Point_plus_sh [.int a, .int a1, .int b_, .int b_1, .int k_]).map Prod.fst).getD []) κ = impl_Point_plus_body n a a1 b_ b_1 k_ (fun v1 v2 => κ ⟨[.agg [.int .i64 v1, .int .i64 v2]], []⟩) := by kernel_rfl
theorem impl_Point_plus_eq {α : Type} (n : Nat) (a : Int) (a1 : Int) (b_ : Int) (b_1 : Int) (k_ : Int) (r0 : Int → Int → Option α) : impl_Point_plus_body n a a1 b_ b_1 k_ r0 = impl_Point_plus n a a1 b_ b_1 k_ r0 := (impl_Point_plus_body.eq_1 n a a1 b_ b_1 k_ r0).trans (impl_Point_plus.eq_1 n a a1 b_ b_1 k_ r0).symm
theorem impl_Point_plus_rn {α : Type} (F : Nat → Int → Int → Int → Int → Int → (Int → Int → Option α) → Option α) (n : Nat) (a : Int) (a1 : Int) (b_ : Int) (b_1 : Int) (k_ : Int) (κ : Res → Option α) : impl_Point_plus_runG F n [.int a, .int a1, .int b_, .int b_1, .int k_] κ = F n a a1 b_ b_1 k_ (fun v1 v2 => κ ⟨[.agg [.int .i64 v1, .int .i64 v2]], []⟩) := rfl
theorem impl_Point_plus_ev {α : Type} (n : Nat) (a : Int) (a1 : Int) (b_ : Int) (b_1 : Int) (k_ : Int) (κ : Res → Option α) : evFn Try.prog (impl_Point_plus_X n) Try.f32 (((buildDs impl_Point_plus_sh [.int a, .int a1, .int b_, .int b_1, .int k_]).map Prod.fst).getD []) κ = impl_Point_plus_run n [.int a, .int a1, .int b_, .int b_1, .int k_] κ := (impl_Point_plus_gen n a a1 b_ b_1 k_ κ).trans ((impl_Point_plus_eq n a a1 b_ b_1 k_ (fun v1 v2 => κ ⟨[.agg [.int .i64 v1, .int .i64 v2]], []⟩)).trans ((impl_Point_plus_run.eq_1 n [.int a, .int a1, .int b_, .int b_1, .int k_] κ).trans (impl_Point_plus_rn impl_Point_plus n a a1 b_ b_1 k_ κ)).symm)
theorem impl_Point_plus_en (a : Int) (a1 : Int) (b_ : Int) (b_1 : Int) (k_ : Int) : (entry 0 (((buildDs impl_Point_plus_sh [.int a, .int a1, .int b_, .int b_1, .int k_]).map Prod.fst).getD [])).map (fun x => (x.1.length, x.2.lent)) = some (3, []) := by kernel_rfl
theorem impl_Point_plus_good {α : Type} : ∀ n, GoodFn (α := α) Try.prog 32 (byShape impl_Point_plus_sh (impl_Point_plus_run n)) := by
  refine fn_good' Try.func32 (c := (Try.f32.body.getD .skip)) (by kernel_rfl) (by kernel_rfl) (by kernel_rfl) impl_Point_plus_C impl_Point_plus_M eqs impl_Point_plus_lps (fun n => tabC_good (fun _ h => absurd h List.not_mem_nil)) eqs_ok impl_Point_plus_Lt ?_ ?_ impl_Point_plus_sh impl_Point_plus_run ?_
  · exact (fun _ h => absurd h List.not_mem_nil)
  · exact (fun _ h => absurd h List.not_mem_nil)
  · intro n p κ r ds hd hr
    have hr0 := hr
    unfold impl_Point_plus_run impl_Point_plus_runG at hr
    split at hr
    · rw [← ds_of hd]
      exact ⟨en_of (impl_Point_plus_en _ _ _ _ _) ⟨rfl, rfl⟩, (impl_Point_plus_ev n _ _ _ _ _ κ).trans hr0⟩
    · cases hr

/-! (loop.example/g01297/impl.Point).less -/
def impl_Point_less_sh : List SkD := [.agg [.int .i64, .int .i64], .agg [.int .i64, .int .i64]]
def impl_Point_less_runG {α : Type} (F : Nat → Int → Int → Int → Int → (Int → Int → Option α) → Option α) (n : Nat) (p : List P1) (κ : Res → Option α) : Option α := match p with
  | [.int a, .int a1, .int b_, .int b_1] => F n a a1 b_ b_1 (fun v1 v2 => κ ⟨[.agg [.int .i64 v1, .int .i64 v2]], []⟩)
  | _ => none
def impl_Point_less_run {α : Type} (n : Nat) (p : List P1) (κ : Res → Option α) : Option α := impl_Point_less_runG impl_Point_less n p κ
def impl_Point_less_CG {α : Type} (F0 : Nat → Int → Int → Int → Int → Int → (Int → Int → Option α) → Option α) (n : Nat) : FuncId → List D → (Res → Option α) → Option α := tabC [(32, (byShape impl_Point_plus_sh (impl_Point_plus_runG F0 n)))]
def impl_Point_less_C {α : Type} (n : Nat) : FuncId → List D → (Res → Option α) → Option α := impl_Point_less_CG impl_Point_plus n
def impl_Point_less_M : FuncId → List Nat := tabM []
def impl_Point_less_lpsG {α : Type}  : List (LoopT α) := []
def impl_Point_less_lps {α : Type} : List (LoopT α) := impl_Point_less_lpsG
def impl_Point_less_XG {α : Type} (F0 : Nat → Int → Int → Int → Int → Int → (Int → Int → Option α) → Option α)  (n : Nat) : Ctx α := ⟨impl_Point_less_CG F0 n, impl_Point_less_M, eqs, lpOf (impl_Point_less_lpsG) n⟩
def impl_Point_less_X {α : Type} (n : Nat) : Ctx α := impl_Point_less_XG impl_Point_plus n
def impl_Point_less_Lt (np : Nat) (lent : List (Bool × Nat × Blk)) : Prop := np = 2 ∧ lent = []
def impl_Point_less_body {α : Type} (F0 : Nat → Int → Int → Int → Int → Int → (Int → Int → Option α) → Option α)  (k : Nat) (a : Int) (a1 : Int) (b_ : Int) (b_1 : Int) (r0 : Int → Int → Option α) : Option α :=
  F0 k a a1 b_ b_1 (-1) fun v v1 =>
  r0 v v1
theorem impl_Point_less_gen {α : Type} (F0 : Nat → Int → Int → Int → Int → Int → (Int → Int → Option α) → Option α)  (n : Nat) (a : Int) (a1 : Int) (b_ : Int) (b_1 : Int) (κ : Res → Option α) : evFn Try.prog (impl_Point_less_XG F0 n) Try.f30 (((buildDs impl_Point_less_sh [.int a, .int a1, .int b_, .int b_1]).map Prod.fst).getD []) κ = impl_Point_less_body F0 n a a1 b_ b_1 (fun v1 v2 => κ ⟨[.agg [.int .i64 v1, .int .i64 v2]], []⟩) := by kernel_rfl
theorem impl_Point_less_eq {α : Type} (n : Nat) (a : Int) (a1 : Int) (b_ : Int) (b_1 : Int) (r0 : Int → Int → Option α) : impl_Point_less_body impl_Point_plus n a a1 b_ b_1 r0 = impl_Point_less n a a1 b_ b_1 r0 := (impl_Point_less_body.eq_1 impl_Point_plus n a a1 b_ b_1 r0).trans (impl_Point_less.eq_1 n a a1 b_ b_1 r0).symm
theorem impl_Point_less_rn {α : Type} (F : Nat → Int → Int → Int → Int → (Int → Int → Option α) → Option α) (n : Nat) (a : Int) (a1 : Int) (b_ : Int) (b_1 : Int) (κ : Res → Option α) : impl_Point_less_runG F n [.int a, .int a1, .int b_, .int b_1] κ = F n a a1 b_ b_1 (fun v1 v2 => κ ⟨[.agg [.int .i64 v1, .int .i64 v2]], []⟩) := rfl
theorem impl_Point_less_ev {α : Type} (n : Nat) (a : Int) (a1 : Int) (b_ : Int) (b_1 : Int) (κ : Res → Option α) : evFn Try.prog (impl_Point_less_X n) Try.f30 (((buildDs impl_Point_less_sh [.int a, .int a1, .int b_, .int b_1]).map Prod.fst).getD []) κ = impl_Point_less_run n [.int a, .int a1, .int b_, .int b_1] κ := (impl_Point_less_gen impl_Point_plus n a a1 b_ b_1 κ).trans ((impl_Point_less_eq n a a1 b_ b_1 (fun v1 v2 => κ ⟨[.agg [.int .i64 v1, .int .i64 v2]], []⟩)).trans ((impl_Point_less_run.eq_1 n [.int a, .int a1, .int b_, .int b_1] κ).trans (impl_Point_less_rn impl_Point_less n a a1 b_ b_1 κ)).symm)
theorem impl_Point_less_en (a : Int) (a1 : Int) (b_ : Int) (b_1 : Int) : (entry 0 (((buildDs impl_Point_less_sh [.int a, .int a1, .int b_, .int b_1]).map Prod.fst).getD [])).map (fun x => (x.1.length, x.2.lent)) = some (2, []) := by kernel_rfl
theorem impl_Point_less_good {α : Type} : ∀ n, GoodFn (α := α) Try.prog 30 (byShape impl_Point_less_sh (impl_Point_less_run n)) := by
  refine fn_good' Try.func30 (c := (Try.f30.body.getD .skip)) (by kernel_rfl) (by kernel_rfl) (by kernel_rfl) impl_Point_less_C impl_Point_less_M eqs impl_Point_less_lps (fun n => tabC_good (List.forall_mem_cons.2 ⟨(impl_Point_plus_good n), (fun _ h => absurd h List.not_mem_nil)⟩)) eqs_ok impl_Point_less_Lt ?_ ?_ impl_Point_less_sh impl_Point_less_run ?_
  · exact (fun _ h => absurd h List.not_mem_nil)
  · exact (fun _ h => absurd h List.not_mem_nil)
  · intro n p κ r ds hd hr
    have hr0 := hr
    unfold impl_Point_less_run impl_Point_less_runG at hr
    split at hr
    · rw [← ds_of hd]
      exact ⟨en_of (impl_Point_less_en _ _ _ _) ⟨rfl, rfl⟩, (impl_Point_less_ev n _ _ _ _ κ).trans hr0⟩
    · cases hr

/-! loop.example/g01297/impl.det -/
def impl_det_sh : List SkD := [.agg [.int .i64, .int .i64], .agg [.int .i64, .int .i64]]
def impl_det_runG {α : Type} (F : Nat → Int → Int → Int → Int → (Int → Option α) → Option α) (n : Nat) (p : List P1) (κ : Res → Option α) : Option α := match p with
  | [.int a, .int a1, .int b_, .int b_1] => F n a a1 b_ b_1 (fun v1 => κ ⟨[.int .i64 v1], []⟩)
  | _ => none
def impl_det_run {α : Type} (n : Nat) (p : List P1) (κ : Res → Option α) : Option α := impl_det_runG impl_det n p κ
def impl_det_CG {α : Type}  (n : Nat) : FuncId → List D → (Res → Option α) → Option α := tabC []
def impl_det_C {α : Type} (n : Nat) : FuncId → List D → (Res → Option α) → Option α := impl_det_CG n
def impl_det_M : FuncId → List Nat := tabM []
def impl_det_lpsG {α : Type}  : List (LoopT α) := []
def impl_det_lps {α : Type} : List (LoopT α) := impl_det_lpsG
def impl_det_XG {α : Type}   (n : Nat) : Ctx α := ⟨impl_det_CG n, impl_det_M, eqs, lpOf (impl_det_lpsG) n⟩
def impl_det_X {α : Type} (n : Nat) : Ctx α := impl_det_XG n
def impl_det_Lt (np : Nat) (lent : List (Bool × Nat × Blk)) : Prop := np = 2 ∧ lent = []
def impl_det_body {α : Type}   (k : Nat) (a : Int) (a1 : Int) (b_ : Int) (b_1 : Int) (r0 : Int → Option α) : Option α :=
  r0 (w64 ((w64 (a * b_1)) - (w64 (a1 * b_))))
theorem impl_det_gen {α : Type}   (n : Nat) (a : Int) (a1 : Int) (b_ : Int) (b_1 : Int) (κ : Res → Option α) : evFn Try.prog (impl_det_XG n) Try.f27 (((buildDs impl_det_sh [.int a, .int a1, .int b_, .int b_1]).map Prod.fst).getD []) κ = impl_det_body n a a1 b_ b_1 (fun v1 => κ ⟨[.int .i64 v1], []⟩) := by kernel_rfl
theorem impl_det_eq {α : Type} (n : Nat) (a : Int) (a1 : Int) (b_ : Int) (b_1 : Int) (r0 : Int → Option α) : impl_det_body n a a1 b_ b_1 r0 = impl_det n a a1 b_ b_1 r0 := (impl_det_body.eq_1 n a a1 b_ b_1 r0).trans (impl_det.eq_1 n a a1 b_ b_1 r0).symm
theorem impl_det_rn {α : Type} (F : Nat → Int → Int → Int → Int → (Int → Option α) → Option α) (n : Nat) (a : Int) (a1 : Int) (b_ : Int) (b_1 : Int) (κ : Res → Option α) : impl_det_runG F n [.int a, .int a1, .int b_, .int b_1] κ = F n a a1 b_ b_1 (fun v1 => κ ⟨[.int .i64 v1], []⟩) := rfl
theorem impl_det_ev {α : Type} (n : Nat) (a : Int) (a1 : Int) (b_ : Int) (b_1 : Int) (κ : Res → Option α) : evFn Try.prog (impl_det_X n) Try.f27 (((buildDs impl_det_sh [.int a, .int a1, .int b_, .int b_1]).map Prod.fst).getD []) κ = impl_det_run n [.int a, .int a1, .int b_, .int b_1] κ := (impl_det_gen n a a1 b_ b_1 κ).trans ((impl_det_eq n a a1 b_ b_1 (fun v1 => κ ⟨[.int .i64 v1], []⟩)).trans ((impl_det_run.eq_1 n [.int a, .int a1, .int b_, .int b_1] κ).trans (impl_det_rn impl_det n a a1 b_ b_1 κ)).symm)
theorem impl_det_en (a : Int) (a1 : Int) (b_ : Int) (b_1 : Int) : (entry 0 (((buildDs impl_det_sh [.int a, .int a1, .int b_, .int b_1]).map Prod.fst).getD [])).map (fun x => (x.1.length, x.2.lent)) = some (2, []) := by kernel_rfl
theorem impl_det_good {α : Type} : ∀ n, GoodFn (α := α) Try.prog 27 (byShape impl_det_sh (impl_det_run n)) := by
  refine fn_good' Try.func27 (c := (Try.f27.body.getD .skip)) (by kernel_rfl) (by kernel_rfl) (by kernel_rfl) impl_det_C impl_det_M eqs impl_det_lps (fun n => tabC_good (fun _ h => absurd h List.not_mem_nil)) eqs_ok impl_det_Lt ?_ ?_ impl_det_sh impl_det_run ?_
  · exact (fun _ h => absurd h List.not_mem_nil)
  · exact (fun _ h => absurd h List.not_mem_nil)
  · intro n p κ r ds hd hr
    have hr0 := hr
    unfold impl_det_run impl_det_runG at hr
    split at hr
    · rw [← ds_of hd]
      exact ⟨en_of (impl_det_en _ _ _ _) ⟨rfl, rfl⟩, (impl_det_ev n _ _ _ _ κ).trans hr0⟩
    · cases hr

/-! loop.example/g01297/impl.size -/
def impl_size_sh : List SkD := [.int .i64]
def impl_size_runG {α : Type} (F : Nat → Int → (Int → Option α) → Option α) (n : Nat) (p : List P1) (κ : Res → Option α) : Option α := match p with
  | [.int n_] => F n n_ (fun v1 => κ ⟨[.int .i64 v1], []⟩)
  | _ => none
def impl_size_run {α : Type} (n : Nat) (p : List P1) (κ : Res → Option α) : Option α := impl_size_runG impl_size n p κ
def impl_size_CG {α : Type}  (n : Nat) : FuncId → List D → (Res → Option α) → Option α := tabC []
def impl_size_C {α : Type} (n : Nat) : FuncId → List D → (Res → Option α) → Option α := impl_size_CG n
def impl_size_M : FuncId → List Nat := tabM []
def impl_size_lpsG {α : Type}  : List (LoopT α) := []
def impl_size_lps {α : Type} : List (LoopT α) := impl_size_lpsG
def impl_size_XG {α : Type}   (n : Nat) : Ctx α := ⟨impl_size_CG n, impl_size_M, eqs, lpOf (impl_size_lpsG) n⟩
def impl_size_X {α : Type} (n : Nat) : Ctx α := impl_size_XG n
def impl_size_Lt (np : Nat) (lent : List (Bool × Nat × Blk)) : Prop := np = 1 ∧ lent = []
def impl_size_body {α : Type}   (k : Nat) (n_ : Int) (r0 : Int → Option α) : Option α :=
  r0 (max n_ (w64 (0 - n_)))
theorem impl_size_gen {α : Type}   (n : Nat) (n_ : Int) (κ : Res → Option α) : evFn Try.prog (impl_size_XG n) Try.f26 (((buildDs impl_size_sh [.int n_]).map Prod.fst).getD []) κ = impl_size_body n n_ (fun v1 => κ ⟨[.int .i64 v1], []⟩) := by kernel_rfl
theorem impl_size_eq {α : Type} (n : Nat) (n_ : Int) (r0 : Int → Option α) : impl_size_body n n_ r0 = impl_size n n_ r0 := (impl_size_body.eq_1 n n_ r0).trans (impl_size.eq_1 n n_ r0).symm
theorem impl_size_rn {α : Type} (F : Nat → Int → (Int → Option α) → Option α) (n : Nat) (n_ : Int) (κ : Res → Option α) : impl_size_runG F n [.int n_] κ = F n n_ (fun v1 => κ ⟨[.int .i64 v1], []⟩) := rfl
theorem impl_size_ev {α : Type} (n : Nat) (n_ : Int) (κ : Res → Option α) : evFn Try.prog (impl_size_X n) Try.f26 (((buildDs impl_size_sh [.int n_]).map Prod.fst).getD []) κ = impl_size_run n [.int n_] κ := (impl_size_gen n n_ κ).trans ((impl_size_eq n n_ (fun v1 => κ ⟨[.int .i64 v1], []⟩)).trans ((impl_size_run.eq_1 n [.int n_] κ).trans (impl_size_rn impl_size n n_ κ)).symm)
theorem impl_size_en (n_ : Int) : (entry 0 (((buildDs impl_size_sh [.int n_]).map Prod.fst).getD [])).map (fun x => (x.1.length, x.2.lent)) = some (1, []) := by kernel_rfl
theorem impl_size_good {α : Type} : ∀ n, GoodFn (α := α) Try.prog 26 (byShape impl_size_sh (impl_size_run n)) := by
  refine fn_good' Try.func26 (c := (Try.f26.body.getD .skip)) (by kernel_rfl) (by kernel_rfl) (by kernel_rfl) impl_size_C impl_size_M eqs impl_size_lps (fun n => tabC_good (fun _ h => absurd h List.not_mem_nil)) eqs_ok impl_size_Lt ?_ ?_ impl_size_sh impl_size_run ?_
  · exact (fun _ h => absurd h List.not_mem_nil)
  · exact (fun _ h => absurd h List.not_mem_nil)
  · intro n p κ r ds hd hr
    have hr0 := hr
    unfold impl_size_run impl_size_runG at hr
    split at hr
    · rw [← ds_of hd]
      exact ⟨en_of (impl_size_en _) ⟨rfl, rfl⟩, (impl_size_ev n _ κ).trans hr0⟩
    · cases hr

/-! loop.example/g01297/impl.area -/
def impl_area_sh : List SkD := [.agg [.int .i64, .int .i64], .agg [.int .i64, .int .i64], .agg [.int .i64, .int .i64]]
def impl_area_runG {α : Type} (F : Nat → Int → Int → Int → Int → Int → Int → (Int → Option α) → Option α) (n : Nat) (p : List P1) (κ : Res → Option α) : Option α := match p with
  | [.int a, .int a1, .int b_, .int b_1, .int c, .int c1] => F n a a1 b_ b_1 c c1 (fun v1 => κ ⟨[.int .i64 v1], []⟩)
  | _ => none
def impl_area_run {α : Type} (n : Nat) (p : List P1) (κ : Res → Option α) : Option α := impl_area_runG impl_area n p κ
def impl_area_CG {α : Type} (F0 : Nat → Int → Int → Int → Int → (Int → Int → Option α) → Option α) (F1 : Nat → Int → Int → Int → Int → (Int → Option α) → Option α) (F2 : Nat → Int → (Int → Option α) → Option α) (n : Nat) : FuncId → List D → (Res → Option α) → Option α := tabC [(30, (byShape impl_Point_less_sh (impl_Point_less_runG F0 n))), (27, (byShape impl_det_sh (impl_det_runG F1 n))), (26, (byShape impl_size_sh (impl_size_runG F2 n)))]
def impl_area_C {α : Type} (n : Nat) : FuncId → List D → (Res → Option α) → Option α := impl_area_CG impl_Point_less impl_det impl_size n
def impl_area_M : FuncId → List Nat := tabM []
def impl_area_lpsG {α : Type}  : List (LoopT α) := []
def impl_area_lps {α : Type} : List (LoopT α) := impl_area_lpsG
def impl_area_XG {α : Type} (F0 : Nat → Int → Int → Int → Int → (Int → Int → Option α) → Option α) (F1 : Nat → Int → Int → Int → Int → (Int → Option α) → Option α) (F2 : Nat → Int → (Int → Option α) → Option α)  (n : Nat) : Ctx α := ⟨impl_area_CG F0 F1 F2 n, impl_area_M, eqs, lpOf (impl_area_lpsG) n⟩
def impl_area_X {α : Type} (n : Nat) : Ctx α := impl_area_XG impl_Point_less impl_det impl_size n
def impl_area_Lt (np : Nat) (lent : List (Bool × Nat × Blk)) : Prop := np = 3 ∧ lent = []
def impl_area_body {α : Type} (F0 : Nat → Int → Int → Int → Int → (Int → Int → Option α) → Option α) (F1 : Nat → Int → Int → Int → Int → (Int → Option α) → Option α) (F2 : Nat → Int → (Int → Option α) → Option α)  (k : Nat) (a : Int) (a1 : Int) (b_ : Int) (b_1 : Int) (c : Int) (c1 : Int) (r0 : Int → Option α) : Option α :=
  F0 k b_ b_1 a a1 fun v v1 =>
  F0 k c c1 a a1 fun v2 v3 =>
  F1 k v v1 v2 v3 fun v4 =>
  F2 k v4 fun v5 =>
  r0 v5
theorem impl_area_gen {α : Type} (F0 : Nat → Int → Int → Int → Int → (Int → Int → Option α) → Option α) (F1 : Nat → Int → Int → Int → Int → (Int → Option α) → Option α) (F2 : Nat → Int → (Int → Option α) → Option α)  (n : Nat) (a : Int) (a1 : Int) (b_ : Int) (b_1 : Int) (c : Int) (c1 : Int) (κ : Res → Option α) : evFn Try.prog (impl_area_XG F0 F1 F2 n) Try.f23 (((buildDs impl_area_sh [.int a, .int a1, .int b_, .int b_1, .int c, .int c1]).map Prod.fst).getD []) κ = impl_area_body F0 F1 F2 n a a1 b_ b_1 c c1 (fun v1 => κ ⟨[.int .i64 v1], []⟩) := by kernel_rfl
theorem impl_area_eq {α : Type} (n : Nat) (a : Int) (a1 : Int) (b_ : Int) (b_1 : Int) (c : Int) (c1 : Int) (r0 : Int → Option α) : impl_area_body impl_Point_less impl_det impl_size n a a1 b_ b_1 c c1 r0 = impl_area n a a1 b_ b_1 c c1 r0 := (impl_area_body.eq_1 impl_Point_less impl_det impl_size n a a1 b_ b_1 c c1 r0).trans (impl_area.eq_1 n a a1 b_ b_1 c c1 r0).symm
theorem impl_area_rn {α : Type} (F : Nat → Int → Int → Int → Int → Int → Int → (Int → Option α) → Option α) (n : Nat) (a : Int) (a1 : Int) (b_ : Int) (b_1 : Int) (c : Int) (c1 : Int) (κ : Res → Option α) : impl_area_runG F n [.int a, .int a1, .int b_, .int b_1, .int c, .int c1] κ = F n a a1 b_ b_1 c c1 (fun v1 => κ ⟨[.int .i64 v1], []⟩) := rfl
theorem impl_area_ev {α : Type} (n : Nat) (a : Int) (a1 : Int) (b_ : Int) (b_1 : Int) (c : Int) (c1 : Int) (κ : Res → Option α) : evFn Try.prog (impl_area_X n) Try.f23 (((buildDs impl_area_sh [.int a, .int a1, .int b_, .int b_1, .int c, .int c1]).map Prod.fst).getD []) κ = impl_area_run n [.int a, .int a1, .int b_, .int b_1, .int c, .int c1] κ := (impl_area_gen impl_Point_less impl_det impl_size n a a1 b_ b_1 c c1 κ).trans ((impl_area_eq n a a1 b_ b_1 c c1 (fun v1 => κ ⟨[.int .i64 v1], []⟩)).trans ((impl_area_run.eq_1 n [.int a, .int a1, .int b_, .int b_1, .int c, .int c1] κ).trans (impl_area_rn impl_area n a a1 b_ b_1 c c1 κ)).symm)
theorem impl_area_en (a : Int) (a1 : Int) (b_ : Int) (b_1 : Int) (c : Int) (c1 : Int) : (entry 0 (((buildDs impl_area_sh [.int a, .int a1, .int b_, .int b_1, .int c, .int c1]).map Prod.fst).getD [])).map (fun x => (x.1.length, x.2.lent)) = some (3, []) := by kernel_rfl
theorem impl_area_good {α : Type} : ∀ n, GoodFn (α := α) Try.prog 23 (byShape impl_area_sh (impl_area_run n)) := by
  refine fn_good' Try.func23 (c := (Try.f23.body.getD .skip)) (by kernel_rfl) (by kernel_rfl) (by kernel_rfl) impl_area_C impl_area_M eqs impl_area_lps (fun n => tabC_good (List.forall_mem_cons.2 ⟨(impl_Point_less_good n), (List.forall_mem_cons.2 ⟨(impl_det_good n), (List.forall_mem_cons.2 ⟨(impl_size_good n), (fun _ h => absurd h List.not_mem_nil)⟩)⟩)⟩)) eqs_ok impl_area_Lt ?_ ?_ impl_area_sh impl_area_run ?_
  · exact (fun _ h => absurd h List.not_mem_nil)
  · exact (fun _ h => absurd h List.not_mem_nil)
  · intro n p κ r ds hd hr
    have hr0 := hr
    unfold impl_area_run impl_area_runG at hr
    split at hr
    · rw [← ds_of hd]
      exact ⟨en_of (impl_area_en _ _ _ _ _ _) ⟨rfl, rfl⟩, (impl_area_ev n _ _ _ _ _ _ κ).trans hr0⟩
    · cases hr

/-! loop.example/g01297/impl.IsTriangle -/
def impl_IsTriangle_sh : List SkD := [.agg [.int .i64, .int .i64, .int .i64, .int .i64, .int .i64, .int .i64]]
def impl_IsTriangle_runG {α : Type} (F : Nat → Int → Int → Int → Int → Int → Int → (Bool → Option α) → Option α) (n : Nat) (p : List P1) (κ : Res → Option α) : Option α := match p with
  | [.int t, .int t1, .int t2, .int t3, .int t4, .int t5] => F n t t1 t2 t3 t4 t5 (fun v1 => κ ⟨[.bool v1], []⟩)
  | _ => none
def impl_IsTriangle_run {α : Type} (n : Nat) (p : List P1) (κ : Res → Option α) : Option α := impl_IsTriangle_runG impl_IsTriangle n p κ
def impl_IsTriangle_CG {α : Type} (F0 : Nat → Int → Int → (Bool → Option α) → Option α) (F1 : Nat → Int → Int → Int → Int → Int → Int → (Int → Option α) → Option α) (n : Nat) : FuncId → List D → (Res → Option α) → Option α := tabC [(22, (byShape impl_small_sh (impl_small_runG F0 n))), (23, (byShape impl_area_sh (impl_area_runG F1 n)))]
def impl_IsTriangle_C {α : Type} (n : Nat) : FuncId → List D → (Res → Option α) → Option α := impl_IsTriangle_CG impl_small impl_area n
def impl_IsTriangle_M : FuncId → List Nat := tabM []
def impl_IsTriangle_lpsG {α : Type}  : List (LoopT α) := []
def impl_IsTriangle_lps {α : Type} : List (LoopT α) := impl_IsTriangle_lpsG
def impl_IsTriangle_XG {α : Type} (F0 : Nat → Int → Int → (Bool → Option α) → Option α) (F1 : Nat → Int → Int → Int → Int → Int → Int → (Int → Option α) → Option α)  (n : Nat) : Ctx α := ⟨impl_IsTriangle_CG F0 F1 n, impl_IsTriangle_M, eqs, lpOf (impl_IsTriangle_lpsG) n⟩
def impl_IsTriangle_X {α : Type} (n : Nat) : Ctx α := impl_IsTriangle_XG impl_small impl_area n
def impl_IsTriangle_Lt (np : Nat) (lent : List (Bool × Nat × Blk)) : Prop := np = 1 ∧ lent = []
def impl_IsTriangle_body {α : Type} (F0 : Nat → Int → Int → (Bool → Option α) → Option α) (F1 : Nat → Int → Int → Int → Int → Int → Int → (Int → Option α) → Option α)  (k : Nat) (t : Int) (t1 : Int) (t2 : Int) (t3 : Int) (t4 : Int) (t5 : Int) (r0 : Bool → Option α) : Option α :=
  F0 k t t1 fun v =>
  bif v then
    F0 k t2 t3 fun v1 =>
    bif v1 then
      F0 k t4 t5 fun v2 =>
      bif v2 then
        F1 k t t1 t2 t3 t4 t5 fun v3 =>
        r0 (!decide (v3 = 0))
      else
        r0 false
    else
      r0 false
  else
    r0 false
theorem impl_IsTriangle_gen {α : Type} (F0 : Nat → Int → Int → (Bool → Option α) → Option α) (F1 : Nat → Int → Int → Int → Int → Int → Int → (Int → Option α) → Option α)  (n : Nat) (t : Int) (t1 : Int) (t2 : Int) (t3 : Int) (t4 : Int) (t5 : Int) (κ : Res → Option α) : evFn Try.prog (impl_IsTriangle_XG F0 F1 n) Try.f14 (((buildDs impl_IsTriangle_sh [.int t, .int t1, .int t2, .int t3, .int t4, .int t5]).map Prod.fst).getD []) κ = impl_IsTriangle_body F0 F1 n t t1 t2 t3 t4 t5 (fun v1 => κ ⟨[.bool v1], []⟩) := by kernel_rfl
theorem impl_IsTriangle_eq {α : Type} (n : Nat) (t : Int) (t1 : Int) (t2 : Int) (t3 : Int) (t4 : Int) (t5 : Int) (r0 : Bool → Option α) : impl_IsTriangle_body impl_small impl_area n t t1 t2 t3 t4 t5 r0 = impl_IsTriangle n t t1 t2 t3 t4 t5 r0 := (impl_IsTriangle_body.eq_1 impl_small impl_area n t t1 t2 t3 t4 t5 r0).trans (impl_IsTriangle.eq_1 n t t1 t2 t3 t4 t5 r0).symm
theorem impl_IsTriangle_rn {α : Type} (F : Nat → Int → Int → Int → Int → Int → Int → (Bool → Option α) → Option α) (n : Nat) (t : Int) (t1 : Int) (t2 : Int) (t3 : Int) (t4 : Int) (t5 : Int) (κ : Res → Option α) : impl_IsTriangle_runG F n [.int t, .int t1, .int t2, .int t3, .int t4, .int t5] κ = F n t t1 t2 t3 t4 t5 (fun v1 => κ ⟨[.bool v1], []⟩) := rfl
theorem impl_IsTriangle_ev {α : Type} (n : Nat) (t : Int) (t1 : Int) (t2 : Int) (t3 : Int) (t4 : Int) (t5 : Int) (κ : Res → Option α) : evFn Try.prog (impl_IsTriangle_X n) Try.f14 (((buildDs impl_IsTriangle_sh [.int t, .int t1, .int t2, .int t3, .int t4, .int t5]).map Prod.fst).getD []) κ = impl_IsTriangle_run n [.int t, .int t1, .int t2, .int t3, .int t4, .int t5] κ := (impl_IsTriangle_gen impl_small impl_area n t t1 t2 t3 t4 t5 κ).trans ((impl_IsTriangle_eq n t t1 t2 t3 t4 t5 (fun v1 => κ ⟨[.bool v1], []⟩)).trans ((impl_IsTriangle_run.eq_1 n [.int t, .int t1, .int t2, .int t3, .int t4, .int t5] κ).trans (impl_IsTriangle_rn impl_IsTriangle n t t1 t2 t3 t4 t5 κ)).symm)
theorem impl_IsTriangle_en (t : Int) (t1 : Int) (t2 : Int) (t3 : Int) (t4 : Int) (t5 : Int) : (entry 0 (((buildDs impl_IsTriangle_sh [.int t, .int t1, .int t2, .int t3, .int t4, .int t5]).map Prod.fst).getD [])).map (fun x => (x.1.length, x.2.lent)) = some (1, []) := by kernel_rfl
theorem impl_IsTriangle_good {α : Type} : ∀ n, GoodFn (α := α) Try.prog 14 (byShape impl_IsTriangle_sh (impl_IsTriangle_run n)) := by
  refine fn_good' Try.func14 (c := (Try.f14.body.getD .skip)) (by kernel_rfl) (by kernel_rfl) (by kernel_rfl) impl_IsTriangle_C impl_IsTriangle_M eqs impl_IsTriangle_lps (fun n => tabC_good (List.forall_mem_cons.2 ⟨(impl_small_good n), (List.forall_mem_cons.2 ⟨(impl_area_good n), (fun _ h => absurd h List.not_mem_nil)⟩)⟩)) eqs_ok impl_IsTriangle_Lt ?_ ?_ impl_IsTriangle_sh impl_IsTriangle_run ?_
  · exact (fun _ h => absurd h List.not_mem_nil)
  · exact (fun _ h => absurd h List.not_mem_nil)
  · intro n p κ r ds hd hr
    have hr0 := hr
    unfold impl_IsTriangle_run impl_IsTriangle_runG at hr
    split at hr
    · rw [← ds_of hd]
      exact ⟨en_of (impl_IsTriangle_en _ _ _ _ _ _) ⟨rfl, rfl⟩, (impl_IsTriangle_ev n _ _ _ _ _ _ κ).trans hr0⟩
    · cases hr

/-! (loop.example/g01297/impl.Triangle).side -/
def impl_Triangle_side_sh : List SkD := [.agg [.int .i64, .int .i64, .int .i64, .int .i64, .int .i64, .int .i64], .int .i64, .int .i64]
def impl_Triangle_side_runG {α : Type} (F : Nat → Int → Int → Int → Int → Int → Int → Int → Int → (Int → Int → Option α) → Option α) (n : Nat) (p : List P1) (κ : Res → Option α) : Option α := match p with
  | [.int t, .int t1, .int t2, .int t3, .int t4, .int t5, .int i, .int k_] => F n t t1 t2 t3 t4 t5 i k_ (fun v1 v2 => κ ⟨[.agg [.int .i64 v1, .int .i64 v2]], []⟩)
  | _ => none
def impl_Triangle_side_run {α : Type} (n : Nat) (p : List P1) (κ : Res → Option α) : Option α := impl_Triangle_side_runG impl_Triangle_side n p κ
def impl_Triangle_side_CG {α : Type} (F0 : Nat → Int → Int → Int → Int → (Int → Int → Option α) → Option α) (n : Nat) : FuncId → List D → (Res → Option α) → Option α := tabC [(30, (byShape impl_Point_less_sh (impl_Point_less_runG F0 n)))]
def impl_Triangle_side_C {α : Type} (n : Nat) : FuncId → List D → (Res → Option α) → Option α := impl_Triangle_side_CG impl_Point_less n
def impl_Triangle_side_M : FuncId → List Nat := tabM []
def impl_Triangle_side_lpsG {α : Type}  : List (LoopT α) := []
def impl_Triangle_side_lps {α : Type} : List (LoopT α) := impl_Triangle_side_lpsG
def impl_Triangle_side_XG {α : Type} (F0 : Nat → Int → Int → Int → Int → (Int → Int → Option α) → Option α)  (n : Nat) : Ctx α := ⟨impl_Triangle_side_CG F0 n, impl_Triangle_side_M, eqs, lpOf (impl_Triangle_side_lpsG) n⟩
def impl_Triangle_side_X {α : Type} (n : Nat) : Ctx α := impl_Triangle_side_XG impl_Point_less n
def impl_Triangle_side_Lt (np : Nat) (lent : List (Bool × Nat × Blk)) : Prop := np = 3 ∧ lent = []
def impl_Triangle_side_body {α : Type} (F0 : Nat → Int → Int → Int → Int → (Int → Int → Option α) → Option α)  (k : Nat) (t : Int) (t1 : Int) (t2 : Int) (t3 : Int) (t4 : Int) (t5 : Int) (i : Int) (k_ : Int) (r0 : Int → Int → Option α) : Option α :=
  bif (decide (0 ≤ k_) && decide (k_ < 3)) then
    ([t, t1, t2, t3, t4, t5][(k_.toNat * 2)]?).bind fun e_ =>
    ([t, t1, t2, t3, t4, t5][((k_.toNat * 2) + 1)]?).bind fun e_1 =>
    bif (decide (0 ≤ i) && decide (i < 3)) then
      ([t, t1, t2, t3, t4, t5][(i.toNat * 2)]?).bind fun e_2 =>
      ([t, t1, t2, t3, t4, t5][((i.toNat * 2) + 1)]?).bind fun e_3 =>
      F0 k e_ e_1 e_2 e_3 fun v v1 =>
      r0 v v1
    else
      none
  else
    none
theorem impl_Triangle_side_gen {α : Type} (F0 : Nat → Int → Int → Int → Int → (Int → Int → Option α) → Option α)  (n : Nat) (t : Int) (t1 : Int) (t2 : Int) (t3 : Int) (t4 : Int) (t5 : Int) (i : Int) (k_ : Int) (κ : Res → Option α) : evFn Try.prog (impl_Triangle_side_XG F0 n) Try.f24 (((buildDs impl_Triangle_side_sh [.int t, .int t1, .int t2, .int t3, .int t4, .int t5, .int i, .int k_]).map Prod.fst).getD []) κ = impl_Triangle_side_body F0 n t t1 t2 t3 t4 t5 i k_ (fun v1 v2 => κ ⟨[.agg [.int .i64 v1, .int .i64 v2]], []⟩) := by kernel_rfl
theorem impl_Triangle_side_eq {α : Type} (n : Nat) (t : Int) (t1 : Int) (t2 : Int) (t3 : Int) (t4 : Int) (t5 : Int) (i : Int) (k_ : Int) (r0 : Int → Int → Option α) : impl_Triangle_side_body impl_Point_less n t t1 t2 t3 t4 t5 i k_ r0 = impl_Triangle_side n t t1 t2 t3 t4 t5 i k_ r0 := (impl_Triangle_side_body.eq_1 impl_Point_less n t t1 t2 t3 t4 t5 i k_ r0).trans (impl_Triangle_side.eq_1 n t t1 t2 t3 t4 t5 i k_ r0).symm
theorem impl_Triangle_side_rn {α : Type} (F : Nat → Int → Int → Int → Int → Int → Int → Int → Int → (Int → Int → Option α) → Option α) (n : Nat) (t : Int) (t1 : Int) (t2 : Int) (t3 : Int) (t4 : Int) (t5 : Int) (i : Int) (k_ : Int) (κ : Res → Option α) : impl_Triangle_side_runG F n [.int t, .int t1, .int t2, .int t3, .int t4, .int t5, .int i, .int k_] κ = F n t t1 t2 t3 t4 t5 i k_ (fun v1 v2 => κ ⟨[.agg [.int .i64 v1, .int .i64 v2]], []⟩) := rfl
theorem impl_Triangle_side_ev {α : Type} (n : Nat) (t : Int) (t1 : Int) (t2 : Int) (t3 : Int) (t4 : Int) (t5 : Int) (i : Int) (k_ : Int) (κ : Res → Option α) : evFn Try.prog (impl_Triangle_side_X n) Try.f24 (((buildDs impl_Triangle_side_sh [.int t, .int t1, .int t2, .int t3, .int t4, .int t5, .int i, .int k_]).map Prod.fst).getD []) κ = impl_Triangle_side_run n [.int t, .int t1, .int t2, .int t3, .int t4, .int t5, .int i, .int k_] κ := (impl_Triangle_side_gen impl_Point_less n t t1 t2 t3 t4 t5 i k_ κ).trans ((impl_Triangle_side_eq n t t1 t2 t3 t4 t5 i k_ (fun v1 v2 => κ ⟨[.agg [.int .i64 v1, .int .i64 v2]], []⟩)).trans ((impl_Triangle_side_run.eq_1 n [.int t, .int t1, .int t2, .int t3, .int t4, .int t5, .int i, .int k_] κ).trans (impl_Triangle_side_rn impl_Triangle_side n t t1 t2 t3 t4 t5 i k_ κ)).symm)
theorem impl_Triangle_side_en (t : Int) (t1 : Int) (t2 : Int) (t3 : Int) (t4 : Int) (t5 : Int) (i : Int) (k_ : Int) : (entry 0 (((buildDs impl_Triangle_side_sh [.int t, .int t1, .int t2, .int t3, .int t4, .int t5, .int i, .int k_]).map Prod.fst).getD [])).map (fun x => (x.1.length, x.2.lent)) = some (3, []) := by kernel_rfl
theorem impl_Triangle_side_good {α : Type} : ∀ n, GoodFn (α := α) Try.prog 24 (byShape impl_Triangle_side_sh (impl_Triangle_side_run n)) := by
  refine fn_good' Try.func24 (c := (Try.f24.body.getD .skip)) (by kernel_rfl) (by kernel_rfl) (by kernel_rfl) impl_Triangle_side_C impl_Triangle_side_M eqs impl_Triangle_side_lps (fun n => tabC_good (List.forall_mem_cons.2 ⟨(impl_Point_less_good n), (fun _ h => absurd h List.not_mem_nil)⟩)) eqs_ok impl_Triangle_side_Lt ?_ ?_ impl_Triangle_side_sh impl_Triangle_side_run ?_
  · exact (fun _ h => absurd h List.not_mem_nil)
  · exact (fun _ h => absurd h List.not_mem_nil)
  · intro n p κ r ds hd hr
    have hr0 := hr
    unfold impl_Triangle_side_run impl_Triangle_side_runG at hr
    split at hr
    · rw [← ds_of hd]
      exact ⟨en_of (impl_Triangle_side_en _ _ _ _ _ _ _ _) ⟨rfl, rfl⟩, (impl_Triangle_side_ev n _ _ _ _ _ _ _ _ κ).trans hr0⟩
    · cases hr

/-! loop.example/g01297/impl.gcd -/
def impl_gcd_sh : List SkD := [.int .i64, .int .i64]
def impl_gcd_runG {α : Type} (F : Nat → Int → Int → (Int → Option α) → Option α) (n : Nat) (p : List P1) (κ : Res → Option α) : Option α := match p with
  | [.int a, .int b_] => F n a b_ (fun v1 => κ ⟨[.int .i64 v1], []⟩)
  | _ => none
def impl_gcd_run {α : Type} (n : Nat) (p : List P1) (κ : Res → Option α) : Option α := impl_gcd_runG impl_gcd n p κ
def impl_gcd_CG {α : Type} (F0 : Nat → Int → (Int → Option α) → Option α) (n : Nat) : FuncId → List D → (Res → Option α) → Option α := tabC [(26, (byShape impl_size_sh (impl_size_runG F0 n)))]
def impl_gcd_C {α : Type} (n : Nat) : FuncId → List D → (Res → Option α) → Option α := impl_gcd_CG impl_size n
def impl_gcd_M : FuncId → List Nat := tabM []
def impl_gcd_t1 : Tpl := ⟨[.int .i64, .int .i64, .any, .any, .any, .any, .any, .any, .any, .any, .any, .any, .any], [], []⟩
def impl_gcd_uG1 {α : Type} (G : Nat → Int → Int → (Int → Int → Option α) → (Int → Option α) → Option α) (n : Nat) (p : List P1) (brk : Nat → List P1 → Option α) (ret : Res → Option α) : Option α := match p with
  | [.int a1, .int b_1] => G n a1 b_1 (fun a1 b_1 => brk 0 [.int a1, .int b_1]) (fun v1 => ret ⟨[.int .i64 v1], []⟩)
  | _ => none
def impl_gcd_u1 {α : Type} (n : Nat) (p : List P1) (brk : Nat → List P1 → Option α) (ret : Res → Option α) : Option α := impl_gcd_uG1 impl_gcd_l1 n p brk ret
def impl_gcd_lpsG {α : Type} (G1 : Nat → Int → Int → (Int → Int → Option α) → (Int → Option α) → Option α) : List (LoopT α) := [⟨1, impl_gcd_t1, impl_gcd_uG1 G1⟩]
def impl_gcd_lps {α : Type} : List (LoopT α) := impl_gcd_lpsG impl_gcd_l1
def impl_gcd_XG {α : Type} (F0 : Nat → Int → (Int → Option α) → Option α) (G1 : Nat → Int → Int → (Int → Int → Option α) → (Int → Option α) → Option α) (n : Nat) : Ctx α := ⟨impl_gcd_CG F0 n, impl_gcd_M, eqs, lpOf (impl_gcd_lpsG G1) n⟩
def impl_gcd_X {α : Type} (n : Nat) : Ctx α := impl_gcd_XG impl_size impl_gcd_l1 n
def impl_gcd_Lt (np : Nat) (lent : List (Bool × Nat × Blk)) : Prop := np = 2 ∧ lent = []
def impl_gcd_lb1 {α : Type} (F0 : Nat → Int → (Int → Option α) → Option α) (G1 : Nat → Int → Int → (Int → Int → Option α) → (Int → Option α) → Option α) (k : Nat) (a1 : Int) (b_1 : Int) (b0 : Int → Int → Option α) (r0 : Int → Option α) : Option α :=
  bif (!decide (b_1 = 0)) then
    bif decide (b_1 = 0) then
      none
    else
      G1 k b_1 (Int.tmod a1 b_1) b0 r0
  else
    b0 a1 b_1
theorem impl_gcd_l1_gen {α : Type} (F0 : Nat → Int → (Int → Option α) → Option α) (G1 : Nat → Int → Int → (Int → Int → Option α) → (Int → Option α) → Option α) (n : Nat) (a1 : Int) (b_1 : Int) (brk : Nat → List P1 → Option α) (ret : Res → Option α) : ev ((impl_gcd_XG F0 G1 n).env Try.prog Try.f33 2 []) (findLoop (loopsIn (Try.f33.body.getD .skip)) 1) ((impl_gcd_t1.build [.int a1, .int b_1]).getD ⟨[], []⟩) (roundK (2 * 64) impl_gcd_t1 (fun q => impl_gcd_uG1 G1 n q brk ret) brk ret) = impl_gcd_lb1 F0 G1 n a1 b_1 (fun a1 b_1 => brk 0 [.int a1, .int b_1]) (fun v1 => ret ⟨[.int .i64 v1], []⟩) := by kernel_rfl
theorem impl_gcd_l1_eq {α : Type} (k : Nat) (a1 : Int) (b_1 : Int) (b0 : Int → Int → Option α) (r0 : Int → Option α) : impl_gcd_lb1 impl_size impl_gcd_l1 k a1 b_1 b0 r0 = impl_gcd_l1 (k + 1) a1 b_1 b0 r0 := (impl_gcd_lb1.eq_1 impl_size impl_gcd_l1 k a1 b_1 b0 r0).trans (show impl_gcd_l1 (k + 1) a1 b_1 b0 r0 = _ from impl_gcd_l1.eq_2 _ _ _ _ _ ).symm
theorem impl_gcd_l1_rn {α : Type} (G : Nat → Int → Int → (Int → Int → Option α) → (Int → Option α) → Option α) (n : Nat) (a1 : Int) (b_1 : Int) (brk : Nat → List P1 → Option α) (ret : Res → Option α) : impl_gcd_uG1 G n [.int a1, .int b_1] brk ret = G n a1 b_1 (fun a1 b_1 => brk 0 [.int a1, .int b_1]) (fun v1 => ret ⟨[.int .i64 v1], []⟩) := rfl
theorem impl_gcd_l1_ev {α : Type} (n : Nat) (a1 : Int) (b_1 : Int) (brk : Nat → List P1 → Option α) (ret : Res → Option α) : ev ((impl_gcd_X n).env Try.prog Try.f33 2 []) (findLoop (loopsIn (Try.f33.body.getD .skip)) 1) ((impl_gcd_t1.build [.int a1, .int b_1]).getD ⟨[], []⟩) (roundK (2 * 64) impl_gcd_t1 (fun q => impl_gcd_u1 n q brk ret) brk ret) = impl_gcd_u1 (n + 1) [.int a1, .int b_1] brk ret := (impl_gcd_l1_gen impl_size impl_gcd_l1 n a1 b_1 brk ret).trans ((impl_gcd_l1_eq n a1 b_1 (fun a1 b_1 => brk 0 [.int a1, .int b_1]) (fun v1 => ret ⟨[.int .i64 v1], []⟩)).trans ((impl_gcd_u1.eq_1 (n + 1) [.int a1, .int b_1] brk ret).trans (impl_gcd_l1_rn impl_gcd_l1 (n + 1) a1 b_1 brk ret)).symm)
def impl_gcd_body {α : Type} (F0 : Nat → Int → (Int → Option α) → Option α) (G1 : Nat → Int → Int → (Int → Int → Option α) → (Int → Option α) → Option α) (k : Nat) (a : Int) (b_ : Int) (r0 : Int → Option α) : Option α :=
  G1 k a b_
    (fun a2 b_2 =>
      F0 k a2 fun v =>
      r0 v)
    r0
theorem impl_gcd_gen {α : Type} (F0 : Nat → Int → (Int → Option α) → Option α) (G1 : Nat → Int → Int → (Int → Int → Option α) → (Int → Option α) → Option α) (n : Nat) (a : Int) (b_ : Int) (κ : Res → Option α) : evFn Try.prog (impl_gcd_XG F0 G1 n) Try.f33 (((buildDs impl_gcd_sh [.int a, .int b_]).map Prod.fst).getD []) κ = impl_gcd_body F0 G1 n a b_ (fun v1 => κ ⟨[.int .i64 v1], []⟩) := by kernel_rfl
theorem impl_gcd_eq {α : Type} (n : Nat) (a : Int) (b_ : Int) (r0 : Int → Option α) : impl_gcd_body impl_size impl_gcd_l1 n a b_ r0 = impl_gcd n a b_ r0 := (impl_gcd_body.eq_1 impl_size impl_gcd_l1 n a b_ r0).trans (impl_gcd.eq_1 n a b_ r0).symm
theorem impl_gcd_rn {α : Type} (F : Nat → Int → Int → (Int → Option α) → Option α) (n : Nat) (a : Int) (b_ : Int) (κ : Res → Option α) : impl_gcd_runG F n [.int a, .int b_] κ = F n a b_ (fun v1 => κ ⟨[.int .i64 v1], []⟩) := rfl
theorem impl_gcd_ev {α : Type} (n : Nat) (a : Int) (b_ : Int) (κ : Res → Option α) : evFn Try.prog (impl_gcd_X n) Try.f33 (((buildDs impl_gcd_sh [.int a, .int b_]).map Prod.fst).getD []) κ = impl_gcd_run n [.int a, .int b_] κ := (impl_gcd_gen impl_size impl_gcd_l1 n a b_ κ).trans ((impl_gcd_eq n a b_ (fun v1 => κ ⟨[.int .i64 v1], []⟩)).trans ((impl_gcd_run.eq_1 n [.int a, .int b_] κ).trans (impl_gcd_rn impl_gcd n a b_ κ)).symm)
theorem impl_gcd_en (a : Int) (b_ : Int) : (entry 0 (((buildDs impl_gcd_sh [.int a, .int b_]).map Prod.fst).getD [])).map (fun x => (x.1.length, x.2.lent)) = some (2, []) := by kernel_rfl
theorem impl_gcd_good {α : Type} : ∀ n, GoodFn (α := α) Try.prog 33 (byShape impl_gcd_sh (impl_gcd_run n)) := by
  refine fn_good' Try.func33 (c := (Try.f33.body.getD .skip)) (by kernel_rfl) (by kernel_rfl) (by kernel_rfl) impl_gcd_C impl_gcd_M eqs impl_gcd_lps (fun n => tabC_good (List.forall_mem_cons.2 ⟨(impl_size_good n), (fun _ h => absurd h List.not_mem_nil)⟩)) eqs_ok impl_gcd_Lt ?_ ?_ impl_gcd_sh impl_gcd_run ?_
  · refine List.forall_mem_cons.2 ⟨?_, (fun _ h => absurd h List.not_mem_nil)⟩
    · intro p brk ret; show impl_gcd_u1 0 p brk ret = none; unfold impl_gcd_u1 impl_gcd_uG1; split <;> rfl
  · refine List.forall_mem_cons.2 ⟨?_, (fun _ h => absurd h List.not_mem_nil)⟩
    · intro np lent hL n p brk ret st r hb hr
      obtain ⟨rfl, rfl⟩ := hL
      rw [← tpl_of hb]
      change impl_gcd_u1 (n + 1) p brk ret = some r at hr
      have hr0 := hr
      unfold impl_gcd_u1 impl_gcd_uG1 at hr
      split at hr
      · exact (impl_gcd_l1_ev n _ _ brk ret).trans hr0
      · cases hr
  · intro n p κ r ds hd hr
    have hr0 := hr
    unfold impl_gcd_run impl_gcd_runG at hr
    split at hr
    · rw [← ds_of hd]
      exact ⟨en_of (impl_gcd_en _ _) ⟨rfl, rfl⟩, (impl_gcd_ev n _ _ κ).trans hr0⟩
    · cases hr

/-! (loop.example/g01297/impl.Point).length -/
def impl_Point_length_sh : List SkD := [.agg [.int .i64, .int .i64]]
def impl_Point_length_runG {α : Type} (F : Nat → Int → Int → (Int → Option α) → Option α) (n : Nat) (p : List P1) (κ : Res → Option α) : Option α := match p with
  | [.int a, .int a1] => F n a a1 (fun v1 => κ ⟨[.int .i64 v1], []⟩)
  | _ => none
def impl_Point_length_run {α : Type} (n : Nat) (p : List P1) (κ : Res → Option α) : Option α := impl_Point_length_runG impl_Point_length n p κ
def impl_Point_length_CG {α : Type} (F0 : Nat → Int → Int → (Int → Option α) → Option α) (n : Nat) : FuncId → List D → (Res → Option α) → Option α := tabC [(33, (byShape impl_gcd_sh (impl_gcd_runG F0 n)))]
def impl_Point_length_C {α : Type} (n : Nat) : FuncId → List D → (Res → Option α) → Option α := impl_Point_length_CG impl_gcd n
def impl_Point_length_M : FuncId → List Nat := tabM []
def impl_Point_length_lpsG {α : Type}  : List (LoopT α) := []
def impl_Point_length_lps {α : Type} : List (LoopT α) := impl_Point_length_lpsG
def impl_Point_length_XG {α : Type} (F0 : Nat → Int → Int → (Int → Option α) → Option α)  (n : Nat) : Ctx α := ⟨impl_Point_length_CG F0 n, impl_Point_length_M, eqs, lpOf (impl_Point_length_lpsG) n⟩
def impl_Point_length_X {α : Type} (n : Nat) : Ctx α := impl_Point_length_XG impl_gcd n
def impl_Point_length_Lt (np : Nat) (lent : List (Bool × Nat × Blk)) : Prop := np = 1 ∧ lent = []
def impl_Point_length_body {α : Type} (F0 : Nat → Int → Int → (Int → Option α) → Option α)  (k : Nat) (a : Int) (a1 : Int) (r0 : Int → Option α) : Option α :=
  F0 k a a1 fun v =>
  r0 v
theorem impl_Point_length_gen {α : Type} (F0 : Nat → Int → Int → (Int → Option α) → Option α)  (n : Nat) (a : Int) (a1 : Int) (κ : Res → Option α) : evFn Try.prog (impl_Point_length_XG F0 n) Try.f31 (((buildDs impl_Point_length_sh [.int a, .int a1]).map Prod.fst).getD []) κ = impl_Point_length_body F0 n a a1 (fun v1 => κ ⟨[.int .i64 v1], []⟩) := by kernel_rfl
theorem impl_Point_length_eq {α : Type} (n : Nat) (a : Int) (a1 : Int) (r0 : Int → Option α) : impl_Point_length_body impl_gcd n a a1 r0 = impl_Point_length n a a1 r0 := (impl_Point_length_body.eq_1 impl_gcd n a a1 r0).trans (impl_Point_length.eq_1 n a a1 r0).symm
theorem impl_Point_length_rn {α : Type} (F : Nat → Int → Int → (Int → Option α) → Option α) (n : Nat) (a : Int) (a1 : Int) (κ : Res → Option α) : impl_Point_length_runG F n [.int a, .int a1] κ = F n a a1 (fun v1 => κ ⟨[.int .i64 v1], []⟩) := rfl
theorem impl_Point_length_ev {α : Type} (n : Nat) (a : Int) (a1 : Int) (κ : Res → Option α) : evFn Try.prog (impl_Point_length_X n) Try.f31 (((buildDs impl_Point_length_sh [.int a, .int a1]).map Prod.fst).getD []) κ = impl_Point_length_run n [.int a, .int a1] κ := (impl_Point_length_gen impl_gcd n a a1 κ).trans ((impl_Point_length_eq n a a1 (fun v1 => κ ⟨[.int .i64 v1], []⟩)).trans ((impl_Point_length_run.eq_1 n [.int a, .int a1] κ).trans (impl_Point_length_rn impl_Point_length n a a1 κ)).symm)
theorem impl_Point_length_en (a : Int) (a1 : Int) : (entry 0 (((buildDs impl_Point_length_sh [.int a, .int a1]).map Prod.fst).getD [])).map (fun x => (x.1.length, x.2.lent)) = some (1, []) := by kernel_rfl
theorem impl_Point_length_good {α : Type} : ∀ n, GoodFn (α := α) Try.prog 31 (byShape impl_Point_length_sh (impl_Point_length_run n)) := by
  refine fn_good' Try.func31 (c := (Try.f31.body.getD .skip)) (by kernel_rfl) (by kernel_rfl) (by kernel_rfl) impl_Point_length_C impl_Point_length_M eqs impl_Point_length_lps (fun n => tabC_good (List.forall_mem_cons.2 ⟨(impl_gcd_good n), (fun _ h => absurd h List.not_mem_nil)⟩)) eqs_ok impl_Point_length_Lt ?_ ?_ impl_Point_length_sh impl_Point_length_run ?_
  · exact (fun _ h => absurd h List.not_mem_nil)
  · exact (fun _ h => absurd h List.not_mem_nil)
  · intro n p κ r ds hd hr
    have hr0 := hr
    unfold impl_Point_length_run impl_Point_length_runG at hr
    split at hr
    · rw [← ds_of hd]
      exact ⟨en_of (impl_Point_length_en _ _) ⟨rfl, rfl⟩, (impl_Point_length_ev n _ _ κ).trans hr0⟩
    · cases hr

/-! (loop.example/g01297/impl.Point).primitive -/
def impl_Point_primitive_sh : List SkD := [.agg [.int .i64, .int .i64]]
def impl_Point_primitive_runG {α : Type} (F : Nat → Int → Int → (Int → Int → Option α) → Option α) (n : Nat) (p : List P1) (κ : Res → Option α) : Option α := match p with
  | [.int a, .int a1] => F n a a1 (fun v1 v2 => κ ⟨[.agg [.int .i64 v1, .int .i64 v2]], []⟩)
  | _ => none
def impl_Point_primitive_run {α : Type} (n : Nat) (p : List P1) (κ : Res → Option α) : Option α := impl_Point_primitive_runG impl_Point_primitive n p κ
def impl_Point_primitive_CG {α : Type} (F0 : Nat → Int → Int → (Int → Option α) → Option α) (n : Nat) : FuncId → List D → (Res → Option α) → Option α := tabC [(31, (byShape impl_Point_length_sh (impl_Point_length_runG F0 n)))]
def impl_Point_primitive_C {α : Type} (n : Nat) : FuncId → List D → (Res → Option α) → Option α := impl_Point_primitive_CG impl_Point_length n
def impl_Point_primitive_M : FuncId → List Nat := tabM []
def impl_Point_primitive_lpsG {α : Type}  : List (LoopT α) := []
def impl_Point_primitive_lps {α : Type} : List (LoopT α) := impl_Point_primitive_lpsG
def impl_Point_primitive_XG {α : Type} (F0 : Nat → Int → Int → (Int → Option α) → Option α)  (n : Nat) : Ctx α := ⟨impl_Point_primitive_CG F0 n, impl_Point_primitive_M, eqs, lpOf (impl_Point_primitive_lpsG) n⟩
def impl_Point_primitive_X {α : Type} (n : Nat) : Ctx α := impl_Point_primitive_XG impl_Point_length n
def impl_Point_primitive_Lt (np : Nat) (lent : List (Bool × Nat × Blk)) : Prop := np = 1 ∧ lent = []
def impl_Point_primitive_body {α : Type} (F0 : Nat → Int → Int → (Int → Option α) → Option α)  (k : Nat) (a : Int) (a1 : Int) (r0 : Int → Int → Option α) : Option α :=
  F0 k a a1 fun v =>
  bif decide (v = 0) then
    none
  else
  bif decide (v = 0) then
    none
  else
    r0 (w64 (Int.tdiv a v)) (w64 (Int.tdiv a1 v))
theorem impl_Point_primitive_gen {α : Type} (F0 : Nat → Int → Int → (Int → Option α) → Option α)  (n : Nat) (a : Int) (a1 : Int) (κ : Res → Option α) : evFn Try.prog (impl_Point_primitive_XG F0 n) Try.f25 (((buildDs impl_Point_primitive_sh [.int a, .int a1]).map Prod.fst).getD []) κ = impl_Point_primitive_body F0 n a a1 (fun v1 v2 => κ ⟨[.agg [.int .i64 v1, .int .i64 v2]], []⟩) := by kernel_rfl
theorem impl_Point_primitive_eq {α : Type} (n : Nat) (a : Int) (a1 : Int) (r0 : Int → Int → Option α) : impl_Point_primitive_body impl_Point_length n a a1 r0 = impl_Point_primitive n a a1 r0 := (impl_Point_primitive_body.eq_1 impl_Point_length n a a1 r0).trans (impl_Point_primitive.eq_1 n a a1 r0).symm
theorem impl_Point_primitive_rn {α : Type} (F : Nat → Int → Int → (Int → Int → Option α) → Option α) (n : Nat) (a : Int) (a1 : Int) (κ : Res → Option α) : impl_Point_primitive_runG F n [.int a, .int a1] κ = F n a a1 (fun v1 v2 => κ ⟨[.agg [.int .i64 v1, .int .i64 v2]], []⟩) := rfl
theorem impl_Point_primitive_ev {α : Type} (n : Nat) (a : Int) (a1 : Int) (κ : Res → Option α) : evFn Try.prog (impl_Point_primitive_X n) Try.f25 (((buildDs impl_Point_primitive_sh [.int a, .int a1]).map Prod.fst).getD []) κ = impl_Point_primitive_run n [.int a, .int a1] κ := (impl_Point_primitive_gen impl_Point_length n a a1 κ).trans ((impl_Point_primitive_eq n a a1 (fun v1 v2 => κ ⟨[.agg [.int .i64 v1, .int .i64 v2]], []⟩)).trans ((impl_Point_primitive_run.eq_1 n [.int a, .int a1] κ).trans (impl_Point_primitive_rn impl_Point_primitive n a a1 κ)).symm)
theorem impl_Point_primitive_en (a : Int) (a1 : Int) : (entry 0 (((buildDs impl_Point_primitive_sh [.int a, .int a1]).map Prod.fst).getD [])).map (fun x => (x.1.length, x.2.lent)) = some (1, []) := by kernel_rfl
theorem impl_Point_primitive_good {α : Type} : ∀ n, GoodFn (α := α) Try.prog 25 (byShape impl_Point_primitive_sh (impl_Point_primitive_run n)) := by
  refine fn_good' Try.func25 (c := (Try.f25.body.getD .skip)) (by kernel_rfl) (by kernel_rfl) (by kernel_rfl) impl_Point_primitive_C impl_Point_primitive_M eqs impl_Point_primitive_lps (fun n => tabC_good (List.forall_mem_cons.2 ⟨(impl_Point_length_good n), (fun _ h => absurd h List.not_mem_nil)⟩)) eqs_ok impl_Point_primitive_Lt ?_ ?_ impl_Point_primitive_sh impl_Point_primitive_run ?_
  · exact (fun _ h => absurd h List.not_mem_nil)
  · exact (fun _ h => absurd h List.not_mem_nil)
  · intro n p κ r ds hd hr
    have hr0 := hr
    unfold impl_Point_primitive_run impl_Point_primitive_runG at hr
    split at hr
    · rw [← ds_of hd]
      exact ⟨en_of (impl_Point_primitive_en _ _) ⟨rfl, rfl⟩, (impl_Point_primitive_ev n _ _ κ).trans hr0⟩
    · cases hr

/-! (loop.example/g01297/impl.Triangle).corner -/
def impl_Triangle_corner_sh : List SkD := [.agg [.int .i64, .int .i64, .int .i64, .int .i64, .int .i64, .int .i64], .int .i64]
def impl_Triangle_corner_runG {α : Type} (F : Nat → Int → Int → Int → Int → Int → Int → Int → (Int → Int → Int → Int → Option α) → Option α) (n : Nat) (p : List P1) (κ : Res → Option α) : Option α := match p with
  | [.int t, .int t1, .int t2, .int t3, .int t4, .int t5, .int i] => F n t t1 t2 t3 t4 t5 i (fun v1 v2 v3 v4 => κ ⟨[.agg [.int .i64 v1, .int .i64 v2, .int .i64 v3, .int .i64 v4]], []⟩)
  | _ => none
def impl_Triangle_corner_run {α : Type} (n : Nat) (p : List P1) (κ : Res → Option α) : Option α := impl_Triangle_corner_runG impl_Triangle_corner n p κ
def impl_Triangle_corner_CG {α : Type} (F0 : Nat → Int → Int → Int → Int → Int → Int → Int → Int → (Int → Int → Option α) → Option α) (F1 : Nat → Int → Int → (Int → Int → Option α) → Option α) (n : Nat) : FuncId → List D → (Res → Option α) → Option α := tabC [(24, (byShape impl_Triangle_side_sh (impl_Triangle_side_runG F0 n))), (25, (byShape impl_Point_primitive_sh (impl_Point_primitive_runG F1 n)))]
def impl_Triangle_corner_C {α : Type} (n : Nat) : FuncId → List D → (Res → Option α) → Option α := impl_Triangle_corner_CG impl_Triangle_side impl_Point_primitive n
def impl_Triangle_corner_M : FuncId → List Nat := tabM []
def impl_Triangle_corner_lpsG {α : Type}  : List (LoopT α) := []
def impl_Triangle_corner_lps {α : Type} : List (LoopT α) := impl_Triangle_corner_lpsG
def impl_Triangle_corner_XG {α : Type} (F0 : Nat → Int → Int → Int → Int → Int → Int → Int → Int → (Int → Int → Option α) → Option α) (F1 : Nat → Int → Int → (Int → Int → Option α) → Option α)  (n : Nat) : Ctx α := ⟨impl_Triangle_corner_CG F0 F1 n, impl_Triangle_corner_M, eqs, lpOf (impl_Triangle_corner_lpsG) n⟩
def impl_Triangle_corner_X {α : Type} (n : Nat) : Ctx α := impl_Triangle_corner_XG impl_Triangle_side impl_Point_primitive n
def impl_Triangle_corner_Lt (np : Nat) (lent : List (Bool × Nat × Blk)) : Prop := np = 2 ∧ lent = []
def impl_Triangle_corner_body {α : Type} (F0 : Nat → Int → Int → Int → Int → Int → Int → Int → Int → (Int → Int → Option α) → Option α) (F1 : Nat → Int → Int → (Int → Int → Option α) → Option α)  (k : Nat) (t : Int) (t1 : Int) (t2 : Int) (t3 : Int) (t4 : Int) (t5 : Int) (i : Int) (r0 : Int → Int → Int → Int → Option α) : Option α :=
  F0 k t t1 t2 t3 t4 t5 i (Int.tmod (w64 (i + 1)) 3) fun v v1 =>
  F1 k v v1 fun v2 v3 =>
  F0 k t t1 t2 t3 t4 t5 i (Int.tmod (w64 (i + 2)) 3) fun v4 v5 =>
  F1 k v4 v5 fun v6 v7 =>
  r0 v2 v3 v6 v7
theorem impl_Triangle_corner_gen {α : Type} (F0 : Nat → Int → Int → Int → Int → Int → Int → Int → Int → (Int → Int → Option α) → Option α) (F1 : Nat → Int → Int → (Int → Int → Option α) → Option α)  (n : Nat) (t : Int) (t1 : Int) (t2 : Int) (t3 : Int) (t4 : Int) (t5 : Int) (i : Int) (κ : Res → Option α) : evFn Try.prog (impl_Triangle_corner_XG F0 F1 n) Try.f15 (((buildDs impl_Triangle_corner_sh [.int t, .int t1, .int t2, .int t3, .int t4, .int t5, .int i]).map Prod.fst).getD []) κ = impl_Triangle_corner_body F0 F1 n t t1 t2 t3 t4 t5 i (fun v1 v2 v3 v4 => κ ⟨[.agg [.int .i64 v1, .int .i64 v2, .int .i64 v3, .int .i64 v4]], []⟩) := by kernel_rfl
theorem impl_Triangle_corner_eq {α : Type} (n : Nat) (t : Int) (t1 : Int) (t2 : Int) (t3 : Int) (t4 : Int) (t5 : Int) (i : Int) (r0 : Int → Int → Int → Int → Option α) : impl_Triangle_corner_body impl_Triangle_side impl_Point_primitive n t t1 t2 t3 t4 t5 i r0 = impl_Triangle_corner n t t1 t2 t3 t4 t5 i r0 := (impl_Triangle_corner_body.eq_1 impl_Triangle_side impl_Point_primitive n t t1 t2 t3 t4 t5 i r0).trans (impl_Triangle_corner.eq_1 n t t1 t2 t3 t4 t5 i r0).symm
theorem impl_Triangle_corner_rn {α : Type} (F : Nat → Int → Int → Int → Int → Int → Int → Int → (Int → Int → Int → Int → Option α) → Option α) (n : Nat) (t : Int) (t1 : Int) (t2 : Int) (t3 : Int) (t4 : Int) (t5 : Int) (i : Int) (κ : Res → Option α) : impl_Triangle_corner_runG F n [.int t, .int t1, .int t2, .int t3, .int t4, .int t5, .int i] κ = F n t t1 t2 t3 t4 t5 i (fun v1 v2 v3 v4 => κ ⟨[.agg [.int .i64 v1, .int .i64 v2, .int .i64 v3, .int .i64 v4]], []⟩) := rfl
theorem impl_Triangle_corner_ev {α : Type} (n : Nat) (t : Int) (t1 : Int) (t2 : Int) (t3 : Int) (t4 : Int) (t5 : Int) (i : Int) (κ : Res → Option α) : evFn Try.prog (impl_Triangle_corner_X n) Try.f15 (((buildDs impl_Triangle_corner_sh [.int t, .int t1, .int t2, .int t3, .int t4, .int t5, .int i]).map Prod.fst).getD []) κ = impl_Triangle_corner_run n [.int t, .int t1, .int t2, .int t3, .int t4, .int t5, .int i] κ := (impl_Triangle_corner_gen impl_Triangle_side impl_Point_primitive n t t1 t2 t3 t4 t5 i κ).trans ((impl_Triangle_corner_eq n t t1 t2 t3 t4 t5 i (fun v1 v2 v3 v4 => κ ⟨[.agg [.int .i64 v1, .int .i64 v2, .int .i64 v3, .int .i64 v4]], []⟩)).trans ((impl_Triangle_corner_run.eq_1 n [.int t, .int t1, .int t2, .int t3, .int t4, .int t5, .int i] κ).trans (impl_Triangle_corner_rn impl_Triangle_corner n t t1 t2 t3 t4 t5 i κ)).symm)
theorem impl_Triangle_corner_en (t : Int) (t1 : Int) (t2 : Int) (t3 : Int) (t4 : Int) (t5 : Int) (i : Int) : (entry 0 (((buildDs impl_Triangle_corner_sh [.int t, .int t1, .int t2, .int t3, .int t4, .int t5, .int i]).map Prod.fst).getD [])).map (fun x => (x.1.length, x.2.lent)) = some (2, []) := by kernel_rfl
theorem impl_Triangle_corner_good {α : Type} : ∀ n, GoodFn (α := α) Try.prog 15 (byShape impl_Triangle_corner_sh (impl_Triangle_corner_run n)) := by
  refine fn_good' Try.func15 (c := (Try.f15.body.getD .skip)) (by kernel_rfl) (by kernel_rfl) (by kernel_rfl) impl_Triangle_corner_C impl_Triangle_corner_M eqs impl_Triangle_corner_lps (fun n => tabC_good (List.forall_mem_cons.2 ⟨(impl_Triangle_side_good n), (List.forall_mem_cons.2 ⟨(impl_Point_primitive_good n), (fun _ h => absurd h List.not_mem_nil)⟩)⟩)) eqs_ok impl_Triangle_corner_Lt ?_ ?_ impl_Triangle_corner_sh impl_Triangle_corner_run ?_
  · exact (fun _ h => absurd h List.not_mem_nil)
  · exact (fun _ h => absurd h List.not_mem_nil)
  · intro n p κ r ds hd hr
    have hr0 := hr
    unfold impl_Triangle_corner_run impl_Triangle_corner_runG at hr
    split at hr
    · rw [← ds_of hd]
      exact ⟨en_of (impl_Triangle_corner_en _ _ _ _ _ _ _) ⟨rfl, rfl⟩, (impl_Triangle_corner_ev n _ _ _ _ _ _ _ κ).trans hr0⟩
    · cases hr

/-! (loop.example/g01297/impl.Corner).sine -/
def impl_Corner_sine_sh : List SkD := [.agg [.int .i64, .int .i64, .int .i64, .int .i64]]
def impl_Corner_sine_runG {α : Type} (F : Nat → Int → Int → Int → Int → (Int → Option α) → Option α) (n : Nat) (p : List P1) (κ : Res → Option α) : Option α := match p with
  | [.int x, .int x1, .int x2, .int x3] => F n x x1 x2 x3 (fun v1 => κ ⟨[.int .i64 v1], []⟩)
  | _ => none
def impl_Corner_sine_run {α : Type} (n : Nat) (p : List P1) (κ : Res → Option α) : Option α := impl_Corner_sine_runG impl_Corner_sine n p κ
def impl_Corner_sine_CG {α : Type} (F0 : Nat → Int → Int → Int → Int → (Int → Option α) → Option α) (F1 : Nat → Int → (Int → Option α) → Option α) (n : Nat) : FuncId → List D → (Res → Option α) → Option α := tabC [(27, (byShape impl_det_sh (impl_det_runG F0 n))), (26, (byShape impl_size_sh (impl_size_runG F1 n)))]
def impl_Corner_sine_C {α : Type} (n : Nat) : FuncId → List D → (Res → Option α) → Option α := impl_Corner_sine_CG impl_det impl_size n
def impl_Corner_sine_M : FuncId → List Nat := tabM []
def impl_Corner_sine_lpsG {α : Type}  : List (LoopT α) := []
def impl_Corner_sine_lps {α : Type} : List (LoopT α) := impl_Corner_sine_lpsG
def impl_Corner_sine_XG {α : Type} (F0 : Nat → Int → Int → Int → Int → (Int → Option α) → Option α) (F1 : Nat → Int → (Int → Option α) → Option α)  (n : Nat) : Ctx α := ⟨impl_Corner_sine_CG F0 F1 n, impl_Corner_sine_M, eqs, lpOf (impl_Corner_sine_lpsG) n⟩
def impl_Corner_sine_X {α : Type} (n : Nat) : Ctx α := impl_Corner_sine_XG impl_det impl_size n
def impl_Corner_sine_Lt (np : Nat) (lent : List (Bool × Nat × Blk)) : Prop := np = 1 ∧ lent = []
def impl_Corner_sine_body {α : Type} (F0 : Nat → Int → Int → Int → Int → (Int → Option α) → Option α) (F1 : Nat → Int → (Int → Option α) → Option α)  (k : Nat) (x : Int) (x1 : Int) (x2 : Int) (x3 : Int) (r0 : Int → Option α) : Option α :=
  F0 k x x1 x2 x3 fun v =>
  F1 k v fun v1 =>
  r0 v1
theorem impl_Corner_sine_gen {α : Type} (F0 : Nat → Int → Int → Int → Int → (Int → Option α) → Option α) (F1 : Nat → Int → (Int → Option α) → Option α)  (n : Nat) (x : Int) (x1 : Int) (x2 : Int) (x3 : Int) (κ : Res → Option α) : evFn Try.prog (impl_Corner_sine_XG F0 F1 n) Try.f16 (((buildDs impl_Corner_sine_sh [.int x, .int x1, .int x2, .int x3]).map Prod.fst).getD []) κ = impl_Corner_sine_body F0 F1 n x x1 x2 x3 (fun v1 => κ ⟨[.int .i64 v1], []⟩) := by kernel_rfl
theorem impl_Corner_sine_eq {α : Type} (n : Nat) (x : Int) (x1 : Int) (x2 : Int) (x3 : Int) (r0 : Int → Option α) : impl_Corner_sine_body impl_det impl_size n x x1 x2 x3 r0 = impl_Corner_sine n x x1 x2 x3 r0 := (impl_Corner_sine_body.eq_1 impl_det impl_size n x x1 x2 x3 r0).trans (impl_Corner_sine.eq_1 n x x1 x2 x3 r0).symm
theorem impl_Corner_sine_rn {α : Type} (F : Nat → Int → Int → Int → Int → (Int → Option α) → Option α) (n : Nat) (x : Int) (x1 : Int) (x2 : Int) (x3 : Int) (κ : Res → Option α) : impl_Corner_sine_runG F n [.int x, .int x1, .int x2, .int x3] κ = F n x x1 x2 x3 (fun v1 => κ ⟨[.int .i64 v1], []⟩) := rfl
theorem impl_Corner_sine_ev {α : Type} (n : Nat) (x : Int) (x1 : Int) (x2 : Int) (x3 : Int) (κ : Res → Option α) : evFn Try.prog (impl_Corner_sine_X n) Try.f16 (((buildDs impl_Corner_sine_sh [.int x, .int x1, .int x2, .int x3]).map Prod.fst).getD []) κ = impl_Corner_sine_run n [.int x, .int x1, .int x2, .int x3] κ := (impl_Corner_sine_gen impl_det impl_size n x x1 x2 x3 κ).trans ((impl_Corner_sine_eq n x x1 x2 x3 (fun v1 => κ ⟨[.int .i64 v1], []⟩)).trans ((impl_Corner_sine_run.eq_1 n [.int x, .int x1, .int x2, .int x3] κ).trans (impl_Corner_sine_rn impl_Corner_sine n x x1 x2 x3 κ)).symm)
theorem impl_Corner_sine_en (x : Int) (x1 : Int) (x2 : Int) (x3 : Int) : (entry 0 (((buildDs impl_Corner_sine_sh [.int x, .int x1, .int x2, .int x3]).map Prod.fst).getD [])).map (fun x => (x.1.length, x.2.lent)) = some (1, []) := by kernel_rfl
theorem impl_Corner_sine_good {α : Type} : ∀ n, GoodFn (α := α) Try.prog 16 (byShape impl_Corner_sine_sh (impl_Corner_sine_run n)) := by
  refine fn_good' Try.func16 (c := (Try.f16.body.getD .skip)) (by kernel_rfl) (by kernel_rfl) (by kernel_rfl) impl_Corner_sine_C impl_Corner_sine_M eqs impl_Corner_sine_lps (fun n => tabC_good (List.forall_mem_cons.2 ⟨(impl_det_good n), (List.forall_mem_cons.2 ⟨(impl_size_good n), (fun _ h => absurd h List.not_mem_nil)⟩)⟩)) eqs_ok impl_Corner_sine_Lt ?_ ?_ impl_Corner_sine_sh impl_Corner_sine_run ?_
  · exact (fun _ h => absurd h List.not_mem_nil)
  · exact (fun _ h => absurd h List.not_mem_nil)
  · intro n p κ r ds hd hr
    have hr0 := hr
    unfold impl_Corner_sine_run impl_Corner_sine_runG at hr
    split at hr
    · rw [← ds_of hd]
      exact ⟨en_of (impl_Corner_sine_en _ _ _ _) ⟨rfl, rfl⟩, (impl_Corner_sine_ev n _ _ _ _ κ).trans hr0⟩
    · cases hr

/-! loop.example/g01297/impl.SinesOf -/
def impl_SinesOf_sh : List SkD := [.agg [.int .i64, .int .i64, .int .i64, .int .i64, .int .i64, .int .i64]]
def impl_SinesOf_runG {α : Type} (F : Nat → Int → Int → Int → Int → Int → Int → (Int → Option α) → (List Int → Int → Option α) → Option α) (n : Nat) (p : List P1) (κ : Res → Option α) : Option α := match p with
  | [.int t, .int t1, .int t2, .int t3, .int t4, .int t5] => F n t t1 t2 t3 t4 t5 (fun v1 => κ ⟨[.nilsl, .int .i64 v1], []⟩) (fun v1 v2 => κ ⟨[.sl 2 (.int .i64) v1, .int .i64 v2], []⟩)
  | _ => none
def impl_SinesOf_run {α : Type} (n : Nat) (p : List P1) (κ : Res → Option α) : Option α := impl_SinesOf_runG impl_SinesOf n p κ
def impl_SinesOf_CG {α : Type} (F0 : Nat → Int → Int → Int → Int → Int → Int → (Bool → Option α) → Option α) (F1 : Nat → Int → Int → Int → Int → Int → Int → Int → (Int → Int → Int → Int → Option α) → Option α) (F2 : Nat → Int → Int → Int → Int → (Int → Option α) → Option α) (n : Nat) : FuncId → List D → (Res → Option α) → Option α := tabC [(14, (byShape impl_IsTriangle_sh (impl_IsTriangle_runG F0 n))), (15, (byShape impl_Triangle_corner_sh (impl_Triangle_corner_runG F1 n))), (16, (byShape impl_Corner_sine_sh (impl_Corner_sine_runG F2 n)))]
def impl_SinesOf_C {α : Type} (n : Nat) : FuncId → List D → (Res → Option α) → Option α := impl_SinesOf_CG impl_IsTriangle impl_Triangle_corner impl_Corner_sine n
def impl_SinesOf_M : FuncId → List Nat := tabM []
def impl_SinesOf_lpsG {α : Type}  : List (LoopT α) := []
def impl_SinesOf_lps {α : Type} : List (LoopT α) := impl_SinesOf_lpsG
def impl_SinesOf_XG {α : Type} (F0 : Nat → Int → Int → Int → Int → Int → Int → (Bool → Option α) → Option α) (F1 : Nat → Int → Int → Int → Int → Int → Int → Int → (Int → Int → Int → Int → Option α) → Option α) (F2 : Nat → Int → Int → Int → Int → (Int → Option α) → Option α)  (n : Nat) : Ctx α := ⟨impl_SinesOf_CG F0 F1 F2 n, impl_SinesOf_M, eqs, lpOf (impl_SinesOf_lpsG) n⟩
def impl_SinesOf_X {α : Type} (n : Nat) : Ctx α := impl_SinesOf_XG impl_IsTriangle impl_Triangle_corner impl_Corner_sine n
def impl_SinesOf_Lt (np : Nat) (lent : List (Bool × Nat × Blk)) : Prop := np = 1 ∧ lent = []
def impl_SinesOf_body {α : Type} (F0 : Nat → Int → Int → Int → Int → Int → Int → (Bool → Option α) → Option α) (F1 : Nat → Int → Int → Int → Int → Int → Int → Int → (Int → Int → Int → Int → Option α) → Option α) (F2 : Nat → Int → Int → Int → Int → (Int → Option α) → Option α)  (k : Nat) (t : Int) (t1 : Int) (t2 : Int) (t3 : Int) (t4 : Int) (t5 : Int) (r0 : Int → Option α) (r1 : List Int → Int → Option α) : Option α :=
  F0 k t t1 t2 t3 t4 t5 fun v =>
  bif (!v) then
    r0 1
  else
    F1 k t t1 t2 t3 t4 t5 0 fun v1 v2 v3 v4 =>
    F2 k v1 v2 v3 v4 fun v5 =>
    F1 k t t1 t2 t3 t4 t5 1 fun v6 v7 v8 v9 =>
    F2 k v6 v7 v8 v9 fun v10 =>
    F1 k t t1 t2 t3 t4 t5 2 fun v11 v12 v13 v14 =>
    F2 k v11 v12 v13 v14 fun v15 =>
    r1 [v5, v10, v15] 0
theorem impl_SinesOf_gen {α : Type} (F0 : Nat → Int → Int → Int → Int → Int → Int → (Bool → Option α) → Option α) (F1 : Nat → Int → Int → Int → Int → Int → Int → Int → (Int → Int → Int → Int → Option α) → Option α) (F2 : Nat → Int → Int → Int → Int → (Int → Option α) → Option α)  (n : Nat) (t : Int) (t1 : Int) (t2 : Int) (t3 : Int) (t4 : Int) (t5 : Int) (κ : Res → Option α) : evFn Try.prog (impl_SinesOf_XG F0 F1 F2 n) Try.f6 (((buildDs impl_SinesOf_sh [.int t, .int t1, .int t2, .int t3, .int t4, .int t5]).map Prod.fst).getD []) κ = impl_SinesOf_body F0 F1 F2 n t t1 t2 t3 t4 t5 (fun v1 => κ ⟨[.nilsl, .int .i64 v1], []⟩) (fun v1 v2 => κ ⟨[.sl 2 (.int .i64) v1, .int .i64 v2], []⟩) := by kernel_rfl
theorem impl_SinesOf_eq {α : Type} (n : Nat) (t : Int) (t1 : Int) (t2 : Int) (t3 : Int) (t4 : Int) (t5 : Int) (r0 : Int → Option α) (r1 : List Int → Int → Option α) : impl_SinesOf_body impl_IsTriangle impl_Triangle_corner impl_Corner_sine n t t1 t2 t3 t4 t5 r0 r1 = impl_SinesOf n t t1 t2 t3 t4 t5 r0 r1 := (impl_SinesOf_body.eq_1 impl_IsTriangle impl_Triangle_corner impl_Corner_sine n t t1 t2 t3 t4 t5 r0 r1).trans (impl_SinesOf.eq_1 n t t1 t2 t3 t4 t5 r0 r1).symm
theorem impl_SinesOf_rn {α : Type} (F : Nat → Int → Int → Int → Int → Int → Int → (Int → Option α) → (List Int → Int → Option α) → Option α) (n : Nat) (t : Int) (t1 : Int) (t2 : Int) (t3 : Int) (t4 : Int) (t5 : Int) (κ : Res → Option α) : impl_SinesOf_runG F n [.int t, .int t1, .int t2, .int t3, .int t4, .int t5] κ = F n t t1 t2 t3 t4 t5 (fun v1 => κ ⟨[.nilsl, .int .i64 v1], []⟩) (fun v1 v2 => κ ⟨[.sl 2 (.int .i64) v1, .int .i64 v2], []⟩) := rfl
theorem impl_SinesOf_ev {α : Type} (n : Nat) (t : Int) (t1 : Int) (t2 : Int) (t3 : Int) (t4 : Int) (t5 : Int) (κ : Res → Option α) : evFn Try.prog (impl_SinesOf_X n) Try.f6 (((buildDs impl_SinesOf_sh [.int t, .int t1, .int t2, .int t3, .int t4, .int t5]).map Prod.fst).getD []) κ = impl_SinesOf_run n [.int t, .int t1, .int t2, .int t3, .int t4, .int t5] κ := (impl_SinesOf_gen impl_IsTriangle impl_Triangle_corner impl_Corner_sine n t t1 t2 t3 t4 t5 κ).trans ((impl_SinesOf_eq n t t1 t2 t3 t4 t5 (fun v1 => κ ⟨[.nilsl, .int .i64 v1], []⟩) (fun v1 v2 => κ ⟨[.sl 2 (.int .i64) v1, .int .i64 v2], []⟩)).trans ((impl_SinesOf_run.eq_1 n [.int t, .int t1, .int t2, .int t3, .int t4, .int t5] κ).trans (impl_SinesOf_rn impl_SinesOf n t t1 t2 t3 t4 t5 κ)).symm)
theorem impl_SinesOf_en (t : Int) (t1 : Int) (t2 : Int) (t3 : Int) (t4 : Int) (t5 : Int) : (entry 0 (((buildDs impl_SinesOf_sh [.int t, .int t1, .int t2, .int t3, .int t4, .int t5]).map Prod.fst).getD [])).map (fun x => (x.1.length, x.2.lent)) = some (1, []) := by kernel_rfl
theorem impl_SinesOf_good {α : Type} : ∀ n, GoodFn (α := α) Try.prog 6 (byShape impl_SinesOf_sh (impl_SinesOf_run n)) := by
  refine fn_good' Try.func6 (c := (Try.f6.body.getD .skip)) (by kernel_rfl) (by kernel_rfl) (by kernel_rfl) impl_SinesOf_C impl_SinesOf_M eqs impl_SinesOf_lps (fun n => tabC_good (List.forall_mem_cons.2 ⟨(impl_IsTriangle_good n), (List.forall_mem_cons.2 ⟨(impl_Triangle_corner_good n), (List.forall_mem_cons.2 ⟨(impl_Corner_sine_good n), (fun _ h => absurd h List.not_mem_nil)⟩)⟩)⟩)) eqs_ok impl_SinesOf_Lt ?_ ?_ impl_SinesOf_sh impl_SinesOf_run ?_
  · exact (fun _ h => absurd h List.not_mem_nil)
  · exact (fun _ h => absurd h List.not_mem_nil)
  · intro n p κ r ds hd hr
    have hr0 := hr
    unfold impl_SinesOf_run impl_SinesOf_runG at hr
    split at hr
    · rw [← ds_of hd]
      exact ⟨en_of (impl_SinesOf_en _ _ _ _ _ _) ⟨rfl, rfl⟩, (impl_SinesOf_ev n _ _ _ _ _ _ κ).trans hr0⟩
    · cases hr

/-! loop.example/g01297/laws.eqInt64S -/
def laws_eqInt64S_0N_1N_sh : List SkD := [.nilsl, .nilsl]
def laws_eqInt64S_0N_1N_runG {α : Type} (F : Nat → (Bool → Option α) → Option α) (n : Nat) (p : List P1) (κ : Res → Option α) : Option α := match p with
  | [] => F n (fun v1 => κ ⟨[.bool v1], []⟩)
  | _ => none
def laws_eqInt64S_0N_1N_run {α : Type} (n : Nat) (p : List P1) (κ : Res → Option α) : Option α := laws_eqInt64S_0N_1N_runG laws_eqInt64S_0N_1N n p κ
def laws_eqInt64S_0N_1N_CG {α : Type}  (n : Nat) : FuncId → List D → (Res → Option α) → Option α := tabC []
def laws_eqInt64S_0N_1N_C {α : Type} (n : Nat) : FuncId → List D → (Res → Option α) → Option α := laws_eqInt64S_0N_1N_CG n
def laws_eqInt64S_0N_1N_M : FuncId → List Nat := tabM []
def laws_eqInt64S_0N_1N_lpsG {α : Type}  : List (LoopT α) := []
def laws_eqInt64S_0N_1N_lps {α : Type} : List (LoopT α) := laws_eqInt64S_0N_1N_lpsG
def laws_eqInt64S_0N_1N_XG {α : Type}   (n : Nat) : Ctx α := ⟨laws_eqInt64S_0N_1N_CG n, laws_eqInt64S_0N_1N_M, eqs, lpOf (laws_eqInt64S_0N_1N_lpsG) n⟩
def laws_eqInt64S_0N_1N_X {α : Type} (n : Nat) : Ctx α := laws_eqInt64S_0N_1N_XG n
def laws_eqInt64S_0N_1N_Lt (np : Nat) (lent : List (Bool × Nat × Blk)) : Prop := np = 2 ∧ lent = []
def laws_eqInt64S_0N_1N_body {α : Type}   (k : Nat)  (r0 : Bool → Option α) : Option α :=
  r0 true
theorem laws_eqInt64S_0N_1N_gen {α : Type}   (n : Nat)  (κ : Res → Option α) : evFn Try.prog (laws_eqInt64S_0N_1N_XG n) Try.f7 (((buildDs laws_eqInt64S_0N_1N_sh []).map Prod.fst).getD []) κ = laws_eqInt64S_0N_1N_body n (fun v1 => κ ⟨[.bool v1], []⟩) := by kernel_rfl
theorem laws_eqInt64S_0N_1N_eq {α : Type} (n : Nat)  (r0 : Bool → Option α) : laws_eqInt64S_0N_1N_body n r0 = laws_eqInt64S_0N_1N n  r0 := (laws_eqInt64S_0N_1N_body.eq_1 n r0).trans (laws_eqInt64S_0N_1N.eq_1 n  r0).symm
theorem laws_eqInt64S_0N_1N_rn {α : Type} (F : Nat → (Bool → Option α) → Option α) (n : Nat)  (κ : Res → Option α) : laws_eqInt64S_0N_1N_runG F n [] κ = F n  (fun v1 => κ ⟨[.bool v1], []⟩) := rfl
theorem laws_eqInt64S_0N_1N_ev {α : Type} (n : Nat)  (κ : Res → Option α) : evFn Try.prog (laws_eqInt64S_0N_1N_X n) Try.f7 (((buildDs laws_eqInt64S_0N_1N_sh []).map Prod.fst).getD []) κ = laws_eqInt64S_0N_1N_run n [] κ := (laws_eqInt64S_0N_1N_gen n κ).trans ((laws_eqInt64S_0N_1N_eq n  (fun v1 => κ ⟨[.bool v1], []⟩)).trans ((laws_eqInt64S_0N_1N_run.eq_1 n [] κ).trans (laws_eqInt64S_0N_1N_rn laws_eqInt64S_0N_1N n  κ)).symm)
theorem laws_eqInt64S_0N_1N_en  : (entry 0 (((buildDs laws_eqInt64S_0N_1N_sh []).map Prod.fst).getD [])).map (fun x => (x.1.length, x.2.lent)) = some (2, []) := by kernel_rfl
theorem laws_eqInt64S_0N_1N_good {α : Type} : ∀ n, GoodFn (α := α) Try.prog 7 (byShape laws_eqInt64S_0N_1N_sh (laws_eqInt64S_0N_1N_run n)) := by
  refine fn_good' Try.func7 (c := (Try.f7.body.getD .skip)) (by kernel_rfl) (by kernel_rfl) (by kernel_rfl) laws_eqInt64S_0N_1N_C laws_eqInt64S_0N_1N_M eqs laws_eqInt64S_0N_1N_lps (fun n => tabC_good (fun _ h => absurd h List.not_mem_nil)) eqs_ok laws_eqInt64S_0N_1N_Lt ?_ ?_ laws_eqInt64S_0N_1N_sh laws_eqInt64S_0N_1N_run ?_
  · exact (fun _ h => absurd h List.not_mem_nil)
  · exact (fun _ h => absurd h List.not_mem_nil)
  · intro n p κ r ds hd hr
    have hr0 := hr
    unfold laws_eqInt64S_0N_1N_run laws_eqInt64S_0N_1N_runG at hr
    split at hr
    · rw [← ds_of hd]
      exact ⟨en_of (laws_eqInt64S_0N_1N_en) ⟨rfl, rfl⟩, (laws_eqInt64S_0N_1N_ev n κ).trans hr0⟩
    · cases hr

/-! loop.example/g01297/laws.markInt64S -/
def laws_markInt64S_0N_sh : List SkD := [.nilsl, .int .i64]
def laws_markInt64S_0N_runG {α : Type} (F : Nat → Int → (Int → Option α) → Option α) (n : Nat) (p : List P1) (κ : Res → Option α) : Option α := match p with
  | [.int k_] => F n k_ (fun v1 => κ ⟨[.int .i64 v1], []⟩)
  | _ => none
def laws_markInt64S_0N_run {α : Type} (n : Nat) (p : List P1) (κ : Res → Option α) : Option α := laws_markInt64S_0N_runG laws_markInt64S_0N n p κ
def laws_markInt64S_0N_CG {α : Type}  (n : Nat) : FuncId → List D → (Res → Option α) → Option α := tabC []
def laws_markInt64S_0N_C {α : Type} (n : Nat) : FuncId → List D → (Res → Option α) → Option α := laws_markInt64S_0N_CG n
def laws_markInt64S_0N_M : FuncId → List Nat := tabM []
def laws_markInt64S_0N_lpsG {α : Type}  : List (LoopT α) := []
def laws_markInt64S_0N_lps {α : Type} : List (LoopT α) := laws_markInt64S_0N_lpsG
def laws_markInt64S_0N_XG {α : Type}   (n : Nat) : Ctx α := ⟨laws_markInt64S_0N_CG n, laws_markInt64S_0N_M, eqs, lpOf (laws_markInt64S_0N_lpsG) n⟩
def laws_markInt64S_0N_X {α : Type} (n : Nat) : Ctx α := laws_markInt64S_0N_XG n
def laws_markInt64S_0N_Lt (np : Nat) (lent : List (Bool × Nat × Blk)) : Prop := np = 2 ∧ lent = []
def laws_markInt64S_0N_body {α : Type}   (k : Nat) (k_ : Int) (r0 : Int → Option α) : Option α :=
  r0 k_
theorem laws_markInt64S_0N_gen {α : Type}   (n : Nat) (k_ : Int) (κ : Res → Option α) : evFn Try.prog (laws_markInt64S_0N_XG n) Try.f8 (((buildDs laws_markInt64S_0N_sh [.int k_]).map Prod.fst).getD []) κ = laws_markInt64S_0N_body n k_ (fun v1 => κ ⟨[.int .i64 v1], []⟩) := by kernel_rfl
theorem laws_markInt64S_0N_eq {α : Type} (n : Nat) (k_ : Int) (r0 : Int → Option α) : laws_markInt64S_0N_body n k_ r0 = laws_markInt64S_0N n k_ r0 := (laws_markInt64S_0N_body.eq_1 n k_ r0).trans (laws_markInt64S_0N.eq_1 n k_ r0).symm
theorem laws_markInt64S_0N_rn {α : Type} (F : Nat → Int → (Int → Option α) → Option α) (n : Nat) (k_ : Int) (κ : Res → Option α) : laws_markInt64S_0N_runG F n [.int k_] κ = F n k_ (fun v1 => κ ⟨[.int .i64 v1], []⟩) := rfl
theorem laws_markInt64S_0N_ev {α : Type} (n : Nat) (k_ : Int) (κ : Res → Option α) : evFn Try.prog (laws_markInt64S_0N_X n) Try.f8 (((buildDs laws_markInt64S_0N_sh [.int k_]).map Prod.fst).getD []) κ = laws_markInt64S_0N_run n [.int k_] κ := (laws_markInt64S_0N_gen n k_ κ).trans ((laws_markInt64S_0N_eq n k_ (fun v1 => κ ⟨[.int .i64 v1], []⟩)).trans ((laws_markInt64S_0N_run.eq_1 n [.int k_] κ).trans (laws_markInt64S_0N_rn laws_markInt64S_0N n k_ κ)).symm)
theorem laws_markInt64S_0N_en (k_ : Int) : (entry 0 (((buildDs laws_markInt64S_0N_sh [.int k_]).map Prod.fst).getD [])).map (fun x => (x.1.length, x.2.lent)) = some (2, []) := by kernel_rfl
theorem laws_markInt64S_0N_good {α : Type} : ∀ n, GoodFn (α := α) Try.prog 8 (byShape laws_markInt64S_0N_sh (laws_markInt64S_0N_run n)) := by
  refine fn_good' Try.func8 (c := (Try.f8.body.getD .skip)) (by kernel_rfl) (by kernel_rfl) (by kernel_rfl) laws_markInt64S_0N_C laws_markInt64S_0N_M eqs laws_markInt64S_0N_lps (fun n => tabC_good (fun _ h => absurd h List.not_mem_nil)) eqs_ok laws_markInt64S_0N_Lt ?_ ?_ laws_markInt64S_0N_sh laws_markInt64S_0N_run ?_
  · exact (fun _ h => absurd h List.not_mem_nil)
  · exact (fun _ h => absurd h List.not_mem_nil)
  · intro n p κ r ds hd hr
    have hr0 := hr
    unfold laws_markInt64S_0N_run laws_markInt64S_0N_runG at hr
    split at hr
    · rw [← ds_of hd]
      exact ⟨en_of (laws_markInt64S_0N_en _) ⟨rfl, rfl⟩, (laws_markInt64S_0N_ev n _ κ).trans hr0⟩
    · cases hr

/-! loop.example/g01297/laws.heldInt64S -/
def laws_heldInt64S_0N_sh : List SkD := [.nilsl, .int .i64]
def laws_heldInt64S_0N_runG {α : Type} (F : Nat → Int → (Int → Option α) → Option α) (n : Nat) (p : List P1) (κ : Res → Option α) : Option α := match p with
  | [.int k_] => F n k_ (fun v1 => κ ⟨[.int .i64 v1], []⟩)
  | _ => none
def laws_heldInt64S_0N_run {α : Type} (n : Nat) (p : List P1) (κ : Res → Option α) : Option α := laws_heldInt64S_0N_runG laws_heldInt64S_0N n p κ
def laws_heldInt64S_0N_CG {α : Type}  (n : Nat) : FuncId → List D → (Res → Option α) → Option α := tabC []
def laws_heldInt64S_0N_C {α : Type} (n : Nat) : FuncId → List D → (Res → Option α) → Option α := laws_heldInt64S_0N_CG n
def laws_heldInt64S_0N_M : FuncId → List Nat := tabM []
def laws_heldInt64S_0N_lpsG {α : Type}  : List (LoopT α) := []
def laws_heldInt64S_0N_lps {α : Type} : List (LoopT α) := laws_heldInt64S_0N_lpsG
def laws_heldInt64S_0N_XG {α : Type}   (n : Nat) : Ctx α := ⟨laws_heldInt64S_0N_CG n, laws_heldInt64S_0N_M, eqs, lpOf (laws_heldInt64S_0N_lpsG) n⟩
def laws_heldInt64S_0N_X {α : Type} (n : Nat) : Ctx α := laws_heldInt64S_0N_XG n
def laws_heldInt64S_0N_Lt (np : Nat) (lent : List (Bool × Nat × Blk)) : Prop := np = 2 ∧ lent = []
def laws_heldInt64S_0N_body {α : Type}   (k : Nat) (k_ : Int) (r0 : Int → Option α) : Option α :=
  r0 k_
theorem laws_heldInt64S_0N_gen {α : Type}   (n : Nat) (k_ : Int) (κ : Res → Option α) : evFn Try.prog (laws_heldInt64S_0N_XG n) Try.f9 (((buildDs laws_heldInt64S_0N_sh [.int k_]).map Prod.fst).getD []) κ = laws_heldInt64S_0N_body n k_ (fun v1 => κ ⟨[.int .i64 v1], []⟩) := by kernel_rfl
theorem laws_heldInt64S_0N_eq {α : Type} (n : Nat) (k_ : Int) (r0 : Int → Option α) : laws_heldInt64S_0N_body n k_ r0 = laws_heldInt64S_0N n k_ r0 := (laws_heldInt64S_0N_body.eq_1 n k_ r0).trans (laws_heldInt64S_0N.eq_1 n k_ r0).symm
theorem laws_heldInt64S_0N_rn {α : Type} (F : Nat → Int → (Int → Option α) → Option α) (n : Nat) (k_ : Int) (κ : Res → Option α) : laws_heldInt64S_0N_runG F n [.int k_] κ = F n k_ (fun v1 => κ ⟨[.int .i64 v1], []⟩) := rfl
theorem laws_heldInt64S_0N_ev {α : Type} (n : Nat) (k_ : Int) (κ : Res → Option α) : evFn Try.prog (laws_heldInt64S_0N_X n) Try.f9 (((buildDs laws_heldInt64S_0N_sh [.int k_]).map Prod.fst).getD []) κ = laws_heldInt64S_0N_run n [.int k_] κ := (laws_heldInt64S_0N_gen n k_ κ).trans ((laws_heldInt64S_0N_eq n k_ (fun v1 => κ ⟨[.int .i64 v1], []⟩)).trans ((laws_heldInt64S_0N_run.eq_1 n [.int k_] κ).trans (laws_heldInt64S_0N_rn laws_heldInt64S_0N n k_ κ)).symm)
theorem laws_heldInt64S_0N_en (k_ : Int) : (entry 0 (((buildDs laws_heldInt64S_0N_sh [.int k_]).map Prod.fst).getD [])).map (fun x => (x.1.length, x.2.lent)) = some (2, []) := by kernel_rfl
theorem laws_heldInt64S_0N_good {α : Type} : ∀ n, GoodFn (α := α) Try.prog 9 (byShape laws_heldInt64S_0N_sh (laws_heldInt64S_0N_run n)) := by
  refine fn_good' Try.func9 (c := (Try.f9.body.getD .skip)) (by kernel_rfl) (by kernel_rfl) (by kernel_rfl) laws_heldInt64S_0N_C laws_heldInt64S_0N_M eqs laws_heldInt64S_0N_lps (fun n => tabC_good (fun _ h => absurd h List.not_mem_nil)) eqs_ok laws_heldInt64S_0N_Lt ?_ ?_ laws_heldInt64S_0N_sh laws_heldInt64S_0N_run ?_
  · exact (fun _ h => absurd h List.not_mem_nil)
  · exact (fun _ h => absurd h List.not_mem_nil)
  · intro n p κ r ds hd hr
    have hr0 := hr
    unfold laws_heldInt64S_0N_run laws_heldInt64S_0N_runG at hr
    split at hr
    · rw [← ds_of hd]
      exact ⟨en_of (laws_heldInt64S_0N_en _) ⟨rfl, rfl⟩, (laws_heldInt64S_0N_ev n _ κ).trans hr0⟩
    · cases hr

end Go.Proofs.Ytmaclfmobhhclaa
