/- The program's functions hold to their readings without memory: printed by a program of ours. -/
import Derived.Test.YtegnnbhphgeocaaSeXIsDesk
namespace Go.Proofs.Ytegnnbhphgeocaa
open Go Go.Ev Go.Sh Go.Proofs

/-! loop.example/g01297/laws.toPoint -/
def laws_toPoint_sh : List SkD := [.agg [.int .i64, .int .i64]]
def laws_toPoint_runG {α : Type} (F : Nat → Int → Int → (Int → Int → Option α) → Option α) (n : Nat) (p : List P1) (κ : Res → Option α) : Option α := match p with
  | [.int a, .int a1] => F n a a1 (fun v1 v2 => κ ⟨[.agg [.int .i64 v1, .int .i64 v2]], []⟩)
  | _ => none
def laws_toPoint_run {α : Type} (n : Nat) (p : List P1) (κ : Res → Option α) : Option α := laws_toPoint_runG laws_toPoint n p κ
def laws_toPoint_CG {α : Type}  (n : Nat) : FuncId → List D → (Res → Option α) → Option α := tabC []
def laws_toPoint_C {α : Type} (n : Nat) : FuncId → List D → (Res → Option α) → Option α := laws_toPoint_CG n
def laws_toPoint_M : FuncId → List Nat := tabM []
def laws_toPoint_lpsG {α : Type}  : List (LoopT α) := []
def laws_toPoint_lps {α : Type} : List (LoopT α) := laws_toPoint_lpsG
def laws_toPoint_XG {α : Type}   (n : Nat) : Ctx α := ⟨laws_toPoint_CG n, laws_toPoint_M, eqs, lpOf (laws_toPoint_lpsG) n⟩
def laws_toPoint_X {α : Type} (n : Nat) : Ctx α := laws_toPoint_XG n
def laws_toPoint_Lt (np : Nat) (lent : List (Bool × Nat × Blk)) : Prop := np = 1 ∧ lent = []
def laws_toPoint_body {α : Type}   (k : Nat) (a : Int) (a1 : Int) (r0 : Int → Int → Option α) : Option α :=
  r0 a a1
theorem laws_toPoint_gen {α : Type}   (n : Nat) (a : Int) (a1 : Int) (κ : Res → Option α) : evFn Try.prog (laws_toPoint_XG n) Try.f18 (((buildDs laws_toPoint_sh [.int a, .int a1]).map Prod.fst).getD []) κ = laws_toPoint_body n a a1 (fun v1 v2 => κ ⟨[.agg [.int .i64 v1, .int .i64 v2]], []⟩) := by kernel_rfl
theorem laws_toPoint_ev {α : Type} (n : Nat) (a : Int) (a1 : Int) (κ : Res → Option α) : evFn Try.prog (laws_toPoint_X n) Try.f18 (((buildDs laws_toPoint_sh [.int a, .int a1]).map Prod.fst).getD []) κ = laws_toPoint_run n [.int a, .int a1] κ := (laws_toPoint_gen n a a1 κ).trans (by kernel_rfl)
theorem laws_toPoint_en (a : Int) (a1 : Int) : (entry 0 (((buildDs laws_toPoint_sh [.int a, .int a1]).map Prod.fst).getD [])).map (fun x => (x.1.length, x.2.lent)) = some (1, []) := by kernel_rfl
theorem laws_toPoint_good {α : Type} : ∀ n, GoodFn (α := α) Try.prog 18 (byShape laws_toPoint_sh (laws_toPoint_run n)) := by
  refine fn_good' Try.func18 (c := (Try.f18.body.getD .skip)) (by kernel_rfl) (by kernel_rfl) (by kernel_rfl) laws_toPoint_C laws_toPoint_M eqs laws_toPoint_lps (fun n => tabC_good (fun _ h => absurd h List.not_mem_nil)) eqs_ok laws_toPoint_Lt ?_ ?_ laws_toPoint_sh laws_toPoint_run ?_
  · exact (fun _ h => absurd h List.not_mem_nil)
  · exact (fun _ h => absurd h List.not_mem_nil)
  · intro n p κ r ds hd hr
    have hr0 := hr
    unfold laws_toPoint_run laws_toPoint_runG at hr
    split at hr
    · rw [← ds_of hd]
      exact ⟨en_of (laws_toPoint_en _ _) ⟨rfl, rfl⟩, (laws_toPoint_ev n _ _ κ).trans hr0⟩
    · cases hr

/-! loop.example/g01297/laws.toInt64A2 -/
def laws_toInt64A2_sh : List SkD := [.agg [.int .i64, .int .i64]]
def laws_toInt64A2_runG {α : Type} (F : Nat → Int → Int → (Int → Int → Option α) → Option α) (n : Nat) (p : List P1) (κ : Res → Option α) : Option α := match p with
  | [.int a, .int a1] => F n a a1 (fun v1 v2 => κ ⟨[.agg [.int .i64 v1, .int .i64 v2]], []⟩)
  | _ => none
def laws_toInt64A2_run {α : Type} (n : Nat) (p : List P1) (κ : Res → Option α) : Option α := laws_toInt64A2_runG laws_toInt64A2 n p κ
def laws_toInt64A2_CG {α : Type}  (n : Nat) : FuncId → List D → (Res → Option α) → Option α := tabC []
def laws_toInt64A2_C {α : Type} (n : Nat) : FuncId → List D → (Res → Option α) → Option α := laws_toInt64A2_CG n
def laws_toInt64A2_M : FuncId → List Nat := tabM []
def laws_toInt64A2_lpsG {α : Type}  : List (LoopT α) := []
def laws_toInt64A2_lps {α : Type} : List (LoopT α) := laws_toInt64A2_lpsG
def laws_toInt64A2_XG {α : Type}   (n : Nat) : Ctx α := ⟨laws_toInt64A2_CG n, laws_toInt64A2_M, eqs, lpOf (laws_toInt64A2_lpsG) n⟩
def laws_toInt64A2_X {α : Type} (n : Nat) : Ctx α := laws_toInt64A2_XG n
def laws_toInt64A2_Lt (np : Nat) (lent : List (Bool × Nat × Blk)) : Prop := np = 1 ∧ lent = []
def laws_toInt64A2_body {α : Type}   (k : Nat) (a : Int) (a1 : Int) (r0 : Int → Int → Option α) : Option α :=
  r0 a a1
theorem laws_toInt64A2_gen {α : Type}   (n : Nat) (a : Int) (a1 : Int) (κ : Res → Option α) : evFn Try.prog (laws_toInt64A2_XG n) Try.f102 (((buildDs laws_toInt64A2_sh [.int a, .int a1]).map Prod.fst).getD []) κ = laws_toInt64A2_body n a a1 (fun v1 v2 => κ ⟨[.agg [.int .i64 v1, .int .i64 v2]], []⟩) := by kernel_rfl
theorem laws_toInt64A2_ev {α : Type} (n : Nat) (a : Int) (a1 : Int) (κ : Res → Option α) : evFn Try.prog (laws_toInt64A2_X n) Try.f102 (((buildDs laws_toInt64A2_sh [.int a, .int a1]).map Prod.fst).getD []) κ = laws_toInt64A2_run n [.int a, .int a1] κ := (laws_toInt64A2_gen n a a1 κ).trans (by kernel_rfl)
theorem laws_toInt64A2_en (a : Int) (a1 : Int) : (entry 0 (((buildDs laws_toInt64A2_sh [.int a, .int a1]).map Prod.fst).getD [])).map (fun x => (x.1.length, x.2.lent)) = some (1, []) := by kernel_rfl
theorem laws_toInt64A2_good {α : Type} : ∀ n, GoodFn (α := α) Try.prog 102 (byShape laws_toInt64A2_sh (laws_toInt64A2_run n)) := by
  refine fn_good' Try.func102 (c := (Try.f102.body.getD .skip)) (by kernel_rfl) (by kernel_rfl) (by kernel_rfl) laws_toInt64A2_C laws_toInt64A2_M eqs laws_toInt64A2_lps (fun n => tabC_good (fun _ h => absurd h List.not_mem_nil)) eqs_ok laws_toInt64A2_Lt ?_ ?_ laws_toInt64A2_sh laws_toInt64A2_run ?_
  · exact (fun _ h => absurd h List.not_mem_nil)
  · exact (fun _ h => absurd h List.not_mem_nil)
  · intro n p κ r ds hd hr
    have hr0 := hr
    unfold laws_toInt64A2_run laws_toInt64A2_runG at hr
    split at hr
    · rw [← ds_of hd]
      exact ⟨en_of (laws_toInt64A2_en _ _) ⟨rfl, rfl⟩, (laws_toInt64A2_ev n _ _ κ).trans hr0⟩
    · cases hr

/-! loop.example/g01297/laws.toMatrix -/
def laws_toMatrix_sh : List SkD := [.agg [.int .i64, .int .i64, .int .i64, .int .i64]]
def laws_toMatrix_runG {α : Type} (F : Nat → Int → Int → Int → Int → (Int → Int → Int → Int → Option α) → Option α) (n : Nat) (p : List P1) (κ : Res → Option α) : Option α := match p with
  | [.int a, .int a1, .int a2, .int a3] => F n a a1 a2 a3 (fun v1 v2 v3 v4 => κ ⟨[.agg [.int .i64 v1, .int .i64 v2, .int .i64 v3, .int .i64 v4]], []⟩)
  | _ => none
def laws_toMatrix_run {α : Type} (n : Nat) (p : List P1) (κ : Res → Option α) : Option α := laws_toMatrix_runG laws_toMatrix n p κ
def laws_toMatrix_CG {α : Type} (F0 : Nat → Int → Int → (Int → Int → Option α) → Option α) (n : Nat) : FuncId → List D → (Res → Option α) → Option α := tabC [(102, (byShape laws_toInt64A2_sh (laws_toInt64A2_runG F0 n)))]
def laws_toMatrix_C {α : Type} (n : Nat) : FuncId → List D → (Res → Option α) → Option α := laws_toMatrix_CG laws_toInt64A2 n
def laws_toMatrix_M : FuncId → List Nat := tabM []
def laws_toMatrix_lpsG {α : Type}  : List (LoopT α) := []
def laws_toMatrix_lps {α : Type} : List (LoopT α) := laws_toMatrix_lpsG
def laws_toMatrix_XG {α : Type} (F0 : Nat → Int → Int → (Int → Int → Option α) → Option α)  (n : Nat) : Ctx α := ⟨laws_toMatrix_CG F0 n, laws_toMatrix_M, eqs, lpOf (laws_toMatrix_lpsG) n⟩
def laws_toMatrix_X {α : Type} (n : Nat) : Ctx α := laws_toMatrix_XG laws_toInt64A2 n
def laws_toMatrix_Lt (np : Nat) (lent : List (Bool × Nat × Blk)) : Prop := np = 1 ∧ lent = []
def laws_toMatrix_body {α : Type} (F0 : Nat → Int → Int → (Int → Int → Option α) → Option α)  (k : Nat) (a : Int) (a1 : Int) (a2 : Int) (a3 : Int) (r0 : Int → Int → Int → Int → Option α) : Option α :=
  F0 k a a1 fun v v1 =>
  F0 k a2 a3 fun v2 v3 =>
  r0 v v1 v2 v3
theorem laws_toMatrix_gen {α : Type} (F0 : Nat → Int → Int → (Int → Int → Option α) → Option α)  (n : Nat) (a : Int) (a1 : Int) (a2 : Int) (a3 : Int) (κ : Res → Option α) : evFn Try.prog (laws_toMatrix_XG F0 n) Try.f67 (((buildDs laws_toMatrix_sh [.int a, .int a1, .int a2, .int a3]).map Prod.fst).getD []) κ = laws_toMatrix_body F0 n a a1 a2 a3 (fun v1 v2 v3 v4 => κ ⟨[.agg [.int .i64 v1, .int .i64 v2, .int .i64 v3, .int .i64 v4]], []⟩) := by kernel_rfl
theorem laws_toMatrix_ev {α : Type} (n : Nat) (a : Int) (a1 : Int) (a2 : Int) (a3 : Int) (κ : Res → Option α) : evFn Try.prog (laws_toMatrix_X n) Try.f67 (((buildDs laws_toMatrix_sh [.int a, .int a1, .int a2, .int a3]).map Prod.fst).getD []) κ = laws_toMatrix_run n [.int a, .int a1, .int a2, .int a3] κ := (laws_toMatrix_gen laws_toInt64A2 n a a1 a2 a3 κ).trans (by kernel_rfl)
theorem laws_toMatrix_en (a : Int) (a1 : Int) (a2 : Int) (a3 : Int) : (entry 0 (((buildDs laws_toMatrix_sh [.int a, .int a1, .int a2, .int a3]).map Prod.fst).getD [])).map (fun x => (x.1.length, x.2.lent)) = some (1, []) := by kernel_rfl
theorem laws_toMatrix_good {α : Type} : ∀ n, GoodFn (α := α) Try.prog 67 (byShape laws_toMatrix_sh (laws_toMatrix_run n)) := by
  refine fn_good' Try.func67 (c := (Try.f67.body.getD .skip)) (by kernel_rfl) (by kernel_rfl) (by kernel_rfl) laws_toMatrix_C laws_toMatrix_M eqs laws_toMatrix_lps (fun n => tabC_good (List.forall_mem_cons.2 ⟨(laws_toInt64A2_good n), (fun _ h => absurd h List.not_mem_nil)⟩)) eqs_ok laws_toMatrix_Lt ?_ ?_ laws_toMatrix_sh laws_toMatrix_run ?_
  · exact (fun _ h => absurd h List.not_mem_nil)
  · exact (fun _ h => absurd h List.not_mem_nil)
  · intro n p κ r ds hd hr
    have hr0 := hr
    unfold laws_toMatrix_run laws_toMatrix_runG at hr
    split at hr
    · rw [← ds_of hd]
      exact ⟨en_of (laws_toMatrix_en _ _ _ _) ⟨rfl, rfl⟩, (laws_toMatrix_ev n _ _ _ _ κ).trans hr0⟩
    · cases hr

/-! loop.example/g01297/laws.toForm -/
def laws_toForm_sh : List SkD := [.agg [.int .i64, .int .i64, .int .i64]]
def laws_toForm_runG {α : Type} (F : Nat → Int → Int → Int → (Int → Int → Int → Option α) → Option α) (n : Nat) (p : List P1) (κ : Res → Option α) : Option α := match p with
  | [.int a, .int a1, .int a2] => F n a a1 a2 (fun v1 v2 v3 => κ ⟨[.agg [.int .i64 v1, .int .i64 v2, .int .i64 v3]], []⟩)
  | _ => none
def laws_toForm_run {α : Type} (n : Nat) (p : List P1) (κ : Res → Option α) : Option α := laws_toForm_runG laws_toForm n p κ
def laws_toForm_CG {α : Type}  (n : Nat) : FuncId → List D → (Res → Option α) → Option α := tabC []
def laws_toForm_C {α : Type} (n : Nat) : FuncId → List D → (Res → Option α) → Option α := laws_toForm_CG n
def laws_toForm_M : FuncId → List Nat := tabM []
def laws_toForm_lpsG {α : Type}  : List (LoopT α) := []
def laws_toForm_lps {α : Type} : List (LoopT α) := laws_toForm_lpsG
def laws_toForm_XG {α : Type}   (n : Nat) : Ctx α := ⟨laws_toForm_CG n, laws_toForm_M, eqs, lpOf (laws_toForm_lpsG) n⟩
def laws_toForm_X {α : Type} (n : Nat) : Ctx α := laws_toForm_XG n
def laws_toForm_Lt (np : Nat) (lent : List (Bool × Nat × Blk)) : Prop := np = 1 ∧ lent = []
def laws_toForm_body {α : Type}   (k : Nat) (a : Int) (a1 : Int) (a2 : Int) (r0 : Int → Int → Int → Option α) : Option α :=
  r0 a a1 a2
theorem laws_toForm_gen {α : Type}   (n : Nat) (a : Int) (a1 : Int) (a2 : Int) (κ : Res → Option α) : evFn Try.prog (laws_toForm_XG n) Try.f15 (((buildDs laws_toForm_sh [.int a, .int a1, .int a2]).map Prod.fst).getD []) κ = laws_toForm_body n a a1 a2 (fun v1 v2 v3 => κ ⟨[.agg [.int .i64 v1, .int .i64 v2, .int .i64 v3]], []⟩) := by kernel_rfl
theorem laws_toForm_ev {α : Type} (n : Nat) (a : Int) (a1 : Int) (a2 : Int) (κ : Res → Option α) : evFn Try.prog (laws_toForm_X n) Try.f15 (((buildDs laws_toForm_sh [.int a, .int a1, .int a2]).map Prod.fst).getD []) κ = laws_toForm_run n [.int a, .int a1, .int a2] κ := (laws_toForm_gen n a a1 a2 κ).trans (by kernel_rfl)
theorem laws_toForm_en (a : Int) (a1 : Int) (a2 : Int) : (entry 0 (((buildDs laws_toForm_sh [.int a, .int a1, .int a2]).map Prod.fst).getD [])).map (fun x => (x.1.length, x.2.lent)) = some (1, []) := by kernel_rfl
theorem laws_toForm_good {α : Type} : ∀ n, GoodFn (α := α) Try.prog 15 (byShape laws_toForm_sh (laws_toForm_run n)) := by
  refine fn_good' Try.func15 (c := (Try.f15.body.getD .skip)) (by kernel_rfl) (by kernel_rfl) (by kernel_rfl) laws_toForm_C laws_toForm_M eqs laws_toForm_lps (fun n => tabC_good (fun _ h => absurd h List.not_mem_nil)) eqs_ok laws_toForm_Lt ?_ ?_ laws_toForm_sh laws_toForm_run ?_
  · exact (fun _ h => absurd h List.not_mem_nil)
  · exact (fun _ h => absurd h List.not_mem_nil)
  · intro n p κ r ds hd hr
    have hr0 := hr
    unfold laws_toForm_run laws_toForm_runG at hr
    split at hr
    · rw [← ds_of hd]
      exact ⟨en_of (laws_toForm_en _ _ _) ⟨rfl, rfl⟩, (laws_toForm_ev n _ _ _ κ).trans hr0⟩
    · cases hr

/-! loop.example/g01297/laws.toDesk -/
def laws_toDesk_sh : List SkD := [.agg [.int .i64, .int .i64, .int .i64, .int .i64, .int .i64, .int .i64, .int .i64, .int .i64, .int .i64, .int .i64, .int .i64]]
def laws_toDesk_runG {α : Type} (F : Nat → Int → Int → Int → Int → Int → Int → Int → Int → Int → Int → Int → (Int → Int → Int → Int → Int → Int → Int → Int → Int → Int → Int → Option α) → Option α) (n : Nat) (p : List P1) (κ : Res → Option α) : Option α := match p with
  | [.int a, .int a1, .int a2, .int a3, .int a4, .int a5, .int a6, .int a7, .int a8, .int a9, .int a10] => F n a a1 a2 a3 a4 a5 a6 a7 a8 a9 a10 (fun v1 v2 v3 v4 v5 v6 v7 v8 v9 v10 v11 => κ ⟨[.agg [.int .i64 v1, .int .i64 v2, .int .i64 v3, .int .i64 v4, .int .i64 v5, .int .i64 v6, .int .i64 v7, .int .i64 v8, .int .i64 v9, .int .i64 v10, .int .i64 v11]], []⟩)
  | _ => none
def laws_toDesk_run {α : Type} (n : Nat) (p : List P1) (κ : Res → Option α) : Option α := laws_toDesk_runG laws_toDesk n p κ
def laws_toDesk_CG {α : Type} (F0 : Nat → Int → Int → (Int → Int → Option α) → Option α) (F1 : Nat → Int → Int → Int → Int → (Int → Int → Int → Int → Option α) → Option α) (F2 : Nat → Int → Int → Int → (Int → Int → Int → Option α) → Option α) (n : Nat) : FuncId → List D → (Res → Option α) → Option α := tabC [(18, (byShape laws_toPoint_sh (laws_toPoint_runG F0 n))), (67, (byShape laws_toMatrix_sh (laws_toMatrix_runG F1 n))), (15, (byShape laws_toForm_sh (laws_toForm_runG F2 n)))]
def laws_toDesk_C {α : Type} (n : Nat) : FuncId → List D → (Res → Option α) → Option α := laws_toDesk_CG laws_toPoint laws_toMatrix laws_toForm n
def laws_toDesk_M : FuncId → List Nat := tabM []
def laws_toDesk_lpsG {α : Type}  : List (LoopT α) := []
def laws_toDesk_lps {α : Type} : List (LoopT α) := laws_toDesk_lpsG
def laws_toDesk_XG {α : Type} (F0 : Nat → Int → Int → (Int → Int → Option α) → Option α) (F1 : Nat → Int → Int → Int → Int → (Int → Int → Int → Int → Option α) → Option α) (F2 : Nat → Int → Int → Int → (Int → Int → Int → Option α) → Option α)  (n : Nat) : Ctx α := ⟨laws_toDesk_CG F0 F1 F2 n, laws_toDesk_M, eqs, lpOf (laws_toDesk_lpsG) n⟩
def laws_toDesk_X {α : Type} (n : Nat) : Ctx α := laws_toDesk_XG laws_toPoint laws_toMatrix laws_toForm n
def laws_toDesk_Lt (np : Nat) (lent : List (Bool × Nat × Blk)) : Prop := np = 1 ∧ lent = []
def laws_toDesk_body {α : Type} (F0 : Nat → Int → Int → (Int → Int → Option α) → Option α) (F1 : Nat → Int → Int → Int → Int → (Int → Int → Int → Int → Option α) → Option α) (F2 : Nat → Int → Int → Int → (Int → Int → Int → Option α) → Option α)  (k : Nat) (a : Int) (a1 : Int) (a2 : Int) (a3 : Int) (a4 : Int) (a5 : Int) (a6 : Int) (a7 : Int) (a8 : Int) (a9 : Int) (a10 : Int) (r0 : Int → Int → Int → Int → Int → Int → Int → Int → Int → Int → Int → Option α) : Option α :=
  F0 k a a1 fun v v1 =>
  F0 k a2 a3 fun v2 v3 =>
  F1 k a4 a5 a6 a7 fun v4 v5 v6 v7 =>
  F2 k a8 a9 a10 fun v8 v9 v10 =>
  r0 v v1 v2 v3 v4 v5 v6 v7 v8 v9 v10
theorem laws_toDesk_gen {α : Type} (F0 : Nat → Int → Int → (Int → Int → Option α) → Option α) (F1 : Nat → Int → Int → Int → Int → (Int → Int → Int → Int → Option α) → Option α) (F2 : Nat → Int → Int → Int → (Int → Int → Int → Option α) → Option α)  (n : Nat) (a : Int) (a1 : Int) (a2 : Int) (a3 : Int) (a4 : Int) (a5 : Int) (a6 : Int) (a7 : Int) (a8 : Int) (a9 : Int) (a10 : Int) (κ : Res → Option α) : evFn Try.prog (laws_toDesk_XG F0 F1 F2 n) Try.f29 (((buildDs laws_toDesk_sh [.int a, .int a1, .int a2, .int a3, .int a4, .int a5, .int a6, .int a7, .int a8, .int a9, .int a10]).map Prod.fst).getD []) κ = laws_toDesk_body F0 F1 F2 n a a1 a2 a3 a4 a5 a6 a7 a8 a9 a10 (fun v1 v2 v3 v4 v5 v6 v7 v8 v9 v10 v11 => κ ⟨[.agg [.int .i64 v1, .int .i64 v2, .int .i64 v3, .int .i64 v4, .int .i64 v5, .int .i64 v6, .int .i64 v7, .int .i64 v8, .int .i64 v9, .int .i64 v10, .int .i64 v11]], []⟩) := by kernel_rfl
theorem laws_toDesk_ev {α : Type} (n : Nat) (a : Int) (a1 : Int) (a2 : Int) (a3 : Int) (a4 : Int) (a5 : Int) (a6 : Int) (a7 : Int) (a8 : Int) (a9 : Int) (a10 : Int) (κ : Res → Option α) : evFn Try.prog (laws_toDesk_X n) Try.f29 (((buildDs laws_toDesk_sh [.int a, .int a1, .int a2, .int a3, .int a4, .int a5, .int a6, .int a7, .int a8, .int a9, .int a10]).map Prod.fst).getD []) κ = laws_toDesk_run n [.int a, .int a1, .int a2, .int a3, .int a4, .int a5, .int a6, .int a7, .int a8, .int a9, .int a10] κ := (laws_toDesk_gen laws_toPoint laws_toMatrix laws_toForm n a a1 a2 a3 a4 a5 a6 a7 a8 a9 a10 κ).trans (by kernel_rfl)
theorem laws_toDesk_en (a : Int) (a1 : Int) (a2 : Int) (a3 : Int) (a4 : Int) (a5 : Int) (a6 : Int) (a7 : Int) (a8 : Int) (a9 : Int) (a10 : Int) : (entry 0 (((buildDs laws_toDesk_sh [.int a, .int a1, .int a2, .int a3, .int a4, .int a5, .int a6, .int a7, .int a8, .int a9, .int a10]).map Prod.fst).getD [])).map (fun x => (x.1.length, x.2.lent)) = some (1, []) := by kernel_rfl
theorem laws_toDesk_good {α : Type} : ∀ n, GoodFn (α := α) Try.prog 29 (byShape laws_toDesk_sh (laws_toDesk_run n)) := by
  refine fn_good' Try.func29 (c := (Try.f29.body.getD .skip)) (by kernel_rfl) (by kernel_rfl) (by kernel_rfl) laws_toDesk_C laws_toDesk_M eqs laws_toDesk_lps (fun n => tabC_good (List.forall_mem_cons.2 ⟨(laws_toPoint_good n), (List.forall_mem_cons.2 ⟨(laws_toMatrix_good n), (List.forall_mem_cons.2 ⟨(laws_toForm_good n), (fun _ h => absurd h List.not_mem_nil)⟩)⟩)⟩)) eqs_ok laws_toDesk_Lt ?_ ?_ laws_toDesk_sh laws_toDesk_run ?_
  · exact (fun _ h => absurd h List.not_mem_nil)
  · exact (fun _ h => absurd h List.not_mem_nil)
  · intro n p κ r ds hd hr
    have hr0 := hr
    unfold laws_toDesk_run laws_toDesk_runG at hr
    split at hr
    · rw [← ds_of hd]
      exact ⟨en_of (laws_toDesk_en _ _ _ _ _ _ _ _ _ _ _) ⟨rfl, rfl⟩, (laws_toDesk_ev n _ _ _ _ _ _ _ _ _ _ _ κ).trans hr0⟩
    · cases hr

/-! loop.example/g01297/spec.l01In -/
def spec_l01In_sh : List SkD := [.int .i64, .int .i64, .int .i64]
def spec_l01In_runG {α : Type} (F : Nat → Int → Int → Int → (Bool → Option α) → Option α) (n : Nat) (p : List P1) (κ : Res → Option α) : Option α := match p with
  | [.int n_, .int low, .int high] => F n n_ low high (fun v1 => κ ⟨[.bool v1], []⟩)
  | _ => none
def spec_l01In_run {α : Type} (n : Nat) (p : List P1) (κ : Res → Option α) : Option α := spec_l01In_runG spec_l01In n p κ
def spec_l01In_CG {α : Type}  (n : Nat) : FuncId → List D → (Res → Option α) → Option α := tabC []
def spec_l01In_C {α : Type} (n : Nat) : FuncId → List D → (Res → Option α) → Option α := spec_l01In_CG n
def spec_l01In_M : FuncId → List Nat := tabM []
def spec_l01In_lpsG {α : Type}  : List (LoopT α) := []
def spec_l01In_lps {α : Type} : List (LoopT α) := spec_l01In_lpsG
def spec_l01In_XG {α : Type}   (n : Nat) : Ctx α := ⟨spec_l01In_CG n, spec_l01In_M, eqs, lpOf (spec_l01In_lpsG) n⟩
def spec_l01In_X {α : Type} (n : Nat) : Ctx α := spec_l01In_XG n
def spec_l01In_Lt (np : Nat) (lent : List (Bool × Nat × Blk)) : Prop := np = 3 ∧ lent = []
def spec_l01In_body {α : Type}   (k : Nat) (n_ : Int) (low : Int) (high : Int) (r0 : Bool → Option α) : Option α :=
  bif decide (low ≤ n_) then
    r0 (decide (n_ ≤ high))
  else
    r0 false
theorem spec_l01In_gen {α : Type}   (n : Nat) (n_ : Int) (low : Int) (high : Int) (κ : Res → Option α) : evFn Try.prog (spec_l01In_XG n) Try.f59 (((buildDs spec_l01In_sh [.int n_, .int low, .int high]).map Prod.fst).getD []) κ = spec_l01In_body n n_ low high (fun v1 => κ ⟨[.bool v1], []⟩) := by kernel_rfl
theorem spec_l01In_ev {α : Type} (n : Nat) (n_ : Int) (low : Int) (high : Int) (κ : Res → Option α) : evFn Try.prog (spec_l01In_X n) Try.f59 (((buildDs spec_l01In_sh [.int n_, .int low, .int high]).map Prod.fst).getD []) κ = spec_l01In_run n [.int n_, .int low, .int high] κ := (spec_l01In_gen n n_ low high κ).trans (by kernel_rfl)
theorem spec_l01In_en (n_ : Int) (low : Int) (high : Int) : (entry 0 (((buildDs spec_l01In_sh [.int n_, .int low, .int high]).map Prod.fst).getD [])).map (fun x => (x.1.length, x.2.lent)) = some (3, []) := by kernel_rfl
theorem spec_l01In_good {α : Type} : ∀ n, GoodFn (α := α) Try.prog 59 (byShape spec_l01In_sh (spec_l01In_run n)) := by
  refine fn_good' Try.func59 (c := (Try.f59.body.getD .skip)) (by kernel_rfl) (by kernel_rfl) (by kernel_rfl) spec_l01In_C spec_l01In_M eqs spec_l01In_lps (fun n => tabC_good (fun _ h => absurd h List.not_mem_nil)) eqs_ok spec_l01In_Lt ?_ ?_ spec_l01In_sh spec_l01In_run ?_
  · exact (fun _ h => absurd h List.not_mem_nil)
  · exact (fun _ h => absurd h List.not_mem_nil)
  · intro n p κ r ds hd hr
    have hr0 := hr
    unfold spec_l01In_run spec_l01In_runG at hr
    split at hr
    · rw [← ds_of hd]
      exact ⟨en_of (spec_l01In_en _ _ _) ⟨rfl, rfl⟩, (spec_l01In_ev n _ _ _ κ).trans hr0⟩
    · cases hr

/-! loop.example/g01297/spec.l01Fits -/
def spec_l01Fits_sh : List SkD := [.int .i64]
def spec_l01Fits_runG {α : Type} (F : Nat → Int → (Bool → Option α) → Option α) (n : Nat) (p : List P1) (κ : Res → Option α) : Option α := match p with
  | [.int x] => F n x (fun v1 => κ ⟨[.bool v1], []⟩)
  | _ => none
def spec_l01Fits_run {α : Type} (n : Nat) (p : List P1) (κ : Res → Option α) : Option α := spec_l01Fits_runG spec_l01Fits n p κ
def spec_l01Fits_CG {α : Type} (F0 : Nat → Int → Int → Int → (Bool → Option α) → Option α) (n : Nat) : FuncId → List D → (Res → Option α) → Option α := tabC [(59, (byShape spec_l01In_sh (spec_l01In_runG F0 n)))]
def spec_l01Fits_C {α : Type} (n : Nat) : FuncId → List D → (Res → Option α) → Option α := spec_l01Fits_CG spec_l01In n
def spec_l01Fits_M : FuncId → List Nat := tabM []
def spec_l01Fits_lpsG {α : Type}  : List (LoopT α) := []
def spec_l01Fits_lps {α : Type} : List (LoopT α) := spec_l01Fits_lpsG
def spec_l01Fits_XG {α : Type} (F0 : Nat → Int → Int → Int → (Bool → Option α) → Option α)  (n : Nat) : Ctx α := ⟨spec_l01Fits_CG F0 n, spec_l01Fits_M, eqs, lpOf (spec_l01Fits_lpsG) n⟩
def spec_l01Fits_X {α : Type} (n : Nat) : Ctx α := spec_l01Fits_XG spec_l01In n
def spec_l01Fits_Lt (np : Nat) (lent : List (Bool × Nat × Blk)) : Prop := np = 1 ∧ lent = []
def spec_l01Fits_body {α : Type} (F0 : Nat → Int → Int → Int → (Bool → Option α) → Option α)  (k : Nat) (x : Int) (r0 : Bool → Option α) : Option α :=
  F0 k x (-1000000) 1000000 fun v =>
  r0 v
theorem spec_l01Fits_gen {α : Type} (F0 : Nat → Int → Int → Int → (Bool → Option α) → Option α)  (n : Nat) (x : Int) (κ : Res → Option α) : evFn Try.prog (spec_l01Fits_XG F0 n) Try.f87 (((buildDs spec_l01Fits_sh [.int x]).map Prod.fst).getD []) κ = spec_l01Fits_body F0 n x (fun v1 => κ ⟨[.bool v1], []⟩) := by kernel_rfl
theorem spec_l01Fits_ev {α : Type} (n : Nat) (x : Int) (κ : Res → Option α) : evFn Try.prog (spec_l01Fits_X n) Try.f87 (((buildDs spec_l01Fits_sh [.int x]).map Prod.fst).getD []) κ = spec_l01Fits_run n [.int x] κ := (spec_l01Fits_gen spec_l01In n x κ).trans (by kernel_rfl)
theorem spec_l01Fits_en (x : Int) : (entry 0 (((buildDs spec_l01Fits_sh [.int x]).map Prod.fst).getD [])).map (fun x => (x.1.length, x.2.lent)) = some (1, []) := by kernel_rfl
theorem spec_l01Fits_good {α : Type} : ∀ n, GoodFn (α := α) Try.prog 87 (byShape spec_l01Fits_sh (spec_l01Fits_run n)) := by
  refine fn_good' Try.func87 (c := (Try.f87.body.getD .skip)) (by kernel_rfl) (by kernel_rfl) (by kernel_rfl) spec_l01Fits_C spec_l01Fits_M eqs spec_l01Fits_lps (fun n => tabC_good (List.forall_mem_cons.2 ⟨(spec_l01In_good n), (fun _ h => absurd h List.not_mem_nil)⟩)) eqs_ok spec_l01Fits_Lt ?_ ?_ spec_l01Fits_sh spec_l01Fits_run ?_
  · exact (fun _ h => absurd h List.not_mem_nil)
  · exact (fun _ h => absurd h List.not_mem_nil)
  · intro n p κ r ds hd hr
    have hr0 := hr
    unfold spec_l01Fits_run spec_l01Fits_runG at hr
    split at hr
    · rw [← ds_of hd]
      exact ⟨en_of (spec_l01Fits_en _) ⟨rfl, rfl⟩, (spec_l01Fits_ev n _ κ).trans hr0⟩
    · cases hr

/-! loop.example/g01297/spec.l01Is -/
def spec_l01Is_sh : List SkD := [.agg [.int .i64, .int .i64]]
def spec_l01Is_runG {α : Type} (F : Nat → Int → Int → (Bool → Option α) → Option α) (n : Nat) (p : List P1) (κ : Res → Option α) : Option α := match p with
  | [.int a, .int a1] => F n a a1 (fun v1 => κ ⟨[.bool v1], []⟩)
  | _ => none
def spec_l01Is_run {α : Type} (n : Nat) (p : List P1) (κ : Res → Option α) : Option α := spec_l01Is_runG spec_l01Is n p κ
def spec_l01Is_CG {α : Type} (F0 : Nat → Int → (Bool → Option α) → Option α) (n : Nat) : FuncId → List D → (Res → Option α) → Option α := tabC [(87, (byShape spec_l01Fits_sh (spec_l01Fits_runG F0 n)))]
def spec_l01Is_C {α : Type} (n : Nat) : FuncId → List D → (Res → Option α) → Option α := spec_l01Is_CG spec_l01Fits n
def spec_l01Is_M : FuncId → List Nat := tabM []
def spec_l01Is_lpsG {α : Type}  : List (LoopT α) := []
def spec_l01Is_lps {α : Type} : List (LoopT α) := spec_l01Is_lpsG
def spec_l01Is_XG {α : Type} (F0 : Nat → Int → (Bool → Option α) → Option α)  (n : Nat) : Ctx α := ⟨spec_l01Is_CG F0 n, spec_l01Is_M, eqs, lpOf (spec_l01Is_lpsG) n⟩
def spec_l01Is_X {α : Type} (n : Nat) : Ctx α := spec_l01Is_XG spec_l01Fits n
def spec_l01Is_Lt (np : Nat) (lent : List (Bool × Nat × Blk)) : Prop := np = 1 ∧ lent = []
def spec_l01Is_body {α : Type} (F0 : Nat → Int → (Bool → Option α) → Option α)  (k : Nat) (a : Int) (a1 : Int) (r0 : Bool → Option α) : Option α :=
  F0 k a fun v =>
  bif v then
    F0 k a1 fun v1 =>
    r0 v1
  else
    r0 false
theorem spec_l01Is_gen {α : Type} (F0 : Nat → Int → (Bool → Option α) → Option α)  (n : Nat) (a : Int) (a1 : Int) (κ : Res → Option α) : evFn Try.prog (spec_l01Is_XG F0 n) Try.f94 (((buildDs spec_l01Is_sh [.int a, .int a1]).map Prod.fst).getD []) κ = spec_l01Is_body F0 n a a1 (fun v1 => κ ⟨[.bool v1], []⟩) := by kernel_rfl
theorem spec_l01Is_ev {α : Type} (n : Nat) (a : Int) (a1 : Int) (κ : Res → Option α) : evFn Try.prog (spec_l01Is_X n) Try.f94 (((buildDs spec_l01Is_sh [.int a, .int a1]).map Prod.fst).getD []) κ = spec_l01Is_run n [.int a, .int a1] κ := (spec_l01Is_gen spec_l01Fits n a a1 κ).trans (by kernel_rfl)
theorem spec_l01Is_en (a : Int) (a1 : Int) : (entry 0 (((buildDs spec_l01Is_sh [.int a, .int a1]).map Prod.fst).getD [])).map (fun x => (x.1.length, x.2.lent)) = some (1, []) := by kernel_rfl
theorem spec_l01Is_good {α : Type} : ∀ n, GoodFn (α := α) Try.prog 94 (byShape spec_l01Is_sh (spec_l01Is_run n)) := by
  refine fn_good' Try.func94 (c := (Try.f94.body.getD .skip)) (by kernel_rfl) (by kernel_rfl) (by kernel_rfl) spec_l01Is_C spec_l01Is_M eqs spec_l01Is_lps (fun n => tabC_good (List.forall_mem_cons.2 ⟨(spec_l01Fits_good n), (fun _ h => absurd h List.not_mem_nil)⟩)) eqs_ok spec_l01Is_Lt ?_ ?_ spec_l01Is_sh spec_l01Is_run ?_
  · exact (fun _ h => absurd h List.not_mem_nil)
  · exact (fun _ h => absurd h List.not_mem_nil)
  · intro n p κ r ds hd hr
    have hr0 := hr
    unfold spec_l01Is_run spec_l01Is_runG at hr
    split at hr
    · rw [← ds_of hd]
      exact ⟨en_of (spec_l01Is_en _ _) ⟨rfl, rfl⟩, (spec_l01Is_ev n _ _ κ).trans hr0⟩
    · cases hr

/-! loop.example/g01297/spec.l01Matrix -/
def spec_l01Matrix_sh : List SkD := [.agg [.int .i64, .int .i64, .int .i64, .int .i64]]
def spec_l01Matrix_runG {α : Type} (F : Nat → Int → Int → Int → Int → (Bool → Option α) → Option α) (n : Nat) (p : List P1) (κ : Res → Option α) : Option α := match p with
  | [.int m, .int m1, .int m2, .int m3] => F n m m1 m2 m3 (fun v1 => κ ⟨[.bool v1], []⟩)
  | _ => none
def spec_l01Matrix_run {α : Type} (n : Nat) (p : List P1) (κ : Res → Option α) : Option α := spec_l01Matrix_runG spec_l01Matrix n p κ
def spec_l01Matrix_CG {α : Type} (F0 : Nat → Int → (Bool → Option α) → Option α) (n : Nat) : FuncId → List D → (Res → Option α) → Option α := tabC [(87, (byShape spec_l01Fits_sh (spec_l01Fits_runG F0 n)))]
def spec_l01Matrix_C {α : Type} (n : Nat) : FuncId → List D → (Res → Option α) → Option α := spec_l01Matrix_CG spec_l01Fits n
def spec_l01Matrix_M : FuncId → List Nat := tabM []
def spec_l01Matrix_lpsG {α : Type}  : List (LoopT α) := []
def spec_l01Matrix_lps {α : Type} : List (LoopT α) := spec_l01Matrix_lpsG
def spec_l01Matrix_XG {α : Type} (F0 : Nat → Int → (Bool → Option α) → Option α)  (n : Nat) : Ctx α := ⟨spec_l01Matrix_CG F0 n, spec_l01Matrix_M, eqs, lpOf (spec_l01Matrix_lpsG) n⟩
def spec_l01Matrix_X {α : Type} (n : Nat) : Ctx α := spec_l01Matrix_XG spec_l01Fits n
def spec_l01Matrix_Lt (np : Nat) (lent : List (Bool × Nat × Blk)) : Prop := np = 1 ∧ lent = []
def spec_l01Matrix_body {α : Type} (F0 : Nat → Int → (Bool → Option α) → Option α)  (k : Nat) (m : Int) (m1 : Int) (m2 : Int) (m3 : Int) (r0 : Bool → Option α) : Option α :=
  F0 k m fun v =>
  bif v then
    F0 k m1 fun v1 =>
    bif v1 then
      F0 k m2 fun v2 =>
      bif v2 then
        F0 k m3 fun v3 =>
        r0 v3
      else
        r0 false
    else
      r0 false
  else
    r0 false
theorem spec_l01Matrix_gen {α : Type} (F0 : Nat → Int → (Bool → Option α) → Option α)  (n : Nat) (m : Int) (m1 : Int) (m2 : Int) (m3 : Int) (κ : Res → Option α) : evFn Try.prog (spec_l01Matrix_XG F0 n) Try.f101 (((buildDs spec_l01Matrix_sh [.int m, .int m1, .int m2, .int m3]).map Prod.fst).getD []) κ = spec_l01Matrix_body F0 n m m1 m2 m3 (fun v1 => κ ⟨[.bool v1], []⟩) := by kernel_rfl
theorem spec_l01Matrix_ev {α : Type} (n : Nat) (m : Int) (m1 : Int) (m2 : Int) (m3 : Int) (κ : Res → Option α) : evFn Try.prog (spec_l01Matrix_X n) Try.f101 (((buildDs spec_l01Matrix_sh [.int m, .int m1, .int m2, .int m3]).map Prod.fst).getD []) κ = spec_l01Matrix_run n [.int m, .int m1, .int m2, .int m3] κ := (spec_l01Matrix_gen spec_l01Fits n m m1 m2 m3 κ).trans (by kernel_rfl)
theorem spec_l01Matrix_en (m : Int) (m1 : Int) (m2 : Int) (m3 : Int) : (entry 0 (((buildDs spec_l01Matrix_sh [.int m, .int m1, .int m2, .int m3]).map Prod.fst).getD [])).map (fun x => (x.1.length, x.2.lent)) = some (1, []) := by kernel_rfl
theorem spec_l01Matrix_good {α : Type} : ∀ n, GoodFn (α := α) Try.prog 101 (byShape spec_l01Matrix_sh (spec_l01Matrix_run n)) := by
  refine fn_good' Try.func101 (c := (Try.f101.body.getD .skip)) (by kernel_rfl) (by kernel_rfl) (by kernel_rfl) spec_l01Matrix_C spec_l01Matrix_M eqs spec_l01Matrix_lps (fun n => tabC_good (List.forall_mem_cons.2 ⟨(spec_l01Fits_good n), (fun _ h => absurd h List.not_mem_nil)⟩)) eqs_ok spec_l01Matrix_Lt ?_ ?_ spec_l01Matrix_sh spec_l01Matrix_run ?_
  · exact (fun _ h => absurd h List.not_mem_nil)
  · exact (fun _ h => absurd h List.not_mem_nil)
  · intro n p κ r ds hd hr
    have hr0 := hr
    unfold spec_l01Matrix_run spec_l01Matrix_runG at hr
    split at hr
    · rw [← ds_of hd]
      exact ⟨en_of (spec_l01Matrix_en _ _ _ _) ⟨rfl, rfl⟩, (spec_l01Matrix_ev n _ _ _ _ κ).trans hr0⟩
    · cases hr

/-! loop.example/g01297/spec.l06Disc -/
def spec_l06Disc_sh : List SkD := [.agg [.int .i64, .int .i64, .int .i64]]
def spec_l06Disc_runG {α : Type} (F : Nat → Int → Int → Int → (Int → Option α) → Option α) (n : Nat) (p : List P1) (κ : Res → Option α) : Option α := match p with
  | [.int x, .int x1, .int x2] => F n x x1 x2 (fun v1 => κ ⟨[.int .i64 v1], []⟩)
  | _ => none
def spec_l06Disc_run {α : Type} (n : Nat) (p : List P1) (κ : Res → Option α) : Option α := spec_l06Disc_runG spec_l06Disc n p κ
def spec_l06Disc_CG {α : Type}  (n : Nat) : FuncId → List D → (Res → Option α) → Option α := tabC []
def spec_l06Disc_C {α : Type} (n : Nat) : FuncId → List D → (Res → Option α) → Option α := spec_l06Disc_CG n
def spec_l06Disc_M : FuncId → List Nat := tabM []
def spec_l06Disc_lpsG {α : Type}  : List (LoopT α) := []
def spec_l06Disc_lps {α : Type} : List (LoopT α) := spec_l06Disc_lpsG
def spec_l06Disc_XG {α : Type}   (n : Nat) : Ctx α := ⟨spec_l06Disc_CG n, spec_l06Disc_M, eqs, lpOf (spec_l06Disc_lpsG) n⟩
def spec_l06Disc_X {α : Type} (n : Nat) : Ctx α := spec_l06Disc_XG n
def spec_l06Disc_Lt (np : Nat) (lent : List (Bool × Nat × Blk)) : Prop := np = 1 ∧ lent = []
def spec_l06Disc_body {α : Type}   (k : Nat) (x : Int) (x1 : Int) (x2 : Int) (r0 : Int → Option α) : Option α :=
  r0 (w64 ((w64 (x1 * x1)) - (w64 ((w64 (4 * x)) * x2))))
theorem spec_l06Disc_gen {α : Type}   (n : Nat) (x : Int) (x1 : Int) (x2 : Int) (κ : Res → Option α) : evFn Try.prog (spec_l06Disc_XG n) Try.f51 (((buildDs spec_l06Disc_sh [.int x, .int x1, .int x2]).map Prod.fst).getD []) κ = spec_l06Disc_body n x x1 x2 (fun v1 => κ ⟨[.int .i64 v1], []⟩) := by kernel_rfl
theorem spec_l06Disc_ev {α : Type} (n : Nat) (x : Int) (x1 : Int) (x2 : Int) (κ : Res → Option α) : evFn Try.prog (spec_l06Disc_X n) Try.f51 (((buildDs spec_l06Disc_sh [.int x, .int x1, .int x2]).map Prod.fst).getD []) κ = spec_l06Disc_run n [.int x, .int x1, .int x2] κ := (spec_l06Disc_gen n x x1 x2 κ).trans (by kernel_rfl)
theorem spec_l06Disc_en (x : Int) (x1 : Int) (x2 : Int) : (entry 0 (((buildDs spec_l06Disc_sh [.int x, .int x1, .int x2]).map Prod.fst).getD [])).map (fun x => (x.1.length, x.2.lent)) = some (1, []) := by kernel_rfl
theorem spec_l06Disc_good {α : Type} : ∀ n, GoodFn (α := α) Try.prog 51 (byShape spec_l06Disc_sh (spec_l06Disc_run n)) := by
  refine fn_good' Try.func51 (c := (Try.f51.body.getD .skip)) (by kernel_rfl) (by kernel_rfl) (by kernel_rfl) spec_l06Disc_C spec_l06Disc_M eqs spec_l06Disc_lps (fun n => tabC_good (fun _ h => absurd h List.not_mem_nil)) eqs_ok spec_l06Disc_Lt ?_ ?_ spec_l06Disc_sh spec_l06Disc_run ?_
  · exact (fun _ h => absurd h List.not_mem_nil)
  · exact (fun _ h => absurd h List.not_mem_nil)
  · intro n p κ r ds hd hr
    have hr0 := hr
    unfold spec_l06Disc_run spec_l06Disc_runG at hr
    split at hr
    · rw [← ds_of hd]
      exact ⟨en_of (spec_l06Disc_en _ _ _) ⟨rfl, rfl⟩, (spec_l06Disc_ev n _ _ _ κ).trans hr0⟩
    · cases hr

/-! loop.example/g01297/spec.l06Root -/
def spec_l06Root_sh : List SkD := [.int .i64]
def spec_l06Root_runG {α : Type} (F : Nat → Int → (Int → Option α) → Option α) (n : Nat) (p : List P1) (κ : Res → Option α) : Option α := match p with
  | [.int d] => F n d (fun v1 => κ ⟨[.int .i64 v1], []⟩)
  | _ => none
def spec_l06Root_run {α : Type} (n : Nat) (p : List P1) (κ : Res → Option α) : Option α := spec_l06Root_runG spec_l06Root n p κ
def spec_l06Root_CG {α : Type}  (n : Nat) : FuncId → List D → (Res → Option α) → Option α := tabC []
def spec_l06Root_C {α : Type} (n : Nat) : FuncId → List D → (Res → Option α) → Option α := spec_l06Root_CG n
def spec_l06Root_M : FuncId → List Nat := tabM []
def spec_l06Root_t2 : Tpl := ⟨[.int .i64, .any, .any, .int .i64, .any, .any, .any, .any, .any, .any, .any, .any, .any, .any], [], []⟩
def spec_l06Root_uG2 {α : Type} (G : Nat → Int → Int → (Int → Int → Option α) → (Int → Option α) → Option α) (n : Nat) (p : List P1) (brk : Nat → List P1 → Option α) (ret : Res → Option α) : Option α := match p with
  | [.int d1, .int w] => G n d1 w (fun d1 w => brk 0 [.int d1, .int w]) (fun v1 => ret ⟨[.int .i64 v1], []⟩)
  | _ => none
def spec_l06Root_u2 {α : Type} (n : Nat) (p : List P1) (brk : Nat → List P1 → Option α) (ret : Res → Option α) : Option α := spec_l06Root_uG2 spec_l06Root_l2 n p brk ret
def spec_l06Root_lpsG {α : Type} (G2 : Nat → Int → Int → (Int → Int → Option α) → (Int → Option α) → Option α) : List (LoopT α) := [⟨2, spec_l06Root_t2, spec_l06Root_uG2 G2⟩]
def spec_l06Root_lps {α : Type} : List (LoopT α) := spec_l06Root_lpsG spec_l06Root_l2
def spec_l06Root_XG {α : Type}  (G2 : Nat → Int → Int → (Int → Int → Option α) → (Int → Option α) → Option α) (n : Nat) : Ctx α := ⟨spec_l06Root_CG n, spec_l06Root_M, eqs, lpOf (spec_l06Root_lpsG G2) n⟩
def spec_l06Root_X {α : Type} (n : Nat) : Ctx α := spec_l06Root_XG spec_l06Root_l2 n
def spec_l06Root_Lt (np : Nat) (lent : List (Bool × Nat × Blk)) : Prop := np = 1 ∧ lent = []
def spec_l06Root_lb2 {α : Type}  (G2 : Nat → Int → Int → (Int → Int → Option α) → (Int → Option α) → Option α) (k : Nat) (d1 : Int) (w : Int) (b0 : Int → Int → Option α) (r0 : Int → Option α) : Option α :=
  bif decide ((w64 ((w64 (w + 1)) * (w64 (w + 1)))) ≤ d1) then
    G2 k d1 (w64 (w + 1)) b0 r0
  else
    b0 d1 w
theorem spec_l06Root_l2_gen {α : Type}  (G2 : Nat → Int → Int → (Int → Int → Option α) → (Int → Option α) → Option α) (n : Nat) (d1 : Int) (w : Int) (brk : Nat → List P1 → Option α) (ret : Res → Option α) : ev ((spec_l06Root_XG G2 n).env Try.prog Try.f50 1 []) (findLoop (loopsIn (Try.f50.body.getD .skip)) 2) ((spec_l06Root_t2.build [.int d1, .int w]).getD ⟨[], []⟩) (roundK (1 * 64) spec_l06Root_t2 (fun q => spec_l06Root_uG2 G2 n q brk ret) brk ret) = spec_l06Root_lb2 G2 n d1 w (fun d1 w => brk 0 [.int d1, .int w]) (fun v1 => ret ⟨[.int .i64 v1], []⟩) := by kernel_rfl
theorem spec_l06Root_l2_ev {α : Type} (n : Nat) (d1 : Int) (w : Int) (brk : Nat → List P1 → Option α) (ret : Res → Option α) : ev ((spec_l06Root_X n).env Try.prog Try.f50 1 []) (findLoop (loopsIn (Try.f50.body.getD .skip)) 2) ((spec_l06Root_t2.build [.int d1, .int w]).getD ⟨[], []⟩) (roundK (1 * 64) spec_l06Root_t2 (fun q => spec_l06Root_u2 n q brk ret) brk ret) = spec_l06Root_u2 (n + 1) [.int d1, .int w] brk ret := (spec_l06Root_l2_gen spec_l06Root_l2 n d1 w brk ret).trans (by kernel_rfl)
def spec_l06Root_body {α : Type}  (G2 : Nat → Int → Int → (Int → Int → Option α) → (Int → Option α) → Option α) (k : Nat) (d : Int) (r0 : Int → Option α) : Option α :=
  G2 k d 0
    (fun d2 w1 =>
      r0 w1)
    r0
theorem spec_l06Root_gen {α : Type}  (G2 : Nat → Int → Int → (Int → Int → Option α) → (Int → Option α) → Option α) (n : Nat) (d : Int) (κ : Res → Option α) : evFn Try.prog (spec_l06Root_XG G2 n) Try.f50 (((buildDs spec_l06Root_sh [.int d]).map Prod.fst).getD []) κ = spec_l06Root_body G2 n d (fun v1 => κ ⟨[.int .i64 v1], []⟩) := by kernel_rfl
theorem spec_l06Root_ev {α : Type} (n : Nat) (d : Int) (κ : Res → Option α) : evFn Try.prog (spec_l06Root_X n) Try.f50 (((buildDs spec_l06Root_sh [.int d]).map Prod.fst).getD []) κ = spec_l06Root_run n [.int d] κ := (spec_l06Root_gen spec_l06Root_l2 n d κ).trans (by kernel_rfl)
theorem spec_l06Root_en (d : Int) : (entry 0 (((buildDs spec_l06Root_sh [.int d]).map Prod.fst).getD [])).map (fun x => (x.1.length, x.2.lent)) = some (1, []) := by kernel_rfl
theorem spec_l06Root_good {α : Type} : ∀ n, GoodFn (α := α) Try.prog 50 (byShape spec_l06Root_sh (spec_l06Root_run n)) := by
  refine fn_good' Try.func50 (c := (Try.f50.body.getD .skip)) (by kernel_rfl) (by kernel_rfl) (by kernel_rfl) spec_l06Root_C spec_l06Root_M eqs spec_l06Root_lps (fun n => tabC_good (fun _ h => absurd h List.not_mem_nil)) eqs_ok spec_l06Root_Lt ?_ ?_ spec_l06Root_sh spec_l06Root_run ?_
  · refine List.forall_mem_cons.2 ⟨?_, (fun _ h => absurd h List.not_mem_nil)⟩
    · intro p brk ret; show spec_l06Root_u2 0 p brk ret = none; unfold spec_l06Root_u2 spec_l06Root_uG2; split <;> rfl
  · refine List.forall_mem_cons.2 ⟨?_, (fun _ h => absurd h List.not_mem_nil)⟩
    · intro np lent hL n p brk ret st r hb hr
      obtain ⟨rfl, rfl⟩ := hL
      rw [← tpl_of hb]
      change spec_l06Root_u2 (n + 1) p brk ret = some r at hr
      have hr0 := hr
      unfold spec_l06Root_u2 spec_l06Root_uG2 at hr
      split at hr
      · exact (spec_l06Root_l2_ev n _ _ brk ret).trans hr0
      · cases hr
  · intro n p κ r ds hd hr
    have hr0 := hr
    unfold spec_l06Root_run spec_l06Root_runG at hr
    split at hr
    · rw [← ds_of hd]
      exact ⟨en_of (spec_l06Root_en _) ⟨rfl, rfl⟩, (spec_l06Root_ev n _ κ).trans hr0⟩
    · cases hr

/-! loop.example/g01297/spec.l06Is -/
def spec_l06Is_sh : List SkD := [.agg [.int .i64, .int .i64, .int .i64]]
def spec_l06Is_runG {α : Type} (F : Nat → Int → Int → Int → (Bool → Option α) → Option α) (n : Nat) (p : List P1) (κ : Res → Option α) : Option α := match p with
  | [.int x, .int x1, .int x2] => F n x x1 x2 (fun v1 => κ ⟨[.bool v1], []⟩)
  | _ => none
def spec_l06Is_run {α : Type} (n : Nat) (p : List P1) (κ : Res → Option α) : Option α := spec_l06Is_runG spec_l06Is n p κ
def spec_l06Is_CG {α : Type} (F0 : Nat → Int → (Bool → Option α) → Option α) (F1 : Nat → Int → Int → Int → (Int → Option α) → Option α) (F2 : Nat → Int → Int → Int → (Bool → Option α) → Option α) (F3 : Nat → Int → (Int → Option α) → Option α) (n : Nat) : FuncId → List D → (Res → Option α) → Option α := tabC [(87, (byShape spec_l01Fits_sh (spec_l01Fits_runG F0 n))), (51, (byShape spec_l06Disc_sh (spec_l06Disc_runG F1 n))), (59, (byShape spec_l01In_sh (spec_l01In_runG F2 n))), (50, (byShape spec_l06Root_sh (spec_l06Root_runG F3 n)))]
def spec_l06Is_C {α : Type} (n : Nat) : FuncId → List D → (Res → Option α) → Option α := spec_l06Is_CG spec_l01Fits spec_l06Disc spec_l01In spec_l06Root n
def spec_l06Is_M : FuncId → List Nat := tabM []
def spec_l06Is_lpsG {α : Type}  : List (LoopT α) := []
def spec_l06Is_lps {α : Type} : List (LoopT α) := spec_l06Is_lpsG
def spec_l06Is_XG {α : Type} (F0 : Nat → Int → (Bool → Option α) → Option α) (F1 : Nat → Int → Int → Int → (Int → Option α) → Option α) (F2 : Nat → Int → Int → Int → (Bool → Option α) → Option α) (F3 : Nat → Int → (Int → Option α) → Option α)  (n : Nat) : Ctx α := ⟨spec_l06Is_CG F0 F1 F2 F3 n, spec_l06Is_M, eqs, lpOf (spec_l06Is_lpsG) n⟩
def spec_l06Is_X {α : Type} (n : Nat) : Ctx α := spec_l06Is_XG spec_l01Fits spec_l06Disc spec_l01In spec_l06Root n
def spec_l06Is_Lt (np : Nat) (lent : List (Bool × Nat × Blk)) : Prop := np = 1 ∧ lent = []
def spec_l06Is_body {α : Type} (F0 : Nat → Int → (Bool → Option α) → Option α) (F1 : Nat → Int → Int → Int → (Int → Option α) → Option α) (F2 : Nat → Int → Int → Int → (Bool → Option α) → Option α) (F3 : Nat → Int → (Int → Option α) → Option α)  (k : Nat) (x : Int) (x1 : Int) (x2 : Int) (r0 : Bool → Option α) : Option α :=
  F0 k x fun v =>
  bif (!v) then
    r0 false
  else
    F0 k x1 fun v1 =>
    bif (!v1) then
      r0 false
    else
      F0 k x2 fun v2 =>
      bif (!v2) then
        r0 false
      else
        F1 k x x1 x2 fun v3 =>
        F2 k v3 1 4000 fun v4 =>
        bif (!v4) then
          r0 false
        else
          F3 k v3 fun v5 =>
          r0 (!decide ((w64 (v5 * v5)) = v3))
theorem spec_l06Is_gen {α : Type} (F0 : Nat → Int → (Bool → Option α) → Option α) (F1 : Nat → Int → Int → Int → (Int → Option α) → Option α) (F2 : Nat → Int → Int → Int → (Bool → Option α) → Option α) (F3 : Nat → Int → (Int → Option α) → Option α)  (n : Nat) (x : Int) (x1 : Int) (x2 : Int) (κ : Res → Option α) : evFn Try.prog (spec_l06Is_XG F0 F1 F2 F3 n) Try.f48 (((buildDs spec_l06Is_sh [.int x, .int x1, .int x2]).map Prod.fst).getD []) κ = spec_l06Is_body F0 F1 F2 F3 n x x1 x2 (fun v1 => κ ⟨[.bool v1], []⟩) := by kernel_rfl
theorem spec_l06Is_ev {α : Type} (n : Nat) (x : Int) (x1 : Int) (x2 : Int) (κ : Res → Option α) : evFn Try.prog (spec_l06Is_X n) Try.f48 (((buildDs spec_l06Is_sh [.int x, .int x1, .int x2]).map Prod.fst).getD []) κ = spec_l06Is_run n [.int x, .int x1, .int x2] κ := (spec_l06Is_gen spec_l01Fits spec_l06Disc spec_l01In spec_l06Root n x x1 x2 κ).trans (by kernel_rfl)
theorem spec_l06Is_en (x : Int) (x1 : Int) (x2 : Int) : (entry 0 (((buildDs spec_l06Is_sh [.int x, .int x1, .int x2]).map Prod.fst).getD [])).map (fun x => (x.1.length, x.2.lent)) = some (1, []) := by kernel_rfl
theorem spec_l06Is_good {α : Type} : ∀ n, GoodFn (α := α) Try.prog 48 (byShape spec_l06Is_sh (spec_l06Is_run n)) := by
  refine fn_good' Try.func48 (c := (Try.f48.body.getD .skip)) (by kernel_rfl) (by kernel_rfl) (by kernel_rfl) spec_l06Is_C spec_l06Is_M eqs spec_l06Is_lps (fun n => tabC_good (List.forall_mem_cons.2 ⟨(spec_l01Fits_good n), (List.forall_mem_cons.2 ⟨(spec_l06Disc_good n), (List.forall_mem_cons.2 ⟨(spec_l01In_good n), (List.forall_mem_cons.2 ⟨(spec_l06Root_good n), (fun _ h => absurd h List.not_mem_nil)⟩)⟩)⟩)⟩)) eqs_ok spec_l06Is_Lt ?_ ?_ spec_l06Is_sh spec_l06Is_run ?_
  · exact (fun _ h => absurd h List.not_mem_nil)
  · exact (fun _ h => absurd h List.not_mem_nil)
  · intro n p κ r ds hd hr
    have hr0 := hr
    unfold spec_l06Is_run spec_l06Is_runG at hr
    split at hr
    · rw [← ds_of hd]
      exact ⟨en_of (spec_l06Is_en _ _ _) ⟨rfl, rfl⟩, (spec_l06Is_ev n _ _ _ κ).trans hr0⟩
    · cases hr

/-! loop.example/g01297/spec.l11Is -/
def spec_l11Is_sh : List SkD := [.agg [.int .i64, .int .i64, .int .i64, .int .i64, .int .i64, .int .i64, .int .i64, .int .i64, .int .i64, .int .i64, .int .i64]]
def spec_l11Is_runG {α : Type} (F : Nat → Int → Int → Int → Int → Int → Int → Int → Int → Int → Int → Int → (Bool → Option α) → Option α) (n : Nat) (p : List P1) (κ : Res → Option α) : Option α := match p with
  | [.int d, .int d1, .int d2, .int d3, .int d4, .int d5, .int d6, .int d7, .int d8, .int d9, .int d10] => F n d d1 d2 d3 d4 d5 d6 d7 d8 d9 d10 (fun v1 => κ ⟨[.bool v1], []⟩)
  | _ => none
def spec_l11Is_run {α : Type} (n : Nat) (p : List P1) (κ : Res → Option α) : Option α := spec_l11Is_runG spec_l11Is n p κ
def spec_l11Is_CG {α : Type} (F0 : Nat → Int → Int → (Bool → Option α) → Option α) (F1 : Nat → Int → Int → Int → Int → (Bool → Option α) → Option α) (F2 : Nat → Int → Int → Int → (Bool → Option α) → Option α) (n : Nat) : FuncId → List D → (Res → Option α) → Option α := tabC [(94, (byShape spec_l01Is_sh (spec_l01Is_runG F0 n))), (101, (byShape spec_l01Matrix_sh (spec_l01Matrix_runG F1 n))), (48, (byShape spec_l06Is_sh (spec_l06Is_runG F2 n)))]
def spec_l11Is_C {α : Type} (n : Nat) : FuncId → List D → (Res → Option α) → Option α := spec_l11Is_CG spec_l01Is spec_l01Matrix spec_l06Is n
def spec_l11Is_M : FuncId → List Nat := tabM []
def spec_l11Is_lpsG {α : Type}  : List (LoopT α) := []
def spec_l11Is_lps {α : Type} : List (LoopT α) := spec_l11Is_lpsG
def spec_l11Is_XG {α : Type} (F0 : Nat → Int → Int → (Bool → Option α) → Option α) (F1 : Nat → Int → Int → Int → Int → (Bool → Option α) → Option α) (F2 : Nat → Int → Int → Int → (Bool → Option α) → Option α)  (n : Nat) : Ctx α := ⟨spec_l11Is_CG F0 F1 F2 n, spec_l11Is_M, eqs, lpOf (spec_l11Is_lpsG) n⟩
def spec_l11Is_X {α : Type} (n : Nat) : Ctx α := spec_l11Is_XG spec_l01Is spec_l01Matrix spec_l06Is n
def spec_l11Is_Lt (np : Nat) (lent : List (Bool × Nat × Blk)) : Prop := np = 1 ∧ lent = []
def spec_l11Is_body {α : Type} (F0 : Nat → Int → Int → (Bool → Option α) → Option α) (F1 : Nat → Int → Int → Int → Int → (Bool → Option α) → Option α) (F2 : Nat → Int → Int → Int → (Bool → Option α) → Option α)  (k : Nat) (d : Int) (d1 : Int) (d2 : Int) (d3 : Int) (d4 : Int) (d5 : Int) (d6 : Int) (d7 : Int) (d8 : Int) (d9 : Int) (d10 : Int) (r0 : Bool → Option α) : Option α :=
  F0 k d d1 fun v =>
  bif v then
    F0 k d2 d3 fun v1 =>
    bif v1 then
      F1 k d4 d5 d6 d7 fun v2 =>
      bif v2 then
        F2 k d8 d9 d10 fun v3 =>
        r0 v3
      else
        r0 false
    else
      r0 false
  else
    r0 false
theorem spec_l11Is_gen {α : Type} (F0 : Nat → Int → Int → (Bool → Option α) → Option α) (F1 : Nat → Int → Int → Int → Int → (Bool → Option α) → Option α) (F2 : Nat → Int → Int → Int → (Bool → Option α) → Option α)  (n : Nat) (d : Int) (d1 : Int) (d2 : Int) (d3 : Int) (d4 : Int) (d5 : Int) (d6 : Int) (d7 : Int) (d8 : Int) (d9 : Int) (d10 : Int) (κ : Res → Option α) : evFn Try.prog (spec_l11Is_XG F0 F1 F2 n) Try.f66 (((buildDs spec_l11Is_sh [.int d, .int d1, .int d2, .int d3, .int d4, .int d5, .int d6, .int d7, .int d8, .int d9, .int d10]).map Prod.fst).getD []) κ = spec_l11Is_body F0 F1 F2 n d d1 d2 d3 d4 d5 d6 d7 d8 d9 d10 (fun v1 => κ ⟨[.bool v1], []⟩) := by kernel_rfl
theorem spec_l11Is_ev {α : Type} (n : Nat) (d : Int) (d1 : Int) (d2 : Int) (d3 : Int) (d4 : Int) (d5 : Int) (d6 : Int) (d7 : Int) (d8 : Int) (d9 : Int) (d10 : Int) (κ : Res → Option α) : evFn Try.prog (spec_l11Is_X n) Try.f66 (((buildDs spec_l11Is_sh [.int d, .int d1, .int d2, .int d3, .int d4, .int d5, .int d6, .int d7, .int d8, .int d9, .int d10]).map Prod.fst).getD []) κ = spec_l11Is_run n [.int d, .int d1, .int d2, .int d3, .int d4, .int d5, .int d6, .int d7, .int d8, .int d9, .int d10] κ := (spec_l11Is_gen spec_l01Is spec_l01Matrix spec_l06Is n d d1 d2 d3 d4 d5 d6 d7 d8 d9 d10 κ).trans (by kernel_rfl)
theorem spec_l11Is_en (d : Int) (d1 : Int) (d2 : Int) (d3 : Int) (d4 : Int) (d5 : Int) (d6 : Int) (d7 : Int) (d8 : Int) (d9 : Int) (d10 : Int) : (entry 0 (((buildDs spec_l11Is_sh [.int d, .int d1, .int d2, .int d3, .int d4, .int d5, .int d6, .int d7, .int d8, .int d9, .int d10]).map Prod.fst).getD [])).map (fun x => (x.1.length, x.2.lent)) = some (1, []) := by kernel_rfl
theorem spec_l11Is_good {α : Type} : ∀ n, GoodFn (α := α) Try.prog 66 (byShape spec_l11Is_sh (spec_l11Is_run n)) := by
  refine fn_good' Try.func66 (c := (Try.f66.body.getD .skip)) (by kernel_rfl) (by kernel_rfl) (by kernel_rfl) spec_l11Is_C spec_l11Is_M eqs spec_l11Is_lps (fun n => tabC_good (List.forall_mem_cons.2 ⟨(spec_l01Is_good n), (List.forall_mem_cons.2 ⟨(spec_l01Matrix_good n), (List.forall_mem_cons.2 ⟨(spec_l06Is_good n), (fun _ h => absurd h List.not_mem_nil)⟩)⟩)⟩)) eqs_ok spec_l11Is_Lt ?_ ?_ spec_l11Is_sh spec_l11Is_run ?_
  · exact (fun _ h => absurd h List.not_mem_nil)
  · exact (fun _ h => absurd h List.not_mem_nil)
  · intro n p κ r ds hd hr
    have hr0 := hr
    unfold spec_l11Is_run spec_l11Is_runG at hr
    split at hr
    · rw [← ds_of hd]
      exact ⟨en_of (spec_l11Is_en _ _ _ _ _ _ _ _ _ _ _) ⟨rfl, rfl⟩, (spec_l11Is_ev n _ _ _ _ _ _ _ _ _ _ _ κ).trans hr0⟩
    · cases hr

/-! loop.example/g01297/spec.IsDesk -/
def spec_IsDesk_sh : List SkD := [.agg [.int .i64, .int .i64, .int .i64, .int .i64, .int .i64, .int .i64, .int .i64, .int .i64, .int .i64, .int .i64, .int .i64]]
def spec_IsDesk_runG {α : Type} (F : Nat → Int → Int → Int → Int → Int → Int → Int → Int → Int → Int → Int → (Bool → Option α) → Option α) (n : Nat) (p : List P1) (κ : Res → Option α) : Option α := match p with
  | [.int d, .int d1, .int d2, .int d3, .int d4, .int d5, .int d6, .int d7, .int d8, .int d9, .int d10] => F n d d1 d2 d3 d4 d5 d6 d7 d8 d9 d10 (fun v1 => κ ⟨[.bool v1], []⟩)
  | _ => none
def spec_IsDesk_run {α : Type} (n : Nat) (p : List P1) (κ : Res → Option α) : Option α := spec_IsDesk_runG spec_IsDesk n p κ
def spec_IsDesk_CG {α : Type} (F0 : Nat → Int → Int → Int → Int → Int → Int → Int → Int → Int → Int → Int → (Bool → Option α) → Option α) (n : Nat) : FuncId → List D → (Res → Option α) → Option α := tabC [(66, (byShape spec_l11Is_sh (spec_l11Is_runG F0 n)))]
def spec_IsDesk_C {α : Type} (n : Nat) : FuncId → List D → (Res → Option α) → Option α := spec_IsDesk_CG spec_l11Is n
def spec_IsDesk_M : FuncId → List Nat := tabM []
def spec_IsDesk_lpsG {α : Type}  : List (LoopT α) := []
def spec_IsDesk_lps {α : Type} : List (LoopT α) := spec_IsDesk_lpsG
def spec_IsDesk_XG {α : Type} (F0 : Nat → Int → Int → Int → Int → Int → Int → Int → Int → Int → Int → Int → (Bool → Option α) → Option α)  (n : Nat) : Ctx α := ⟨spec_IsDesk_CG F0 n, spec_IsDesk_M, eqs, lpOf (spec_IsDesk_lpsG) n⟩
def spec_IsDesk_X {α : Type} (n : Nat) : Ctx α := spec_IsDesk_XG spec_l11Is n
def spec_IsDesk_Lt (np : Nat) (lent : List (Bool × Nat × Blk)) : Prop := np = 1 ∧ lent = []
def spec_IsDesk_body {α : Type} (F0 : Nat → Int → Int → Int → Int → Int → Int → Int → Int → Int → Int → Int → (Bool → Option α) → Option α)  (k : Nat) (d : Int) (d1 : Int) (d2 : Int) (d3 : Int) (d4 : Int) (d5 : Int) (d6 : Int) (d7 : Int) (d8 : Int) (d9 : Int) (d10 : Int) (r0 : Bool → Option α) : Option α :=
  F0 k d d1 d2 d3 d4 d5 d6 d7 d8 d9 d10 fun v =>
  r0 v
theorem spec_IsDesk_gen {α : Type} (F0 : Nat → Int → Int → Int → Int → Int → Int → Int → Int → Int → Int → Int → (Bool → Option α) → Option α)  (n : Nat) (d : Int) (d1 : Int) (d2 : Int) (d3 : Int) (d4 : Int) (d5 : Int) (d6 : Int) (d7 : Int) (d8 : Int) (d9 : Int) (d10 : Int) (κ : Res → Option α) : evFn Try.prog (spec_IsDesk_XG F0 n) Try.f28 (((buildDs spec_IsDesk_sh [.int d, .int d1, .int d2, .int d3, .int d4, .int d5, .int d6, .int d7, .int d8, .int d9, .int d10]).map Prod.fst).getD []) κ = spec_IsDesk_body F0 n d d1 d2 d3 d4 d5 d6 d7 d8 d9 d10 (fun v1 => κ ⟨[.bool v1], []⟩) := by kernel_rfl
theorem spec_IsDesk_ev {α : Type} (n : Nat) (d : Int) (d1 : Int) (d2 : Int) (d3 : Int) (d4 : Int) (d5 : Int) (d6 : Int) (d7 : Int) (d8 : Int) (d9 : Int) (d10 : Int) (κ : Res → Option α) : evFn Try.prog (spec_IsDesk_X n) Try.f28 (((buildDs spec_IsDesk_sh [.int d, .int d1, .int d2, .int d3, .int d4, .int d5, .int d6, .int d7, .int d8, .int d9, .int d10]).map Prod.fst).getD []) κ = spec_IsDesk_run n [.int d, .int d1, .int d2, .int d3, .int d4, .int d5, .int d6, .int d7, .int d8, .int d9, .int d10] κ := (spec_IsDesk_gen spec_l11Is n d d1 d2 d3 d4 d5 d6 d7 d8 d9 d10 κ).trans (by kernel_rfl)
theorem spec_IsDesk_en (d : Int) (d1 : Int) (d2 : Int) (d3 : Int) (d4 : Int) (d5 : Int) (d6 : Int) (d7 : Int) (d8 : Int) (d9 : Int) (d10 : Int) : (entry 0 (((buildDs spec_IsDesk_sh [.int d, .int d1, .int d2, .int d3, .int d4, .int d5, .int d6, .int d7, .int d8, .int d9, .int d10]).map Prod.fst).getD [])).map (fun x => (x.1.length, x.2.lent)) = some (1, []) := by kernel_rfl
theorem spec_IsDesk_good {α : Type} : ∀ n, GoodFn (α := α) Try.prog 28 (byShape spec_IsDesk_sh (spec_IsDesk_run n)) := by
  refine fn_good' Try.func28 (c := (Try.f28.body.getD .skip)) (by kernel_rfl) (by kernel_rfl) (by kernel_rfl) spec_IsDesk_C spec_IsDesk_M eqs spec_IsDesk_lps (fun n => tabC_good (List.forall_mem_cons.2 ⟨(spec_l11Is_good n), (fun _ h => absurd h List.not_mem_nil)⟩)) eqs_ok spec_IsDesk_Lt ?_ ?_ spec_IsDesk_sh spec_IsDesk_run ?_
  · exact (fun _ h => absurd h List.not_mem_nil)
  · exact (fun _ h => absurd h List.not_mem_nil)
  · intro n p κ r ds hd hr
    have hr0 := hr
    unfold spec_IsDesk_run spec_IsDesk_runG at hr
    split at hr
    · rw [← ds_of hd]
      exact ⟨en_of (spec_IsDesk_en _ _ _ _ _ _ _ _ _ _ _) ⟨rfl, rfl⟩, (spec_IsDesk_ev n _ _ _ _ _ _ _ _ _ _ _ κ).trans hr0⟩
    · cases hr

/-! loop.example/g01297/impl.in -/
def impl_in_sh : List SkD := [.int .i64, .int .i64, .int .i64]
def impl_in_runG {α : Type} (F : Nat → Int → Int → Int → (Bool → Option α) → Option α) (n : Nat) (p : List P1) (κ : Res → Option α) : Option α := match p with
  | [.int n_, .int low, .int high] => F n n_ low high (fun v1 => κ ⟨[.bool v1], []⟩)
  | _ => none
def impl_in_run {α : Type} (n : Nat) (p : List P1) (κ : Res → Option α) : Option α := impl_in_runG impl_in n p κ
def impl_in_CG {α : Type}  (n : Nat) : FuncId → List D → (Res → Option α) → Option α := tabC []
def impl_in_C {α : Type} (n : Nat) : FuncId → List D → (Res → Option α) → Option α := impl_in_CG n
def impl_in_M : FuncId → List Nat := tabM []
def impl_in_lpsG {α : Type}  : List (LoopT α) := []
def impl_in_lps {α : Type} : List (LoopT α) := impl_in_lpsG
def impl_in_XG {α : Type}   (n : Nat) : Ctx α := ⟨impl_in_CG n, impl_in_M, eqs, lpOf (impl_in_lpsG) n⟩
def impl_in_X {α : Type} (n : Nat) : Ctx α := impl_in_XG n
def impl_in_Lt (np : Nat) (lent : List (Bool × Nat × Blk)) : Prop := np = 3 ∧ lent = []
def impl_in_body {α : Type}   (k : Nat) (n_ : Int) (low : Int) (high : Int) (r0 : Bool → Option α) : Option α :=
  bif decide (low ≤ n_) then
    r0 (decide (n_ ≤ high))
  else
    r0 false
theorem impl_in_gen {α : Type}   (n : Nat) (n_ : Int) (low : Int) (high : Int) (κ : Res → Option α) : evFn Try.prog (impl_in_XG n) Try.f92 (((buildDs impl_in_sh [.int n_, .int low, .int high]).map Prod.fst).getD []) κ = impl_in_body n n_ low high (fun v1 => κ ⟨[.bool v1], []⟩) := by kernel_rfl
theorem impl_in_ev {α : Type} (n : Nat) (n_ : Int) (low : Int) (high : Int) (κ : Res → Option α) : evFn Try.prog (impl_in_X n) Try.f92 (((buildDs impl_in_sh [.int n_, .int low, .int high]).map Prod.fst).getD []) κ = impl_in_run n [.int n_, .int low, .int high] κ := (impl_in_gen n n_ low high κ).trans (by kernel_rfl)
theorem impl_in_en (n_ : Int) (low : Int) (high : Int) : (entry 0 (((buildDs impl_in_sh [.int n_, .int low, .int high]).map Prod.fst).getD [])).map (fun x => (x.1.length, x.2.lent)) = some (3, []) := by kernel_rfl
theorem impl_in_good {α : Type} : ∀ n, GoodFn (α := α) Try.prog 92 (byShape impl_in_sh (impl_in_run n)) := by
  refine fn_good' Try.func92 (c := (Try.f92.body.getD .skip)) (by kernel_rfl) (by kernel_rfl) (by kernel_rfl) impl_in_C impl_in_M eqs impl_in_lps (fun n => tabC_good (fun _ h => absurd h List.not_mem_nil)) eqs_ok impl_in_Lt ?_ ?_ impl_in_sh impl_in_run ?_
  · exact (fun _ h => absurd h List.not_mem_nil)
  · exact (fun _ h => absurd h List.not_mem_nil)
  · intro n p κ r ds hd hr
    have hr0 := hr
    unfold impl_in_run impl_in_runG at hr
    split at hr
    · rw [← ds_of hd]
      exact ⟨en_of (impl_in_en _ _ _) ⟨rfl, rfl⟩, (impl_in_ev n _ _ _ κ).trans hr0⟩
    · cases hr

/-! loop.example/g01297/impl.isCoord -/
def impl_isCoord_sh : List SkD := [.int .i64]
def impl_isCoord_runG {α : Type} (F : Nat → Int → (Bool → Option α) → Option α) (n : Nat) (p : List P1) (κ : Res → Option α) : Option α := match p with
  | [.int n_] => F n n_ (fun v1 => κ ⟨[.bool v1], []⟩)
  | _ => none
def impl_isCoord_run {α : Type} (n : Nat) (p : List P1) (κ : Res → Option α) : Option α := impl_isCoord_runG impl_isCoord n p κ
def impl_isCoord_CG {α : Type} (F0 : Nat → Int → Int → Int → (Bool → Option α) → Option α) (n : Nat) : FuncId → List D → (Res → Option α) → Option α := tabC [(92, (byShape impl_in_sh (impl_in_runG F0 n)))]
def impl_isCoord_C {α : Type} (n : Nat) : FuncId → List D → (Res → Option α) → Option α := impl_isCoord_CG impl_in n
def impl_isCoord_M : FuncId → List Nat := tabM []
def impl_isCoord_lpsG {α : Type}  : List (LoopT α) := []
def impl_isCoord_lps {α : Type} : List (LoopT α) := impl_isCoord_lpsG
def impl_isCoord_XG {α : Type} (F0 : Nat → Int → Int → Int → (Bool → Option α) → Option α)  (n : Nat) : Ctx α := ⟨impl_isCoord_CG F0 n, impl_isCoord_M, eqs, lpOf (impl_isCoord_lpsG) n⟩
def impl_isCoord_X {α : Type} (n : Nat) : Ctx α := impl_isCoord_XG impl_in n
def impl_isCoord_Lt (np : Nat) (lent : List (Bool × Nat × Blk)) : Prop := np = 1 ∧ lent = []
def impl_isCoord_body {α : Type} (F0 : Nat → Int → Int → Int → (Bool → Option α) → Option α)  (k : Nat) (n_ : Int) (r0 : Bool → Option α) : Option α :=
  F0 k n_ (-1000000) 1000000 fun v =>
  r0 v
theorem impl_isCoord_gen {α : Type} (F0 : Nat → Int → Int → Int → (Bool → Option α) → Option α)  (n : Nat) (n_ : Int) (κ : Res → Option α) : evFn Try.prog (impl_isCoord_XG F0 n) Try.f88 (((buildDs impl_isCoord_sh [.int n_]).map Prod.fst).getD []) κ = impl_isCoord_body F0 n n_ (fun v1 => κ ⟨[.bool v1], []⟩) := by kernel_rfl
theorem impl_isCoord_ev {α : Type} (n : Nat) (n_ : Int) (κ : Res → Option α) : evFn Try.prog (impl_isCoord_X n) Try.f88 (((buildDs impl_isCoord_sh [.int n_]).map Prod.fst).getD []) κ = impl_isCoord_run n [.int n_] κ := (impl_isCoord_gen impl_in n n_ κ).trans (by kernel_rfl)
theorem impl_isCoord_en (n_ : Int) : (entry 0 (((buildDs impl_isCoord_sh [.int n_]).map Prod.fst).getD [])).map (fun x => (x.1.length, x.2.lent)) = some (1, []) := by kernel_rfl
theorem impl_isCoord_good {α : Type} : ∀ n, GoodFn (α := α) Try.prog 88 (byShape impl_isCoord_sh (impl_isCoord_run n)) := by
  refine fn_good' Try.func88 (c := (Try.f88.body.getD .skip)) (by kernel_rfl) (by kernel_rfl) (by kernel_rfl) impl_isCoord_C impl_isCoord_M eqs impl_isCoord_lps (fun n => tabC_good (List.forall_mem_cons.2 ⟨(impl_in_good n), (fun _ h => absurd h List.not_mem_nil)⟩)) eqs_ok impl_isCoord_Lt ?_ ?_ impl_isCoord_sh impl_isCoord_run ?_
  · exact (fun _ h => absurd h List.not_mem_nil)
  · exact (fun _ h => absurd h List.not_mem_nil)
  · intro n p κ r ds hd hr
    have hr0 := hr
    unfold impl_isCoord_run impl_isCoord_runG at hr
    split at hr
    · rw [← ds_of hd]
      exact ⟨en_of (impl_isCoord_en _) ⟨rfl, rfl⟩, (impl_isCoord_ev n _ κ).trans hr0⟩
    · cases hr

/-! loop.example/g01297/impl.IsPoint -/
def impl_IsPoint_sh : List SkD := [.agg [.int .i64, .int .i64]]
def impl_IsPoint_runG {α : Type} (F : Nat → Int → Int → (Bool → Option α) → Option α) (n : Nat) (p : List P1) (κ : Res → Option α) : Option α := match p with
  | [.int a, .int a1] => F n a a1 (fun v1 => κ ⟨[.bool v1], []⟩)
  | _ => none
def impl_IsPoint_run {α : Type} (n : Nat) (p : List P1) (κ : Res → Option α) : Option α := impl_IsPoint_runG impl_IsPoint n p κ
def impl_IsPoint_CG {α : Type} (F0 : Nat → Int → (Bool → Option α) → Option α) (n : Nat) : FuncId → List D → (Res → Option α) → Option α := tabC [(88, (byShape impl_isCoord_sh (impl_isCoord_runG F0 n)))]
def impl_IsPoint_C {α : Type} (n : Nat) : FuncId → List D → (Res → Option α) → Option α := impl_IsPoint_CG impl_isCoord n
def impl_IsPoint_M : FuncId → List Nat := tabM []
def impl_IsPoint_lpsG {α : Type}  : List (LoopT α) := []
def impl_IsPoint_lps {α : Type} : List (LoopT α) := impl_IsPoint_lpsG
def impl_IsPoint_XG {α : Type} (F0 : Nat → Int → (Bool → Option α) → Option α)  (n : Nat) : Ctx α := ⟨impl_IsPoint_CG F0 n, impl_IsPoint_M, eqs, lpOf (impl_IsPoint_lpsG) n⟩
def impl_IsPoint_X {α : Type} (n : Nat) : Ctx α := impl_IsPoint_XG impl_isCoord n
def impl_IsPoint_Lt (np : Nat) (lent : List (Bool × Nat × Blk)) : Prop := np = 1 ∧ lent = []
def impl_IsPoint_body {α : Type} (F0 : Nat → Int → (Bool → Option α) → Option α)  (k : Nat) (a : Int) (a1 : Int) (r0 : Bool → Option α) : Option α :=
  F0 k a fun v =>
  bif v then
    F0 k a1 fun v1 =>
    r0 v1
  else
    r0 false
theorem impl_IsPoint_gen {α : Type} (F0 : Nat → Int → (Bool → Option α) → Option α)  (n : Nat) (a : Int) (a1 : Int) (κ : Res → Option α) : evFn Try.prog (impl_IsPoint_XG F0 n) Try.f105 (((buildDs impl_IsPoint_sh [.int a, .int a1]).map Prod.fst).getD []) κ = impl_IsPoint_body F0 n a a1 (fun v1 => κ ⟨[.bool v1], []⟩) := by kernel_rfl
theorem impl_IsPoint_ev {α : Type} (n : Nat) (a : Int) (a1 : Int) (κ : Res → Option α) : evFn Try.prog (impl_IsPoint_X n) Try.f105 (((buildDs impl_IsPoint_sh [.int a, .int a1]).map Prod.fst).getD []) κ = impl_IsPoint_run n [.int a, .int a1] κ := (impl_IsPoint_gen impl_isCoord n a a1 κ).trans (by kernel_rfl)
theorem impl_IsPoint_en (a : Int) (a1 : Int) : (entry 0 (((buildDs impl_IsPoint_sh [.int a, .int a1]).map Prod.fst).getD [])).map (fun x => (x.1.length, x.2.lent)) = some (1, []) := by kernel_rfl
theorem impl_IsPoint_good {α : Type} : ∀ n, GoodFn (α := α) Try.prog 105 (byShape impl_IsPoint_sh (impl_IsPoint_run n)) := by
  refine fn_good' Try.func105 (c := (Try.f105.body.getD .skip)) (by kernel_rfl) (by kernel_rfl) (by kernel_rfl) impl_IsPoint_C impl_IsPoint_M eqs impl_IsPoint_lps (fun n => tabC_good (List.forall_mem_cons.2 ⟨(impl_isCoord_good n), (fun _ h => absurd h List.not_mem_nil)⟩)) eqs_ok impl_IsPoint_Lt ?_ ?_ impl_IsPoint_sh impl_IsPoint_run ?_
  · exact (fun _ h => absurd h List.not_mem_nil)
  · exact (fun _ h => absurd h List.not_mem_nil)
  · intro n p κ r ds hd hr
    have hr0 := hr
    unfold impl_IsPoint_run impl_IsPoint_runG at hr
    split at hr
    · rw [← ds_of hd]
      exact ⟨en_of (impl_IsPoint_en _ _) ⟨rfl, rfl⟩, (impl_IsPoint_ev n _ _ κ).trans hr0⟩
    · cases hr

/-! loop.example/g01297/impl.points$1 -/
def impl_points_1_sh : List SkD := [.agg [.int .i64, .int .i64]]
def impl_points_1_runG {α : Type} (F : Nat → Int → Int → (Bool → Option α) → Option α) (n : Nat) (p : List P1) (κ : Res → Option α) : Option α := match p with
  | [.int a, .int a1] => F n a a1 (fun v1 => κ ⟨[.bool v1], []⟩)
  | _ => none
def impl_points_1_run {α : Type} (n : Nat) (p : List P1) (κ : Res → Option α) : Option α := impl_points_1_runG impl_points_1 n p κ
def impl_points_1_CG {α : Type} (F0 : Nat → Int → Int → (Bool → Option α) → Option α) (n : Nat) : FuncId → List D → (Res → Option α) → Option α := tabC [(105, (byShape impl_IsPoint_sh (impl_IsPoint_runG F0 n)))]
def impl_points_1_C {α : Type} (n : Nat) : FuncId → List D → (Res → Option α) → Option α := impl_points_1_CG impl_IsPoint n
def impl_points_1_M : FuncId → List Nat := tabM []
def impl_points_1_lpsG {α : Type}  : List (LoopT α) := []
def impl_points_1_lps {α : Type} : List (LoopT α) := impl_points_1_lpsG
def impl_points_1_XG {α : Type} (F0 : Nat → Int → Int → (Bool → Option α) → Option α)  (n : Nat) : Ctx α := ⟨impl_points_1_CG F0 n, impl_points_1_M, eqs, lpOf (impl_points_1_lpsG) n⟩
def impl_points_1_X {α : Type} (n : Nat) : Ctx α := impl_points_1_XG impl_IsPoint n
def impl_points_1_Lt (np : Nat) (lent : List (Bool × Nat × Blk)) : Prop := np = 1 ∧ lent = []
def impl_points_1_body {α : Type} (F0 : Nat → Int → Int → (Bool → Option α) → Option α)  (k : Nat) (a : Int) (a1 : Int) (r0 : Bool → Option α) : Option α :=
  F0 k a a1 fun v =>
  r0 (!v)
theorem impl_points_1_gen {α : Type} (F0 : Nat → Int → Int → (Bool → Option α) → Option α)  (n : Nat) (a : Int) (a1 : Int) (κ : Res → Option α) : evFn Try.prog (impl_points_1_XG F0 n) Try.f104 (((buildDs impl_points_1_sh [.int a, .int a1]).map Prod.fst).getD []) κ = impl_points_1_body F0 n a a1 (fun v1 => κ ⟨[.bool v1], []⟩) := by kernel_rfl
theorem impl_points_1_ev {α : Type} (n : Nat) (a : Int) (a1 : Int) (κ : Res → Option α) : evFn Try.prog (impl_points_1_X n) Try.f104 (((buildDs impl_points_1_sh [.int a, .int a1]).map Prod.fst).getD []) κ = impl_points_1_run n [.int a, .int a1] κ := (impl_points_1_gen impl_IsPoint n a a1 κ).trans (by kernel_rfl)
theorem impl_points_1_en (a : Int) (a1 : Int) : (entry 0 (((buildDs impl_points_1_sh [.int a, .int a1]).map Prod.fst).getD [])).map (fun x => (x.1.length, x.2.lent)) = some (1, []) := by kernel_rfl
theorem impl_points_1_good {α : Type} : ∀ n, GoodFn (α := α) Try.prog 104 (byShape impl_points_1_sh (impl_points_1_run n)) := by
  refine fn_good' Try.func104 (c := (Try.f104.body.getD .skip)) (by kernel_rfl) (by kernel_rfl) (by kernel_rfl) impl_points_1_C impl_points_1_M eqs impl_points_1_lps (fun n => tabC_good (List.forall_mem_cons.2 ⟨(impl_IsPoint_good n), (fun _ h => absurd h List.not_mem_nil)⟩)) eqs_ok impl_points_1_Lt ?_ ?_ impl_points_1_sh impl_points_1_run ?_
  · exact (fun _ h => absurd h List.not_mem_nil)
  · exact (fun _ h => absurd h List.not_mem_nil)
  · intro n p κ r ds hd hr
    have hr0 := hr
    unfold impl_points_1_run impl_points_1_runG at hr
    split at hr
    · rw [← ds_of hd]
      exact ⟨en_of (impl_points_1_en _ _) ⟨rfl, rfl⟩, (impl_points_1_ev n _ _ κ).trans hr0⟩
    · cases hr

/-! slices.IndexFunc[[]loop.example/g01297/impl.Point,loop.example/g01297/impl.Point] -/
def slices_IndexFunc_impl_Point_impl_Point_1F_impl_points_1_sh : List SkD := [.sl 31 .pt, .fn 104 []]
def slices_IndexFunc_impl_Point_impl_Point_1F_impl_points_1_runG {α : Type} (F : Nat → (List (Int × Int)) → (Int → Option α) → Option α) (n : Nat) (p : List P1) (κ : Res → Option α) : Option α := match p with
  | [.rows .pt s] => F n s (fun v1 => κ ⟨[.int .i64 v1], []⟩)
  | _ => none
def slices_IndexFunc_impl_Point_impl_Point_1F_impl_points_1_run {α : Type} (n : Nat) (p : List P1) (κ : Res → Option α) : Option α := slices_IndexFunc_impl_Point_impl_Point_1F_impl_points_1_runG slices_IndexFunc_impl_Point_impl_Point_1F_impl_points_1 n p κ
def slices_IndexFunc_impl_Point_impl_Point_1F_impl_points_1_CG {α : Type} (F0 : Nat → Int → Int → (Bool → Option α) → Option α) (n : Nat) : FuncId → List D → (Res → Option α) → Option α := tabC [(104, (byShape impl_points_1_sh (impl_points_1_runG F0 n)))]
def slices_IndexFunc_impl_Point_impl_Point_1F_impl_points_1_C {α : Type} (n : Nat) : FuncId → List D → (Res → Option α) → Option α := slices_IndexFunc_impl_Point_impl_Point_1F_impl_points_1_CG impl_points_1 n
def slices_IndexFunc_impl_Point_impl_Point_1F_impl_points_1_M : FuncId → List Nat := tabM []
def slices_IndexFunc_impl_Point_impl_Point_1F_impl_points_1_t2 : Tpl := ⟨[.sl 0, .fn 104 [], .any, .any, .any, .any, .any, .int .i64, .int .i64, .any, .any, .any, .any, .any, .any, .any, .any, .any, .any], [(0, .rows 0 31 .pt)], []⟩
def slices_IndexFunc_impl_Point_impl_Point_1F_impl_points_1_uG2 {α : Type} (G : Nat → Int → Int → (List (Int × Int)) → (Int → Int → (List (Int × Int)) → Option α) → (Int → Option α) → Option α) (n : Nat) (p : List P1) (brk : Nat → List P1 → Option α) (ret : Res → Option α) : Option α := match p with
  | [.int x, .int x1, .rows .pt s1] => G n x x1 s1 (fun x x1 s1 => brk 0 [.int x, .int x1, .rows .pt s1]) (fun v1 => ret ⟨[.int .i64 v1], []⟩)
  | _ => none
def slices_IndexFunc_impl_Point_impl_Point_1F_impl_points_1_u2 {α : Type} (n : Nat) (p : List P1) (brk : Nat → List P1 → Option α) (ret : Res → Option α) : Option α := slices_IndexFunc_impl_Point_impl_Point_1F_impl_points_1_uG2 slices_IndexFunc_impl_Point_impl_Point_1F_impl_points_1_l2 n p brk ret
def slices_IndexFunc_impl_Point_impl_Point_1F_impl_points_1_lpsG {α : Type} (G2 : Nat → Int → Int → (List (Int × Int)) → (Int → Int → (List (Int × Int)) → Option α) → (Int → Option α) → Option α) : List (LoopT α) := [⟨2, slices_IndexFunc_impl_Point_impl_Point_1F_impl_points_1_t2, slices_IndexFunc_impl_Point_impl_Point_1F_impl_points_1_uG2 G2⟩]
def slices_IndexFunc_impl_Point_impl_Point_1F_impl_points_1_lps {α : Type} : List (LoopT α) := slices_IndexFunc_impl_Point_impl_Point_1F_impl_points_1_lpsG slices_IndexFunc_impl_Point_impl_Point_1F_impl_points_1_l2
def slices_IndexFunc_impl_Point_impl_Point_1F_impl_points_1_XG {α : Type} (F0 : Nat → Int → Int → (Bool → Option α) → Option α) (G2 : Nat → Int → Int → (List (Int × Int)) → (Int → Int → (List (Int × Int)) → Option α) → (Int → Option α) → Option α) (n : Nat) : Ctx α := ⟨slices_IndexFunc_impl_Point_impl_Point_1F_impl_points_1_CG F0 n, slices_IndexFunc_impl_Point_impl_Point_1F_impl_points_1_M, eqs, lpOf (slices_IndexFunc_impl_Point_impl_Point_1F_impl_points_1_lpsG G2) n⟩
def slices_IndexFunc_impl_Point_impl_Point_1F_impl_points_1_X {α : Type} (n : Nat) : Ctx α := slices_IndexFunc_impl_Point_impl_Point_1F_impl_points_1_XG impl_points_1 slices_IndexFunc_impl_Point_impl_Point_1F_impl_points_1_l2 n
def slices_IndexFunc_impl_Point_impl_Point_1F_impl_points_1_Lt (np : Nat) (lent : List (Bool × Nat × Blk)) : Prop := np = 2 ∧ lent = []
def slices_IndexFunc_impl_Point_impl_Point_1F_impl_points_1_lb2 {α : Type} (F0 : Nat → Int → Int → (Bool → Option α) → Option α) (G2 : Nat → Int → Int → (List (Int × Int)) → (Int → Int → (List (Int × Int)) → Option α) → (Int → Option α) → Option α) (k : Nat) (x : Int) (x1 : Int) (s1 : List (Int × Int)) (b0 : Int → Int → (List (Int × Int)) → Option α) (r0 : Int → Option α) : Option α :=
  bif decide (x1 < x) then
    bif (decide (0 ≤ x1) && decide (x1 < (((List.length s1) : Nat) : Int))) then
      (s1[x1.toNat]?).bind fun e_ =>
      F0 k e_.1 e_.2 fun v =>
      bif v then
        r0 x1
      else
        G2 k x (w64 (x1 + 1)) s1 b0 r0
    else
      none
  else
    b0 x x1 s1
theorem slices_IndexFunc_impl_Point_impl_Point_1F_impl_points_1_l2_gen {α : Type} (F0 : Nat → Int → Int → (Bool → Option α) → Option α) (G2 : Nat → Int → Int → (List (Int × Int)) → (Int → Int → (List (Int × Int)) → Option α) → (Int → Option α) → Option α) (n : Nat) (x : Int) (x1 : Int) (s1 : List (Int × Int)) (brk : Nat → List P1 → Option α) (ret : Res → Option α) : ev ((slices_IndexFunc_impl_Point_impl_Point_1F_impl_points_1_XG F0 G2 n).env Try.prog Try.f120 2 []) (findLoop (loopsIn (Try.f120.body.getD .skip)) 2) ((slices_IndexFunc_impl_Point_impl_Point_1F_impl_points_1_t2.build [.int x, .int x1, .rows .pt s1]).getD ⟨[], []⟩) (roundK (2 * 64) slices_IndexFunc_impl_Point_impl_Point_1F_impl_points_1_t2 (fun q => slices_IndexFunc_impl_Point_impl_Point_1F_impl_points_1_uG2 G2 n q brk ret) brk ret) = slices_IndexFunc_impl_Point_impl_Point_1F_impl_points_1_lb2 F0 G2 n x x1 s1 (fun x x1 s1 => brk 0 [.int x, .int x1, .rows .pt s1]) (fun v1 => ret ⟨[.int .i64 v1], []⟩) := by kernel_rfl
theorem slices_IndexFunc_impl_Point_impl_Point_1F_impl_points_1_l2_ev {α : Type} (n : Nat) (x : Int) (x1 : Int) (s1 : List (Int × Int)) (brk : Nat → List P1 → Option α) (ret : Res → Option α) : ev ((slices_IndexFunc_impl_Point_impl_Point_1F_impl_points_1_X n).env Try.prog Try.f120 2 []) (findLoop (loopsIn (Try.f120.body.getD .skip)) 2) ((slices_IndexFunc_impl_Point_impl_Point_1F_impl_points_1_t2.build [.int x, .int x1, .rows .pt s1]).getD ⟨[], []⟩) (roundK (2 * 64) slices_IndexFunc_impl_Point_impl_Point_1F_impl_points_1_t2 (fun q => slices_IndexFunc_impl_Point_impl_Point_1F_impl_points_1_u2 n q brk ret) brk ret) = slices_IndexFunc_impl_Point_impl_Point_1F_impl_points_1_u2 (n + 1) [.int x, .int x1, .rows .pt s1] brk ret := (slices_IndexFunc_impl_Point_impl_Point_1F_impl_points_1_l2_gen impl_points_1 slices_IndexFunc_impl_Point_impl_Point_1F_impl_points_1_l2 n x x1 s1 brk ret).trans (by kernel_rfl)
def slices_IndexFunc_impl_Point_impl_Point_1F_impl_points_1_body {α : Type} (F0 : Nat → Int → Int → (Bool → Option α) → Option α) (G2 : Nat → Int → Int → (List (Int × Int)) → (Int → Int → (List (Int × Int)) → Option α) → (Int → Option α) → Option α) (k : Nat) (s : List (Int × Int)) (r0 : Int → Option α) : Option α :=
  G2 k (((List.length s) : Nat) : Int) 0 s
    (fun x2 x3 s2 =>
      r0 (-1))
    r0
theorem slices_IndexFunc_impl_Point_impl_Point_1F_impl_points_1_gen {α : Type} (F0 : Nat → Int → Int → (Bool → Option α) → Option α) (G2 : Nat → Int → Int → (List (Int × Int)) → (Int → Int → (List (Int × Int)) → Option α) → (Int → Option α) → Option α) (n : Nat) (s : List (Int × Int)) (κ : Res → Option α) : evFn Try.prog (slices_IndexFunc_impl_Point_impl_Point_1F_impl_points_1_XG F0 G2 n) Try.f120 (((buildDs slices_IndexFunc_impl_Point_impl_Point_1F_impl_points_1_sh [.rows .pt s]).map Prod.fst).getD []) κ = slices_IndexFunc_impl_Point_impl_Point_1F_impl_points_1_body F0 G2 n s (fun v1 => κ ⟨[.int .i64 v1], []⟩) := by kernel_rfl
theorem slices_IndexFunc_impl_Point_impl_Point_1F_impl_points_1_ev {α : Type} (n : Nat) (s : List (Int × Int)) (κ : Res → Option α) : evFn Try.prog (slices_IndexFunc_impl_Point_impl_Point_1F_impl_points_1_X n) Try.f120 (((buildDs slices_IndexFunc_impl_Point_impl_Point_1F_impl_points_1_sh [.rows .pt s]).map Prod.fst).getD []) κ = slices_IndexFunc_impl_Point_impl_Point_1F_impl_points_1_run n [.rows .pt s] κ := (slices_IndexFunc_impl_Point_impl_Point_1F_impl_points_1_gen impl_points_1 slices_IndexFunc_impl_Point_impl_Point_1F_impl_points_1_l2 n s κ).trans (by kernel_rfl)
theorem slices_IndexFunc_impl_Point_impl_Point_1F_impl_points_1_en (s : List (Int × Int)) : (entry 0 (((buildDs slices_IndexFunc_impl_Point_impl_Point_1F_impl_points_1_sh [.rows .pt s]).map Prod.fst).getD [])).map (fun x => (x.1.length, x.2.lent)) = some (2, []) := by kernel_rfl
theorem slices_IndexFunc_impl_Point_impl_Point_1F_impl_points_1_good {α : Type} : ∀ n, GoodFn (α := α) Try.prog 120 (byShape slices_IndexFunc_impl_Point_impl_Point_1F_impl_points_1_sh (slices_IndexFunc_impl_Point_impl_Point_1F_impl_points_1_run n)) := by
  refine fn_good' Try.func120 (c := (Try.f120.body.getD .skip)) (by kernel_rfl) (by kernel_rfl) (by kernel_rfl) slices_IndexFunc_impl_Point_impl_Point_1F_impl_points_1_C slices_IndexFunc_impl_Point_impl_Point_1F_impl_points_1_M eqs slices_IndexFunc_impl_Point_impl_Point_1F_impl_points_1_lps (fun n => tabC_good (List.forall_mem_cons.2 ⟨(impl_points_1_good n), (fun _ h => absurd h List.not_mem_nil)⟩)) eqs_ok slices_IndexFunc_impl_Point_impl_Point_1F_impl_points_1_Lt ?_ ?_ slices_IndexFunc_impl_Point_impl_Point_1F_impl_points_1_sh slices_IndexFunc_impl_Point_impl_Point_1F_impl_points_1_run ?_
  · refine List.forall_mem_cons.2 ⟨?_, (fun _ h => absurd h List.not_mem_nil)⟩
    · intro p brk ret; show slices_IndexFunc_impl_Point_impl_Point_1F_impl_points_1_u2 0 p brk ret = none; unfold slices_IndexFunc_impl_Point_impl_Point_1F_impl_points_1_u2 slices_IndexFunc_impl_Point_impl_Point_1F_impl_points_1_uG2; split <;> rfl
  · refine List.forall_mem_cons.2 ⟨?_, (fun _ h => absurd h List.not_mem_nil)⟩
    · intro np lent hL n p brk ret st r hb hr
      obtain ⟨rfl, rfl⟩ := hL
      rw [← tpl_of hb]
      change slices_IndexFunc_impl_Point_impl_Point_1F_impl_points_1_u2 (n + 1) p brk ret = some r at hr
      have hr0 := hr
      unfold slices_IndexFunc_impl_Point_impl_Point_1F_impl_points_1_u2 slices_IndexFunc_impl_Point_impl_Point_1F_impl_points_1_uG2 at hr
      split at hr
      · exact (slices_IndexFunc_impl_Point_impl_Point_1F_impl_points_1_l2_ev n _ _ _ brk ret).trans hr0
      · cases hr
  · intro n p κ r ds hd hr
    have hr0 := hr
    unfold slices_IndexFunc_impl_Point_impl_Point_1F_impl_points_1_run slices_IndexFunc_impl_Point_impl_Point_1F_impl_points_1_runG at hr
    split at hr
    · rw [← ds_of hd]
      exact ⟨en_of (slices_IndexFunc_impl_Point_impl_Point_1F_impl_points_1_en _) ⟨rfl, rfl⟩, (slices_IndexFunc_impl_Point_impl_Point_1F_impl_points_1_ev n _ κ).trans hr0⟩
    · cases hr

/-! slices.ContainsFunc[[]loop.example/g01297/impl.Point,loop.example/g01297/impl.Point] -/
def slices_ContainsFunc_impl_Point_impl_Point_1F_impl_points_1_sh : List SkD := [.sl 31 .pt, .fn 104 []]
def slices_ContainsFunc_impl_Point_impl_Point_1F_impl_points_1_runG {α : Type} (F : Nat → (List (Int × Int)) → (Bool → Option α) → Option α) (n : Nat) (p : List P1) (κ : Res → Option α) : Option α := match p with
  | [.rows .pt s] => F n s (fun v1 => κ ⟨[.bool v1], []⟩)
  | _ => none
def slices_ContainsFunc_impl_Point_impl_Point_1F_impl_points_1_run {α : Type} (n : Nat) (p : List P1) (κ : Res → Option α) : Option α := slices_ContainsFunc_impl_Point_impl_Point_1F_impl_points_1_runG slices_ContainsFunc_impl_Point_impl_Point_1F_impl_points_1 n p κ
def slices_ContainsFunc_impl_Point_impl_Point_1F_impl_points_1_CG {α : Type} (F0 : Nat → (List (Int × Int)) → (Int → Option α) → Option α) (n : Nat) : FuncId → List D → (Res → Option α) → Option α := tabC [(120, (byShape slices_IndexFunc_impl_Point_impl_Point_1F_impl_points_1_sh (slices_IndexFunc_impl_Point_impl_Point_1F_impl_points_1_runG F0 n)))]
def slices_ContainsFunc_impl_Point_impl_Point_1F_impl_points_1_C {α : Type} (n : Nat) : FuncId → List D → (Res → Option α) → Option α := slices_ContainsFunc_impl_Point_impl_Point_1F_impl_points_1_CG slices_IndexFunc_impl_Point_impl_Point_1F_impl_points_1 n
def slices_ContainsFunc_impl_Point_impl_Point_1F_impl_points_1_M : FuncId → List Nat := tabM []
def slices_ContainsFunc_impl_Point_impl_Point_1F_impl_points_1_lpsG {α : Type}  : List (LoopT α) := []
def slices_ContainsFunc_impl_Point_impl_Point_1F_impl_points_1_lps {α : Type} : List (LoopT α) := slices_ContainsFunc_impl_Point_impl_Point_1F_impl_points_1_lpsG
def slices_ContainsFunc_impl_Point_impl_Point_1F_impl_points_1_XG {α : Type} (F0 : Nat → (List (Int × Int)) → (Int → Option α) → Option α)  (n : Nat) : Ctx α := ⟨slices_ContainsFunc_impl_Point_impl_Point_1F_impl_points_1_CG F0 n, slices_ContainsFunc_impl_Point_impl_Point_1F_impl_points_1_M, eqs, lpOf (slices_ContainsFunc_impl_Point_impl_Point_1F_impl_points_1_lpsG) n⟩
def slices_ContainsFunc_impl_Point_impl_Point_1F_impl_points_1_X {α : Type} (n : Nat) : Ctx α := slices_ContainsFunc_impl_Point_impl_Point_1F_impl_points_1_XG slices_IndexFunc_impl_Point_impl_Point_1F_impl_points_1 n
def slices_ContainsFunc_impl_Point_impl_Point_1F_impl_points_1_Lt (np : Nat) (lent : List (Bool × Nat × Blk)) : Prop := np = 2 ∧ lent = []
def slices_ContainsFunc_impl_Point_impl_Point_1F_impl_points_1_body {α : Type} (F0 : Nat → (List (Int × Int)) → (Int → Option α) → Option α)  (k : Nat) (s : List (Int × Int)) (r0 : Bool → Option α) : Option α :=
  F0 k s fun v =>
  r0 (decide (0 ≤ v))
theorem slices_ContainsFunc_impl_Point_impl_Point_1F_impl_points_1_gen {α : Type} (F0 : Nat → (List (Int × Int)) → (Int → Option α) → Option α)  (n : Nat) (s : List (Int × Int)) (κ : Res → Option α) : evFn Try.prog (slices_ContainsFunc_impl_Point_impl_Point_1F_impl_points_1_XG F0 n) Try.f103 (((buildDs slices_ContainsFunc_impl_Point_impl_Point_1F_impl_points_1_sh [.rows .pt s]).map Prod.fst).getD []) κ = slices_ContainsFunc_impl_Point_impl_Point_1F_impl_points_1_body F0 n s (fun v1 => κ ⟨[.bool v1], []⟩) := by kernel_rfl
theorem slices_ContainsFunc_impl_Point_impl_Point_1F_impl_points_1_ev {α : Type} (n : Nat) (s : List (Int × Int)) (κ : Res → Option α) : evFn Try.prog (slices_ContainsFunc_impl_Point_impl_Point_1F_impl_points_1_X n) Try.f103 (((buildDs slices_ContainsFunc_impl_Point_impl_Point_1F_impl_points_1_sh [.rows .pt s]).map Prod.fst).getD []) κ = slices_ContainsFunc_impl_Point_impl_Point_1F_impl_points_1_run n [.rows .pt s] κ := (slices_ContainsFunc_impl_Point_impl_Point_1F_impl_points_1_gen slices_IndexFunc_impl_Point_impl_Point_1F_impl_points_1 n s κ).trans (by kernel_rfl)
theorem slices_ContainsFunc_impl_Point_impl_Point_1F_impl_points_1_en (s : List (Int × Int)) : (entry 0 (((buildDs slices_ContainsFunc_impl_Point_impl_Point_1F_impl_points_1_sh [.rows .pt s]).map Prod.fst).getD [])).map (fun x => (x.1.length, x.2.lent)) = some (2, []) := by kernel_rfl
theorem slices_ContainsFunc_impl_Point_impl_Point_1F_impl_points_1_good {α : Type} : ∀ n, GoodFn (α := α) Try.prog 103 (byShape slices_ContainsFunc_impl_Point_impl_Point_1F_impl_points_1_sh (slices_ContainsFunc_impl_Point_impl_Point_1F_impl_points_1_run n)) := by
  refine fn_good' Try.func103 (c := (Try.f103.body.getD .skip)) (by kernel_rfl) (by kernel_rfl) (by kernel_rfl) slices_ContainsFunc_impl_Point_impl_Point_1F_impl_points_1_C slices_ContainsFunc_impl_Point_impl_Point_1F_impl_points_1_M eqs slices_ContainsFunc_impl_Point_impl_Point_1F_impl_points_1_lps (fun n => tabC_good (List.forall_mem_cons.2 ⟨(slices_IndexFunc_impl_Point_impl_Point_1F_impl_points_1_good n), (fun _ h => absurd h List.not_mem_nil)⟩)) eqs_ok slices_ContainsFunc_impl_Point_impl_Point_1F_impl_points_1_Lt ?_ ?_ slices_ContainsFunc_impl_Point_impl_Point_1F_impl_points_1_sh slices_ContainsFunc_impl_Point_impl_Point_1F_impl_points_1_run ?_
  · exact (fun _ h => absurd h List.not_mem_nil)
  · exact (fun _ h => absurd h List.not_mem_nil)
  · intro n p κ r ds hd hr
    have hr0 := hr
    unfold slices_ContainsFunc_impl_Point_impl_Point_1F_impl_points_1_run slices_ContainsFunc_impl_Point_impl_Point_1F_impl_points_1_runG at hr
    split at hr
    · rw [← ds_of hd]
      exact ⟨en_of (slices_ContainsFunc_impl_Point_impl_Point_1F_impl_points_1_en _) ⟨rfl, rfl⟩, (slices_ContainsFunc_impl_Point_impl_Point_1F_impl_points_1_ev n _ κ).trans hr0⟩
    · cases hr

/-! loop.example/g01297/impl.points -/
def impl_points_sh : List SkD := [.sl 31 .pt]
def impl_points_runG {α : Type} (F : Nat → (List (Int × Int)) → (Bool → Option α) → Option α) (n : Nat) (p : List P1) (κ : Res → Option α) : Option α := match p with
  | [.rows .pt list] => F n list (fun v1 => κ ⟨[.bool v1], []⟩)
  | _ => none
def impl_points_run {α : Type} (n : Nat) (p : List P1) (κ : Res → Option α) : Option α := impl_points_runG impl_points n p κ
def impl_points_CG {α : Type} (F0 : Nat → (List (Int × Int)) → (Bool → Option α) → Option α) (n : Nat) : FuncId → List D → (Res → Option α) → Option α := tabC [(103, (byShape slices_ContainsFunc_impl_Point_impl_Point_1F_impl_points_1_sh (slices_ContainsFunc_impl_Point_impl_Point_1F_impl_points_1_runG F0 n)))]
def impl_points_C {α : Type} (n : Nat) : FuncId → List D → (Res → Option α) → Option α := impl_points_CG slices_ContainsFunc_impl_Point_impl_Point_1F_impl_points_1 n
def impl_points_M : FuncId → List Nat := tabM []
def impl_points_lpsG {α : Type}  : List (LoopT α) := []
def impl_points_lps {α : Type} : List (LoopT α) := impl_points_lpsG
def impl_points_XG {α : Type} (F0 : Nat → (List (Int × Int)) → (Bool → Option α) → Option α)  (n : Nat) : Ctx α := ⟨impl_points_CG F0 n, impl_points_M, eqs, lpOf (impl_points_lpsG) n⟩
def impl_points_X {α : Type} (n : Nat) : Ctx α := impl_points_XG slices_ContainsFunc_impl_Point_impl_Point_1F_impl_points_1 n
def impl_points_Lt (np : Nat) (lent : List (Bool × Nat × Blk)) : Prop := np = 1 ∧ lent = []
def impl_points_body {α : Type} (F0 : Nat → (List (Int × Int)) → (Bool → Option α) → Option α)  (k : Nat) (list : List (Int × Int)) (r0 : Bool → Option α) : Option α :=
  F0 k list fun v =>
  r0 (!v)
theorem impl_points_gen {α : Type} (F0 : Nat → (List (Int × Int)) → (Bool → Option α) → Option α)  (n : Nat) (list : List (Int × Int)) (κ : Res → Option α) : evFn Try.prog (impl_points_XG F0 n) Try.f68 (((buildDs impl_points_sh [.rows .pt list]).map Prod.fst).getD []) κ = impl_points_body F0 n list (fun v1 => κ ⟨[.bool v1], []⟩) := by kernel_rfl
theorem impl_points_ev {α : Type} (n : Nat) (list : List (Int × Int)) (κ : Res → Option α) : evFn Try.prog (impl_points_X n) Try.f68 (((buildDs impl_points_sh [.rows .pt list]).map Prod.fst).getD []) κ = impl_points_run n [.rows .pt list] κ := (impl_points_gen slices_ContainsFunc_impl_Point_impl_Point_1F_impl_points_1 n list κ).trans (by kernel_rfl)
theorem impl_points_en (list : List (Int × Int)) : (entry 0 (((buildDs impl_points_sh [.rows .pt list]).map Prod.fst).getD [])).map (fun x => (x.1.length, x.2.lent)) = some (1, []) := by kernel_rfl
theorem impl_points_good {α : Type} : ∀ n, GoodFn (α := α) Try.prog 68 (byShape impl_points_sh (impl_points_run n)) := by
  refine fn_good' Try.func68 (c := (Try.f68.body.getD .skip)) (by kernel_rfl) (by kernel_rfl) (by kernel_rfl) impl_points_C impl_points_M eqs impl_points_lps (fun n => tabC_good (List.forall_mem_cons.2 ⟨(slices_ContainsFunc_impl_Point_impl_Point_1F_impl_points_1_good n), (fun _ h => absurd h List.not_mem_nil)⟩)) eqs_ok impl_points_Lt ?_ ?_ impl_points_sh impl_points_run ?_
  · exact (fun _ h => absurd h List.not_mem_nil)
  · exact (fun _ h => absurd h List.not_mem_nil)
  · intro n p κ r ds hd hr
    have hr0 := hr
    unfold impl_points_run impl_points_runG at hr
    split at hr
    · rw [← ds_of hd]
      exact ⟨en_of (impl_points_en _) ⟨rfl, rfl⟩, (impl_points_ev n _ κ).trans hr0⟩
    · cases hr

/-! loop.example/g01297/impl.IsMatrix -/
def impl_IsMatrix_sh : List SkD := [.agg [.int .i64, .int .i64, .int .i64, .int .i64]]
def impl_IsMatrix_runG {α : Type} (F : Nat → Int → Int → Int → Int → (Bool → Option α) → Option α) (n : Nat) (p : List P1) (κ : Res → Option α) : Option α := match p with
  | [.int m, .int m1, .int m2, .int m3] => F n m m1 m2 m3 (fun v1 => κ ⟨[.bool v1], []⟩)
  | _ => none
def impl_IsMatrix_run {α : Type} (n : Nat) (p : List P1) (κ : Res → Option α) : Option α := impl_IsMatrix_runG impl_IsMatrix n p κ
def impl_IsMatrix_CG {α : Type} (F0 : Nat → (List (Int × Int)) → (Bool → Option α) → Option α) (n : Nat) : FuncId → List D → (Res → Option α) → Option α := tabC [(68, (byShape impl_points_sh (impl_points_runG F0 n)))]
def impl_IsMatrix_C {α : Type} (n : Nat) : FuncId → List D → (Res → Option α) → Option α := impl_IsMatrix_CG impl_points n
def impl_IsMatrix_M : FuncId → List Nat := tabM []
def impl_IsMatrix_lpsG {α : Type}  : List (LoopT α) := []
def impl_IsMatrix_lps {α : Type} : List (LoopT α) := impl_IsMatrix_lpsG
def impl_IsMatrix_XG {α : Type} (F0 : Nat → (List (Int × Int)) → (Bool → Option α) → Option α)  (n : Nat) : Ctx α := ⟨impl_IsMatrix_CG F0 n, impl_IsMatrix_M, eqs, lpOf (impl_IsMatrix_lpsG) n⟩
def impl_IsMatrix_X {α : Type} (n : Nat) : Ctx α := impl_IsMatrix_XG impl_points n
def impl_IsMatrix_Lt (np : Nat) (lent : List (Bool × Nat × Blk)) : Prop := np = 1 ∧ lent = []
def impl_IsMatrix_body {α : Type} (F0 : Nat → (List (Int × Int)) → (Bool → Option α) → Option α)  (k : Nat) (m : Int) (m1 : Int) (m2 : Int) (m3 : Int) (r0 : Bool → Option α) : Option α :=
  F0 k [(m, m1), (m2, m3)] fun v =>
  r0 v
theorem impl_IsMatrix_gen {α : Type} (F0 : Nat → (List (Int × Int)) → (Bool → Option α) → Option α)  (n : Nat) (m : Int) (m1 : Int) (m2 : Int) (m3 : Int) (κ : Res → Option α) : evFn Try.prog (impl_IsMatrix_XG F0 n) Try.f69 (((buildDs impl_IsMatrix_sh [.int m, .int m1, .int m2, .int m3]).map Prod.fst).getD []) κ = impl_IsMatrix_body F0 n m m1 m2 m3 (fun v1 => κ ⟨[.bool v1], []⟩) := by kernel_rfl
theorem impl_IsMatrix_ev {α : Type} (n : Nat) (m : Int) (m1 : Int) (m2 : Int) (m3 : Int) (κ : Res → Option α) : evFn Try.prog (impl_IsMatrix_X n) Try.f69 (((buildDs impl_IsMatrix_sh [.int m, .int m1, .int m2, .int m3]).map Prod.fst).getD []) κ = impl_IsMatrix_run n [.int m, .int m1, .int m2, .int m3] κ := (impl_IsMatrix_gen impl_points n m m1 m2 m3 κ).trans (by kernel_rfl)
theorem impl_IsMatrix_en (m : Int) (m1 : Int) (m2 : Int) (m3 : Int) : (entry 0 (((buildDs impl_IsMatrix_sh [.int m, .int m1, .int m2, .int m3]).map Prod.fst).getD [])).map (fun x => (x.1.length, x.2.lent)) = some (1, []) := by kernel_rfl
theorem impl_IsMatrix_good {α : Type} : ∀ n, GoodFn (α := α) Try.prog 69 (byShape impl_IsMatrix_sh (impl_IsMatrix_run n)) := by
  refine fn_good' Try.func69 (c := (Try.f69.body.getD .skip)) (by kernel_rfl) (by kernel_rfl) (by kernel_rfl) impl_IsMatrix_C impl_IsMatrix_M eqs impl_IsMatrix_lps (fun n => tabC_good (List.forall_mem_cons.2 ⟨(impl_points_good n), (fun _ h => absurd h List.not_mem_nil)⟩)) eqs_ok impl_IsMatrix_Lt ?_ ?_ impl_IsMatrix_sh impl_IsMatrix_run ?_
  · exact (fun _ h => absurd h List.not_mem_nil)
  · exact (fun _ h => absurd h List.not_mem_nil)
  · intro n p κ r ds hd hr
    have hr0 := hr
    unfold impl_IsMatrix_run impl_IsMatrix_runG at hr
    split at hr
    · rw [← ds_of hd]
      exact ⟨en_of (impl_IsMatrix_en _ _ _ _) ⟨rfl, rfl⟩, (impl_IsMatrix_ev n _ _ _ _ κ).trans hr0⟩
    · cases hr

/-! (loop.example/g01297/impl.Form).disc -/
def impl_Form_disc_sh : List SkD := [.agg [.int .i64, .int .i64, .int .i64]]
def impl_Form_disc_runG {α : Type} (F : Nat → Int → Int → Int → (Int → Option α) → Option α) (n : Nat) (p : List P1) (κ : Res → Option α) : Option α := match p with
  | [.int x, .int x1, .int x2] => F n x x1 x2 (fun v1 => κ ⟨[.int .i64 v1], []⟩)
  | _ => none
def impl_Form_disc_run {α : Type} (n : Nat) (p : List P1) (κ : Res → Option α) : Option α := impl_Form_disc_runG impl_Form_disc n p κ
def impl_Form_disc_CG {α : Type}  (n : Nat) : FuncId → List D → (Res → Option α) → Option α := tabC []
def impl_Form_disc_C {α : Type} (n : Nat) : FuncId → List D → (Res → Option α) → Option α := impl_Form_disc_CG n
def impl_Form_disc_M : FuncId → List Nat := tabM []
def impl_Form_disc_lpsG {α : Type}  : List (LoopT α) := []
def impl_Form_disc_lps {α : Type} : List (LoopT α) := impl_Form_disc_lpsG
def impl_Form_disc_XG {α : Type}   (n : Nat) : Ctx α := ⟨impl_Form_disc_CG n, impl_Form_disc_M, eqs, lpOf (impl_Form_disc_lpsG) n⟩
def impl_Form_disc_X {α : Type} (n : Nat) : Ctx α := impl_Form_disc_XG n
def impl_Form_disc_Lt (np : Nat) (lent : List (Bool × Nat × Blk)) : Prop := np = 1 ∧ lent = []
def impl_Form_disc_body {α : Type}   (k : Nat) (x : Int) (x1 : Int) (x2 : Int) (r0 : Int → Option α) : Option α :=
  r0 (w64 ((w64 (x1 * x1)) - (w64 ((w64 (4 * x)) * x2))))
theorem impl_Form_disc_gen {α : Type}   (n : Nat) (x : Int) (x1 : Int) (x2 : Int) (κ : Res → Option α) : evFn Try.prog (impl_Form_disc_XG n) Try.f90 (((buildDs impl_Form_disc_sh [.int x, .int x1, .int x2]).map Prod.fst).getD []) κ = impl_Form_disc_body n x x1 x2 (fun v1 => κ ⟨[.int .i64 v1], []⟩) := by kernel_rfl
theorem impl_Form_disc_ev {α : Type} (n : Nat) (x : Int) (x1 : Int) (x2 : Int) (κ : Res → Option α) : evFn Try.prog (impl_Form_disc_X n) Try.f90 (((buildDs impl_Form_disc_sh [.int x, .int x1, .int x2]).map Prod.fst).getD []) κ = impl_Form_disc_run n [.int x, .int x1, .int x2] κ := (impl_Form_disc_gen n x x1 x2 κ).trans (by kernel_rfl)
theorem impl_Form_disc_en (x : Int) (x1 : Int) (x2 : Int) : (entry 0 (((buildDs impl_Form_disc_sh [.int x, .int x1, .int x2]).map Prod.fst).getD [])).map (fun x => (x.1.length, x.2.lent)) = some (1, []) := by kernel_rfl
theorem impl_Form_disc_good {α : Type} : ∀ n, GoodFn (α := α) Try.prog 90 (byShape impl_Form_disc_sh (impl_Form_disc_run n)) := by
  refine fn_good' Try.func90 (c := (Try.f90.body.getD .skip)) (by kernel_rfl) (by kernel_rfl) (by kernel_rfl) impl_Form_disc_C impl_Form_disc_M eqs impl_Form_disc_lps (fun n => tabC_good (fun _ h => absurd h List.not_mem_nil)) eqs_ok impl_Form_disc_Lt ?_ ?_ impl_Form_disc_sh impl_Form_disc_run ?_
  · exact (fun _ h => absurd h List.not_mem_nil)
  · exact (fun _ h => absurd h List.not_mem_nil)
  · intro n p κ r ds hd hr
    have hr0 := hr
    unfold impl_Form_disc_run impl_Form_disc_runG at hr
    split at hr
    · rw [← ds_of hd]
      exact ⟨en_of (impl_Form_disc_en _ _ _) ⟨rfl, rfl⟩, (impl_Form_disc_ev n _ _ _ κ).trans hr0⟩
    · cases hr

/-! loop.example/g01297/impl.root -/
def impl_root_sh : List SkD := [.int .i64]
def impl_root_runG {α : Type} (F : Nat → Int → (Int → Option α) → Option α) (n : Nat) (p : List P1) (κ : Res → Option α) : Option α := match p with
  | [.int d] => F n d (fun v1 => κ ⟨[.int .i64 v1], []⟩)
  | _ => none
def impl_root_run {α : Type} (n : Nat) (p : List P1) (κ : Res → Option α) : Option α := impl_root_runG impl_root n p κ
def impl_root_CG {α : Type}  (n : Nat) : FuncId → List D → (Res → Option α) → Option α := tabC []
def impl_root_C {α : Type} (n : Nat) : FuncId → List D → (Res → Option α) → Option α := impl_root_CG n
def impl_root_M : FuncId → List Nat := tabM []
def impl_root_t2 : Tpl := ⟨[.int .i64, .any, .any, .int .i64, .any, .any, .any, .any, .any, .any, .any, .any, .any, .any], [], []⟩
def impl_root_uG2 {α : Type} (G : Nat → Int → Int → (Int → Int → Option α) → (Int → Option α) → Option α) (n : Nat) (p : List P1) (brk : Nat → List P1 → Option α) (ret : Res → Option α) : Option α := match p with
  | [.int d1, .int w] => G n d1 w (fun d1 w => brk 0 [.int d1, .int w]) (fun v1 => ret ⟨[.int .i64 v1], []⟩)
  | _ => none
def impl_root_u2 {α : Type} (n : Nat) (p : List P1) (brk : Nat → List P1 → Option α) (ret : Res → Option α) : Option α := impl_root_uG2 impl_root_l2 n p brk ret
def impl_root_lpsG {α : Type} (G2 : Nat → Int → Int → (Int → Int → Option α) → (Int → Option α) → Option α) : List (LoopT α) := [⟨2, impl_root_t2, impl_root_uG2 G2⟩]
def impl_root_lps {α : Type} : List (LoopT α) := impl_root_lpsG impl_root_l2
def impl_root_XG {α : Type}  (G2 : Nat → Int → Int → (Int → Int → Option α) → (Int → Option α) → Option α) (n : Nat) : Ctx α := ⟨impl_root_CG n, impl_root_M, eqs, lpOf (impl_root_lpsG G2) n⟩
def impl_root_X {α : Type} (n : Nat) : Ctx α := impl_root_XG impl_root_l2 n
def impl_root_Lt (np : Nat) (lent : List (Bool × Nat × Blk)) : Prop := np = 1 ∧ lent = []
def impl_root_lb2 {α : Type}  (G2 : Nat → Int → Int → (Int → Int → Option α) → (Int → Option α) → Option α) (k : Nat) (d1 : Int) (w : Int) (b0 : Int → Int → Option α) (r0 : Int → Option α) : Option α :=
  bif decide ((w64 ((w64 (w + 1)) * (w64 (w + 1)))) ≤ d1) then
    G2 k d1 (w64 (w + 1)) b0 r0
  else
    b0 d1 w
theorem impl_root_l2_gen {α : Type}  (G2 : Nat → Int → Int → (Int → Int → Option α) → (Int → Option α) → Option α) (n : Nat) (d1 : Int) (w : Int) (brk : Nat → List P1 → Option α) (ret : Res → Option α) : ev ((impl_root_XG G2 n).env Try.prog Try.f91 1 []) (findLoop (loopsIn (Try.f91.body.getD .skip)) 2) ((impl_root_t2.build [.int d1, .int w]).getD ⟨[], []⟩) (roundK (1 * 64) impl_root_t2 (fun q => impl_root_uG2 G2 n q brk ret) brk ret) = impl_root_lb2 G2 n d1 w (fun d1 w => brk 0 [.int d1, .int w]) (fun v1 => ret ⟨[.int .i64 v1], []⟩) := by kernel_rfl
theorem impl_root_l2_ev {α : Type} (n : Nat) (d1 : Int) (w : Int) (brk : Nat → List P1 → Option α) (ret : Res → Option α) : ev ((impl_root_X n).env Try.prog Try.f91 1 []) (findLoop (loopsIn (Try.f91.body.getD .skip)) 2) ((impl_root_t2.build [.int d1, .int w]).getD ⟨[], []⟩) (roundK (1 * 64) impl_root_t2 (fun q => impl_root_u2 n q brk ret) brk ret) = impl_root_u2 (n + 1) [.int d1, .int w] brk ret := (impl_root_l2_gen impl_root_l2 n d1 w brk ret).trans (by kernel_rfl)
def impl_root_body {α : Type}  (G2 : Nat → Int → Int → (Int → Int → Option α) → (Int → Option α) → Option α) (k : Nat) (d : Int) (r0 : Int → Option α) : Option α :=
  G2 k d 0
    (fun d2 w1 =>
      r0 w1)
    r0
theorem impl_root_gen {α : Type}  (G2 : Nat → Int → Int → (Int → Int → Option α) → (Int → Option α) → Option α) (n : Nat) (d : Int) (κ : Res → Option α) : evFn Try.prog (impl_root_XG G2 n) Try.f91 (((buildDs impl_root_sh [.int d]).map Prod.fst).getD []) κ = impl_root_body G2 n d (fun v1 => κ ⟨[.int .i64 v1], []⟩) := by kernel_rfl
theorem impl_root_ev {α : Type} (n : Nat) (d : Int) (κ : Res → Option α) : evFn Try.prog (impl_root_X n) Try.f91 (((buildDs impl_root_sh [.int d]).map Prod.fst).getD []) κ = impl_root_run n [.int d] κ := (impl_root_gen impl_root_l2 n d κ).trans (by kernel_rfl)
theorem impl_root_en (d : Int) : (entry 0 (((buildDs impl_root_sh [.int d]).map Prod.fst).getD [])).map (fun x => (x.1.length, x.2.lent)) = some (1, []) := by kernel_rfl
theorem impl_root_good {α : Type} : ∀ n, GoodFn (α := α) Try.prog 91 (byShape impl_root_sh (impl_root_run n)) := by
  refine fn_good' Try.func91 (c := (Try.f91.body.getD .skip)) (by kernel_rfl) (by kernel_rfl) (by kernel_rfl) impl_root_C impl_root_M eqs impl_root_lps (fun n => tabC_good (fun _ h => absurd h List.not_mem_nil)) eqs_ok impl_root_Lt ?_ ?_ impl_root_sh impl_root_run ?_
  · refine List.forall_mem_cons.2 ⟨?_, (fun _ h => absurd h List.not_mem_nil)⟩
    · intro p brk ret; show impl_root_u2 0 p brk ret = none; unfold impl_root_u2 impl_root_uG2; split <;> rfl
  · refine List.forall_mem_cons.2 ⟨?_, (fun _ h => absurd h List.not_mem_nil)⟩
    · intro np lent hL n p brk ret st r hb hr
      obtain ⟨rfl, rfl⟩ := hL
      rw [← tpl_of hb]
      change impl_root_u2 (n + 1) p brk ret = some r at hr
      have hr0 := hr
      unfold impl_root_u2 impl_root_uG2 at hr
      split at hr
      · exact (impl_root_l2_ev n _ _ brk ret).trans hr0
      · cases hr
  · intro n p κ r ds hd hr
    have hr0 := hr
    unfold impl_root_run impl_root_runG at hr
    split at hr
    · rw [← ds_of hd]
      exact ⟨en_of (impl_root_en _) ⟨rfl, rfl⟩, (impl_root_ev n _ κ).trans hr0⟩
    · cases hr

/-! loop.example/g01297/impl.discOk -/
def impl_discOk_sh : List SkD := [.int .i64]
def impl_discOk_runG {α : Type} (F : Nat → Int → (Bool → Option α) → Option α) (n : Nat) (p : List P1) (κ : Res → Option α) : Option α := match p with
  | [.int d] => F n d (fun v1 => κ ⟨[.bool v1], []⟩)
  | _ => none
def impl_discOk_run {α : Type} (n : Nat) (p : List P1) (κ : Res → Option α) : Option α := impl_discOk_runG impl_discOk n p κ
def impl_discOk_CG {α : Type} (F0 : Nat → Int → Int → Int → (Bool → Option α) → Option α) (F1 : Nat → Int → (Int → Option α) → Option α) (n : Nat) : FuncId → List D → (Res → Option α) → Option α := tabC [(92, (byShape impl_in_sh (impl_in_runG F0 n))), (91, (byShape impl_root_sh (impl_root_runG F1 n)))]
def impl_discOk_C {α : Type} (n : Nat) : FuncId → List D → (Res → Option α) → Option α := impl_discOk_CG impl_in impl_root n
def impl_discOk_M : FuncId → List Nat := tabM []
def impl_discOk_lpsG {α : Type}  : List (LoopT α) := []
def impl_discOk_lps {α : Type} : List (LoopT α) := impl_discOk_lpsG
def impl_discOk_XG {α : Type} (F0 : Nat → Int → Int → Int → (Bool → Option α) → Option α) (F1 : Nat → Int → (Int → Option α) → Option α)  (n : Nat) : Ctx α := ⟨impl_discOk_CG F0 F1 n, impl_discOk_M, eqs, lpOf (impl_discOk_lpsG) n⟩
def impl_discOk_X {α : Type} (n : Nat) : Ctx α := impl_discOk_XG impl_in impl_root n
def impl_discOk_Lt (np : Nat) (lent : List (Bool × Nat × Blk)) : Prop := np = 1 ∧ lent = []
def impl_discOk_body {α : Type} (F0 : Nat → Int → Int → Int → (Bool → Option α) → Option α) (F1 : Nat → Int → (Int → Option α) → Option α)  (k : Nat) (d : Int) (r0 : Bool → Option α) : Option α :=
  F0 k d 1 4000 fun v =>
  bif v then
    F1 k d fun v1 =>
    F1 k d fun v2 =>
    r0 (!decide ((w64 (v1 * v2)) = d))
  else
    r0 false
theorem impl_discOk_gen {α : Type} (F0 : Nat → Int → Int → Int → (Bool → Option α) → Option α) (F1 : Nat → Int → (Int → Option α) → Option α)  (n : Nat) (d : Int) (κ : Res → Option α) : evFn Try.prog (impl_discOk_XG F0 F1 n) Try.f89 (((buildDs impl_discOk_sh [.int d]).map Prod.fst).getD []) κ = impl_discOk_body F0 F1 n d (fun v1 => κ ⟨[.bool v1], []⟩) := by kernel_rfl
theorem impl_discOk_ev {α : Type} (n : Nat) (d : Int) (κ : Res → Option α) : evFn Try.prog (impl_discOk_X n) Try.f89 (((buildDs impl_discOk_sh [.int d]).map Prod.fst).getD []) κ = impl_discOk_run n [.int d] κ := (impl_discOk_gen impl_in impl_root n d κ).trans (by kernel_rfl)
theorem impl_discOk_en (d : Int) : (entry 0 (((buildDs impl_discOk_sh [.int d]).map Prod.fst).getD [])).map (fun x => (x.1.length, x.2.lent)) = some (1, []) := by kernel_rfl
theorem impl_discOk_good {α : Type} : ∀ n, GoodFn (α := α) Try.prog 89 (byShape impl_discOk_sh (impl_discOk_run n)) := by
  refine fn_good' Try.func89 (c := (Try.f89.body.getD .skip)) (by kernel_rfl) (by kernel_rfl) (by kernel_rfl) impl_discOk_C impl_discOk_M eqs impl_discOk_lps (fun n => tabC_good (List.forall_mem_cons.2 ⟨(impl_in_good n), (List.forall_mem_cons.2 ⟨(impl_root_good n), (fun _ h => absurd h List.not_mem_nil)⟩)⟩)) eqs_ok impl_discOk_Lt ?_ ?_ impl_discOk_sh impl_discOk_run ?_
  · exact (fun _ h => absurd h List.not_mem_nil)
  · exact (fun _ h => absurd h List.not_mem_nil)
  · intro n p κ r ds hd hr
    have hr0 := hr
    unfold impl_discOk_run impl_discOk_runG at hr
    split at hr
    · rw [← ds_of hd]
      exact ⟨en_of (impl_discOk_en _) ⟨rfl, rfl⟩, (impl_discOk_ev n _ κ).trans hr0⟩
    · cases hr

/-! loop.example/g01297/impl.IsForm -/
def impl_IsForm_sh : List SkD := [.agg [.int .i64, .int .i64, .int .i64]]
def impl_IsForm_runG {α : Type} (F : Nat → Int → Int → Int → (Bool → Option α) → Option α) (n : Nat) (p : List P1) (κ : Res → Option α) : Option α := match p with
  | [.int x, .int x1, .int x2] => F n x x1 x2 (fun v1 => κ ⟨[.bool v1], []⟩)
  | _ => none
def impl_IsForm_run {α : Type} (n : Nat) (p : List P1) (κ : Res → Option α) : Option α := impl_IsForm_runG impl_IsForm n p κ
def impl_IsForm_CG {α : Type} (F0 : Nat → Int → (Bool → Option α) → Option α) (F1 : Nat → Int → Int → Int → (Int → Option α) → Option α) (F2 : Nat → Int → (Bool → Option α) → Option α) (n : Nat) : FuncId → List D → (Res → Option α) → Option α := tabC [(88, (byShape impl_isCoord_sh (impl_isCoord_runG F0 n))), (90, (byShape impl_Form_disc_sh (impl_Form_disc_runG F1 n))), (89, (byShape impl_discOk_sh (impl_discOk_runG F2 n)))]
def impl_IsForm_C {α : Type} (n : Nat) : FuncId → List D → (Res → Option α) → Option α := impl_IsForm_CG impl_isCoord impl_Form_disc impl_discOk n
def impl_IsForm_M : FuncId → List Nat := tabM []
def impl_IsForm_lpsG {α : Type}  : List (LoopT α) := []
def impl_IsForm_lps {α : Type} : List (LoopT α) := impl_IsForm_lpsG
def impl_IsForm_XG {α : Type} (F0 : Nat → Int → (Bool → Option α) → Option α) (F1 : Nat → Int → Int → Int → (Int → Option α) → Option α) (F2 : Nat → Int → (Bool → Option α) → Option α)  (n : Nat) : Ctx α := ⟨impl_IsForm_CG F0 F1 F2 n, impl_IsForm_M, eqs, lpOf (impl_IsForm_lpsG) n⟩
def impl_IsForm_X {α : Type} (n : Nat) : Ctx α := impl_IsForm_XG impl_isCoord impl_Form_disc impl_discOk n
def impl_IsForm_Lt (np : Nat) (lent : List (Bool × Nat × Blk)) : Prop := np = 1 ∧ lent = []
def impl_IsForm_body {α : Type} (F0 : Nat → Int → (Bool → Option α) → Option α) (F1 : Nat → Int → Int → Int → (Int → Option α) → Option α) (F2 : Nat → Int → (Bool → Option α) → Option α)  (k : Nat) (x : Int) (x1 : Int) (x2 : Int) (r0 : Bool → Option α) : Option α :=
  F0 k x fun v =>
  bif v then
    F0 k x1 fun v1 =>
    bif v1 then
      F0 k x2 fun v2 =>
      bif v2 then
        F1 k x x1 x2 fun v3 =>
        F2 k v3 fun v4 =>
        r0 v4
      else
        r0 false
    else
      r0 false
  else
    r0 false
theorem impl_IsForm_gen {α : Type} (F0 : Nat → Int → (Bool → Option α) → Option α) (F1 : Nat → Int → Int → Int → (Int → Option α) → Option α) (F2 : Nat → Int → (Bool → Option α) → Option α)  (n : Nat) (x : Int) (x1 : Int) (x2 : Int) (κ : Res → Option α) : evFn Try.prog (impl_IsForm_XG F0 F1 F2 n) Try.f52 (((buildDs impl_IsForm_sh [.int x, .int x1, .int x2]).map Prod.fst).getD []) κ = impl_IsForm_body F0 F1 F2 n x x1 x2 (fun v1 => κ ⟨[.bool v1], []⟩) := by kernel_rfl
theorem impl_IsForm_ev {α : Type} (n : Nat) (x : Int) (x1 : Int) (x2 : Int) (κ : Res → Option α) : evFn Try.prog (impl_IsForm_X n) Try.f52 (((buildDs impl_IsForm_sh [.int x, .int x1, .int x2]).map Prod.fst).getD []) κ = impl_IsForm_run n [.int x, .int x1, .int x2] κ := (impl_IsForm_gen impl_isCoord impl_Form_disc impl_discOk n x x1 x2 κ).trans (by kernel_rfl)
theorem impl_IsForm_en (x : Int) (x1 : Int) (x2 : Int) : (entry 0 (((buildDs impl_IsForm_sh [.int x, .int x1, .int x2]).map Prod.fst).getD [])).map (fun x => (x.1.length, x.2.lent)) = some (1, []) := by kernel_rfl
theorem impl_IsForm_good {α : Type} : ∀ n, GoodFn (α := α) Try.prog 52 (byShape impl_IsForm_sh (impl_IsForm_run n)) := by
  refine fn_good' Try.func52 (c := (Try.f52.body.getD .skip)) (by kernel_rfl) (by kernel_rfl) (by kernel_rfl) impl_IsForm_C impl_IsForm_M eqs impl_IsForm_lps (fun n => tabC_good (List.forall_mem_cons.2 ⟨(impl_isCoord_good n), (List.forall_mem_cons.2 ⟨(impl_Form_disc_good n), (List.forall_mem_cons.2 ⟨(impl_discOk_good n), (fun _ h => absurd h List.not_mem_nil)⟩)⟩)⟩)) eqs_ok impl_IsForm_Lt ?_ ?_ impl_IsForm_sh impl_IsForm_run ?_
  · exact (fun _ h => absurd h List.not_mem_nil)
  · exact (fun _ h => absurd h List.not_mem_nil)
  · intro n p κ r ds hd hr
    have hr0 := hr
    unfold impl_IsForm_run impl_IsForm_runG at hr
    split at hr
    · rw [← ds_of hd]
      exact ⟨en_of (impl_IsForm_en _ _ _) ⟨rfl, rfl⟩, (impl_IsForm_ev n _ _ _ κ).trans hr0⟩
    · cases hr

/-! loop.example/g01297/impl.IsDesk -/
def impl_IsDesk_sh : List SkD := [.agg [.int .i64, .int .i64, .int .i64, .int .i64, .int .i64, .int .i64, .int .i64, .int .i64, .int .i64, .int .i64, .int .i64]]
def impl_IsDesk_runG {α : Type} (F : Nat → Int → Int → Int → Int → Int → Int → Int → Int → Int → Int → Int → (Bool → Option α) → Option α) (n : Nat) (p : List P1) (κ : Res → Option α) : Option α := match p with
  | [.int d, .int d1, .int d2, .int d3, .int d4, .int d5, .int d6, .int d7, .int d8, .int d9, .int d10] => F n d d1 d2 d3 d4 d5 d6 d7 d8 d9 d10 (fun v1 => κ ⟨[.bool v1], []⟩)
  | _ => none
def impl_IsDesk_run {α : Type} (n : Nat) (p : List P1) (κ : Res → Option α) : Option α := impl_IsDesk_runG impl_IsDesk n p κ
def impl_IsDesk_CG {α : Type} (F0 : Nat → (List (Int × Int)) → (Bool → Option α) → Option α) (F1 : Nat → Int → Int → Int → Int → (Bool → Option α) → Option α) (F2 : Nat → Int → Int → Int → (Bool → Option α) → Option α) (n : Nat) : FuncId → List D → (Res → Option α) → Option α := tabC [(68, (byShape impl_points_sh (impl_points_runG F0 n))), (69, (byShape impl_IsMatrix_sh (impl_IsMatrix_runG F1 n))), (52, (byShape impl_IsForm_sh (impl_IsForm_runG F2 n)))]
def impl_IsDesk_C {α : Type} (n : Nat) : FuncId → List D → (Res → Option α) → Option α := impl_IsDesk_CG impl_points impl_IsMatrix impl_IsForm n
def impl_IsDesk_M : FuncId → List Nat := tabM []
def impl_IsDesk_lpsG {α : Type}  : List (LoopT α) := []
def impl_IsDesk_lps {α : Type} : List (LoopT α) := impl_IsDesk_lpsG
def impl_IsDesk_XG {α : Type} (F0 : Nat → (List (Int × Int)) → (Bool → Option α) → Option α) (F1 : Nat → Int → Int → Int → Int → (Bool → Option α) → Option α) (F2 : Nat → Int → Int → Int → (Bool → Option α) → Option α)  (n : Nat) : Ctx α := ⟨impl_IsDesk_CG F0 F1 F2 n, impl_IsDesk_M, eqs, lpOf (impl_IsDesk_lpsG) n⟩
def impl_IsDesk_X {α : Type} (n : Nat) : Ctx α := impl_IsDesk_XG impl_points impl_IsMatrix impl_IsForm n
def impl_IsDesk_Lt (np : Nat) (lent : List (Bool × Nat × Blk)) : Prop := np = 1 ∧ lent = []
def impl_IsDesk_body {α : Type} (F0 : Nat → (List (Int × Int)) → (Bool → Option α) → Option α) (F1 : Nat → Int → Int → Int → Int → (Bool → Option α) → Option α) (F2 : Nat → Int → Int → Int → (Bool → Option α) → Option α)  (k : Nat) (d : Int) (d1 : Int) (d2 : Int) (d3 : Int) (d4 : Int) (d5 : Int) (d6 : Int) (d7 : Int) (d8 : Int) (d9 : Int) (d10 : Int) (r0 : Bool → Option α) : Option α :=
  F0 k [(d, d1), (d2, d3)] fun v =>
  bif v then
    F1 k d4 d5 d6 d7 fun v1 =>
    bif v1 then
      F2 k d8 d9 d10 fun v2 =>
      r0 v2
    else
      r0 false
  else
    r0 false
theorem impl_IsDesk_gen {α : Type} (F0 : Nat → (List (Int × Int)) → (Bool → Option α) → Option α) (F1 : Nat → Int → Int → Int → Int → (Bool → Option α) → Option α) (F2 : Nat → Int → Int → Int → (Bool → Option α) → Option α)  (n : Nat) (d : Int) (d1 : Int) (d2 : Int) (d3 : Int) (d4 : Int) (d5 : Int) (d6 : Int) (d7 : Int) (d8 : Int) (d9 : Int) (d10 : Int) (κ : Res → Option α) : evFn Try.prog (impl_IsDesk_XG F0 F1 F2 n) Try.f30 (((buildDs impl_IsDesk_sh [.int d, .int d1, .int d2, .int d3, .int d4, .int d5, .int d6, .int d7, .int d8, .int d9, .int d10]).map Prod.fst).getD []) κ = impl_IsDesk_body F0 F1 F2 n d d1 d2 d3 d4 d5 d6 d7 d8 d9 d10 (fun v1 => κ ⟨[.bool v1], []⟩) := by kernel_rfl
theorem impl_IsDesk_ev {α : Type} (n : Nat) (d : Int) (d1 : Int) (d2 : Int) (d3 : Int) (d4 : Int) (d5 : Int) (d6 : Int) (d7 : Int) (d8 : Int) (d9 : Int) (d10 : Int) (κ : Res → Option α) : evFn Try.prog (impl_IsDesk_X n) Try.f30 (((buildDs impl_IsDesk_sh [.int d, .int d1, .int d2, .int d3, .int d4, .int d5, .int d6, .int d7, .int d8, .int d9, .int d10]).map Prod.fst).getD []) κ = impl_IsDesk_run n [.int d, .int d1, .int d2, .int d3, .int d4, .int d5, .int d6, .int d7, .int d8, .int d9, .int d10] κ := (impl_IsDesk_gen impl_points impl_IsMatrix impl_IsForm n d d1 d2 d3 d4 d5 d6 d7 d8 d9 d10 κ).trans (by kernel_rfl)
theorem impl_IsDesk_en (d : Int) (d1 : Int) (d2 : Int) (d3 : Int) (d4 : Int) (d5 : Int) (d6 : Int) (d7 : Int) (d8 : Int) (d9 : Int) (d10 : Int) : (entry 0 (((buildDs impl_IsDesk_sh [.int d, .int d1, .int d2, .int d3, .int d4, .int d5, .int d6, .int d7, .int d8, .int d9, .int d10]).map Prod.fst).getD [])).map (fun x => (x.1.length, x.2.lent)) = some (1, []) := by kernel_rfl
theorem impl_IsDesk_good {α : Type} : ∀ n, GoodFn (α := α) Try.prog 30 (byShape impl_IsDesk_sh (impl_IsDesk_run n)) := by
  refine fn_good' Try.func30 (c := (Try.f30.body.getD .skip)) (by kernel_rfl) (by kernel_rfl) (by kernel_rfl) impl_IsDesk_C impl_IsDesk_M eqs impl_IsDesk_lps (fun n => tabC_good (List.forall_mem_cons.2 ⟨(impl_points_good n), (List.forall_mem_cons.2 ⟨(impl_IsMatrix_good n), (List.forall_mem_cons.2 ⟨(impl_IsForm_good n), (fun _ h => absurd h List.not_mem_nil)⟩)⟩)⟩)) eqs_ok impl_IsDesk_Lt ?_ ?_ impl_IsDesk_sh impl_IsDesk_run ?_
  · exact (fun _ h => absurd h List.not_mem_nil)
  · exact (fun _ h => absurd h List.not_mem_nil)
  · intro n p κ r ds hd hr
    have hr0 := hr
    unfold impl_IsDesk_run impl_IsDesk_runG at hr
    split at hr
    · rw [← ds_of hd]
      exact ⟨en_of (impl_IsDesk_en _ _ _ _ _ _ _ _ _ _ _) ⟨rfl, rfl⟩, (impl_IsDesk_ev n _ _ _ _ _ _ _ _ _ _ _ κ).trans hr0⟩
    · cases hr

end Go.Proofs.Ytegnnbhphgeocaa
