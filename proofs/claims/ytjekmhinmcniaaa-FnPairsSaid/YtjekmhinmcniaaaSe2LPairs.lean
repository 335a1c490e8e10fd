/- The program's functions hold to their readings without memory: printed by a program of ours. -/
import Derived.Test.YtjekmhinmcniaaaSe1LPairs
namespace Go.Proofs.Ytjekmhinmcniaaa
open Go Go.Ev Go.Sh Go.Proofs

/-! loop.example/g01297/spec.l01Is -/
def spec_l01Is_sh : List SkD := [.agg [.int .i64, .int .i64]]
def spec_l01Is_runG {α : Type} (F : Nat → Int → Int → (Bool → Option α) → Option α) (n : Nat) (p : List P1) (κ : Res → Option α) : Option α := match p with
  | [.int a, .int a1] => F n a a1 (fun v1 => κ ⟨[.bool v1], []⟩)
  | _ => none
def spec_l01Is_run {α : Type} (n : Nat) (p : List P1) (κ : Res → Option α) : Option α := spec_l01Is_runG spec_l01Is n p κ
def spec_l01Is_CG {α : Type} (F0 : Nat → Int → (Bool → Option α) → Option α) (n : Nat) : FuncId → List D → (Res → Option α) → Option α := tabC [(244, (byShape spec_l01Fits_sh (spec_l01Fits_runG F0 n)))]
def spec_l01Is_C {α : Type} (n : Nat) : FuncId → List D → (Res → Option α) → Option α := spec_l01Is_CG spec_l01Fits n
def spec_l01Is_M : FuncId → List Nat := tabM []
def spec_l01Is_lpsG {α : Type}  : List (LoopT α) := []
def spec_l01Is_lps {α : Type} : List (LoopT α) := spec_l01Is_lpsG
def spec_l01Is_XG {α : Type} (F0 : Nat → Int → (Bool → Option α) → Option α)  (n : Nat) : Ctx α := ⟨spec_l01Is_CG F0 n, spec_l01Is_M, eqs, lpOf (spec_l01Is_lpsG) n⟩
def spec_l01Is_X {α : Type} (n : Nat) : Ctx α := spec_l01Is_XG spec_l01Fits n
def spec_l01Is_Lt (np : Nat) (lent : List (Bool × Nat × Blk)) : Prop := np = 1 ∧ lent = []
def spec_l01Is_body {α : Type} (F0 : Nat → Int → (Bool → Option α) → Option α)  (k : Nat) (a : Int) (a1 : Int) (r0 : Bool → Option α) : Option α :=
  F0 k a fun v =>
  bif v then
    F0 k a1 fun v1 =>
    r0 v1
  else
    r0 false
theorem spec_l01Is_gen {α : Type} (F0 : Nat → Int → (Bool → Option α) → Option α)  (n : Nat) (a : Int) (a1 : Int) (κ : Res → Option α) : evFn Try.prog (spec_l01Is_XG F0 n) Try.f165 (((buildDs spec_l01Is_sh [.int a, .int a1]).map Prod.fst).getD []) κ = spec_l01Is_body F0 n a a1 (fun v1 => κ ⟨[.bool v1], []⟩) := by kernel_rfl
theorem spec_l01Is_eq {α : Type} (n : Nat) (a : Int) (a1 : Int) (r0 : Bool → Option α) : spec_l01Is_body spec_l01Fits n a a1 r0 = spec_l01Is n a a1 r0 := (spec_l01Is_body.eq_1 spec_l01Fits n a a1 r0).trans (spec_l01Is.eq_1 n a a1 r0).symm
theorem spec_l01Is_rn {α : Type} (F : Nat → Int → Int → (Bool → Option α) → Option α) (n : Nat) (a : Int) (a1 : Int) (κ : Res → Option α) : spec_l01Is_runG F n [.int a, .int a1] κ = F n a a1 (fun v1 => κ ⟨[.bool v1], []⟩) := rfl
theorem spec_l01Is_ev {α : Type} (n : Nat) (a : Int) (a1 : Int) (κ : Res → Option α) : evFn Try.prog (spec_l01Is_X n) Try.f165 (((buildDs spec_l01Is_sh [.int a, .int a1]).map Prod.fst).getD []) κ = spec_l01Is_run n [.int a, .int a1] κ := (spec_l01Is_gen spec_l01Fits n a a1 κ).trans ((spec_l01Is_eq n a a1 (fun v1 => κ ⟨[.bool v1], []⟩)).trans ((spec_l01Is_run.eq_1 n [.int a, .int a1] κ).trans (spec_l01Is_rn spec_l01Is n a a1 κ)).symm)
theorem spec_l01Is_en (a : Int) (a1 : Int) : (entry 0 (((buildDs spec_l01Is_sh [.int a, .int a1]).map Prod.fst).getD [])).map (fun x => (x.1.length, x.2.lent)) = some (1, []) := by kernel_rfl
theorem spec_l01Is_good {α : Type} : ∀ n, GoodFn (α := α) Try.prog 165 (byShape spec_l01Is_sh (spec_l01Is_run n)) := by
  refine fn_good' Try.func165 (c := (Try.f165.body.getD .skip)) (by kernel_rfl) (by kernel_rfl) (by kernel_rfl) spec_l01Is_C spec_l01Is_M eqs spec_l01Is_lps (fun n => tabC_good (List.forall_mem_cons.2 ⟨(spec_l01Fits_good n), (fun _ h => absurd h List.not_mem_nil)⟩)) eqs_ok spec_l01Is_Lt ?_ ?_ spec_l01Is_sh spec_l01Is_run ?_
  · exact (fun _ h => absurd h List.not_mem_nil)
  · exact (fun _ h => absurd h List.not_mem_nil)
  · intro n p κ r ds hd hr
    have hr0 := hr
    unfold spec_l01Is_run spec_l01Is_runG at hr
    split at hr
    · rw [← ds_of hd]
      exact ⟨en_of (spec_l01Is_en _ _) ⟨rfl, rfl⟩, (spec_l01Is_ev n _ _ κ).trans hr0⟩
    · cases hr

/-! loop.example/g01297/spec.l01Det -/
def spec_l01Det_sh : List SkD := [.agg [.int .i64, .int .i64], .agg [.int .i64, .int .i64]]
def spec_l01Det_runG {α : Type} (F : Nat → Int → Int → Int → Int → (Int → Option α) → Option α) (n : Nat) (p : List P1) (κ : Res → Option α) : Option α := match p with
  | [.int a, .int a1, .int b_, .int b_1] => F n a a1 b_ b_1 (fun v1 => κ ⟨[.int .i64 v1], []⟩)
  | _ => none
def spec_l01Det_run {α : Type} (n : Nat) (p : List P1) (κ : Res → Option α) : Option α := spec_l01Det_runG spec_l01Det n p κ
def spec_l01Det_CG {α : Type}  (n : Nat) : FuncId → List D → (Res → Option α) → Option α := tabC []
def spec_l01Det_C {α : Type} (n : Nat) : FuncId → List D → (Res → Option α) → Option α := spec_l01Det_CG n
def spec_l01Det_M : FuncId → List Nat := tabM []
def spec_l01Det_lpsG {α : Type}  : List (LoopT α) := []
def spec_l01Det_lps {α : Type} : List (LoopT α) := spec_l01Det_lpsG
def spec_l01Det_XG {α : Type}   (n : Nat) : Ctx α := ⟨spec_l01Det_CG n, spec_l01Det_M, eqs, lpOf (spec_l01Det_lpsG) n⟩
def spec_l01Det_X {α : Type} (n : Nat) : Ctx α := spec_l01Det_XG n
def spec_l01Det_Lt (np : Nat) (lent : List (Bool × Nat × Blk)) : Prop := np = 2 ∧ lent = []
def spec_l01Det_body {α : Type}   (k : Nat) (a : Int) (a1 : Int) (b_ : Int) (b_1 : Int) (r0 : Int → Option α) : Option α :=
  r0 (w64 ((w64 (a * b_1)) - (w64 (a1 * b_))))
theorem spec_l01Det_gen {α : Type}   (n : Nat) (a : Int) (a1 : Int) (b_ : Int) (b_1 : Int) (κ : Res → Option α) : evFn Try.prog (spec_l01Det_XG n) Try.f260 (((buildDs spec_l01Det_sh [.int a, .int a1, .int b_, .int b_1]).map Prod.fst).getD []) κ = spec_l01Det_body n a a1 b_ b_1 (fun v1 => κ ⟨[.int .i64 v1], []⟩) := by kernel_rfl
theorem spec_l01Det_eq {α : Type} (n : Nat) (a : Int) (a1 : Int) (b_ : Int) (b_1 : Int) (r0 : Int → Option α) : spec_l01Det_body n a a1 b_ b_1 r0 = spec_l01Det n a a1 b_ b_1 r0 := (spec_l01Det_body.eq_1 n a a1 b_ b_1 r0).trans (spec_l01Det.eq_1 n a a1 b_ b_1 r0).symm
theorem spec_l01Det_rn {α : Type} (F : Nat → Int → Int → Int → Int → (Int → Option α) → Option α) (n : Nat) (a : Int) (a1 : Int) (b_ : Int) (b_1 : Int) (κ : Res → Option α) : spec_l01Det_runG F n [.int a, .int a1, .int b_, .int b_1] κ = F n a a1 b_ b_1 (fun v1 => κ ⟨[.int .i64 v1], []⟩) := rfl
theorem spec_l01Det_ev {α : Type} (n : Nat) (a : Int) (a1 : Int) (b_ : Int) (b_1 : Int) (κ : Res → Option α) : evFn Try.prog (spec_l01Det_X n) Try.f260 (((buildDs spec_l01Det_sh [.int a, .int a1, .int b_, .int b_1]).map Prod.fst).getD []) κ = spec_l01Det_run n [.int a, .int a1, .int b_, .int b_1] κ := (spec_l01Det_gen n a a1 b_ b_1 κ).trans ((spec_l01Det_eq n a a1 b_ b_1 (fun v1 => κ ⟨[.int .i64 v1], []⟩)).trans ((spec_l01Det_run.eq_1 n [.int a, .int a1, .int b_, .int b_1] κ).trans (spec_l01Det_rn spec_l01Det n a a1 b_ b_1 κ)).symm)
theorem spec_l01Det_en (a : Int) (a1 : Int) (b_ : Int) (b_1 : Int) : (entry 0 (((buildDs spec_l01Det_sh [.int a, .int a1, .int b_, .int b_1]).map Prod.fst).getD [])).map (fun x => (x.1.length, x.2.lent)) = some (2, []) := by kernel_rfl
theorem spec_l01Det_good {α : Type} : ∀ n, GoodFn (α := α) Try.prog 260 (byShape spec_l01Det_sh (spec_l01Det_run n)) := by
  refine fn_good' Try.func260 (c := (Try.f260.body.getD .skip)) (by kernel_rfl) (by kernel_rfl) (by kernel_rfl) spec_l01Det_C spec_l01Det_M eqs spec_l01Det_lps (fun n => tabC_good (fun _ h => absurd h List.not_mem_nil)) eqs_ok spec_l01Det_Lt ?_ ?_ spec_l01Det_sh spec_l01Det_run ?_
  · exact (fun _ h => absurd h List.not_mem_nil)
  · exact (fun _ h => absurd h List.not_mem_nil)
  · intro n p κ r ds hd hr
    have hr0 := hr
    unfold spec_l01Det_run spec_l01Det_runG at hr
    split at hr
    · rw [← ds_of hd]
      exact ⟨en_of (spec_l01Det_en _ _ _ _) ⟨rfl, rfl⟩, (spec_l01Det_ev n _ _ _ _ κ).trans hr0⟩
    · cases hr

/-! loop.example/g01297/spec.l10Pair -/
def spec_l10Pair_sh : List SkD := [.agg [.int .i64, .int .i64], .agg [.int .i64, .int .i64]]
def spec_l10Pair_runG {α : Type} (F : Nat → Int → Int → Int → Int → (Int → Option α) → Option α) (n : Nat) (p : List P1) (κ : Res → Option α) : Option α := match p with
  | [.int a, .int a1, .int b_, .int b_1] => F n a a1 b_ b_1 (fun v1 => κ ⟨[.int .i64 v1], []⟩)
  | _ => none
def spec_l10Pair_run {α : Type} (n : Nat) (p : List P1) (κ : Res → Option α) : Option α := spec_l10Pair_runG spec_l10Pair n p κ
def spec_l10Pair_CG {α : Type} (F0 : Nat → Int → Int → (Bool → Option α) → Option α) (F1 : Nat → Int → Int → Int → Int → (Int → Option α) → Option α) (n : Nat) : FuncId → List D → (Res → Option α) → Option α := tabC [(165, (byShape spec_l01Is_sh (spec_l01Is_runG F0 n))), (260, (byShape spec_l01Det_sh (spec_l01Det_runG F1 n)))]
def spec_l10Pair_C {α : Type} (n : Nat) : FuncId → List D → (Res → Option α) → Option α := spec_l10Pair_CG spec_l01Is spec_l01Det n
def spec_l10Pair_M : FuncId → List Nat := tabM []
def spec_l10Pair_lpsG {α : Type}  : List (LoopT α) := []
def spec_l10Pair_lps {α : Type} : List (LoopT α) := spec_l10Pair_lpsG
def spec_l10Pair_XG {α : Type} (F0 : Nat → Int → Int → (Bool → Option α) → Option α) (F1 : Nat → Int → Int → Int → Int → (Int → Option α) → Option α)  (n : Nat) : Ctx α := ⟨spec_l10Pair_CG F0 F1 n, spec_l10Pair_M, eqs, lpOf (spec_l10Pair_lpsG) n⟩
def spec_l10Pair_X {α : Type} (n : Nat) : Ctx α := spec_l10Pair_XG spec_l01Is spec_l01Det n
def spec_l10Pair_Lt (np : Nat) (lent : List (Bool × Nat × Blk)) : Prop := np = 2 ∧ lent = []
def spec_l10Pair_body {α : Type} (F0 : Nat → Int → Int → (Bool → Option α) → Option α) (F1 : Nat → Int → Int → Int → Int → (Int → Option α) → Option α)  (k : Nat) (a : Int) (a1 : Int) (b_ : Int) (b_1 : Int) (r0 : Int → Option α) : Option α :=
  F0 k a a1 fun v =>
  bif (!v) then
    r0 1
  else
    F0 k b_ b_1 fun v1 =>
    bif (!v1) then
      r0 1
    else
      F1 k a a1 b_ b_1 fun v2 =>
      bif decide (v2 = 0) then
        r0 5
      else
        r0 0
theorem spec_l10Pair_gen {α : Type} (F0 : Nat → Int → Int → (Bool → Option α) → Option α) (F1 : Nat → Int → Int → Int → Int → (Int → Option α) → Option α)  (n : Nat) (a : Int) (a1 : Int) (b_ : Int) (b_1 : Int) (κ : Res → Option α) : evFn Try.prog (spec_l10Pair_XG F0 F1 n) Try.f158 (((buildDs spec_l10Pair_sh [.int a, .int a1, .int b_, .int b_1]).map Prod.fst).getD []) κ = spec_l10Pair_body F0 F1 n a a1 b_ b_1 (fun v1 => κ ⟨[.int .i64 v1], []⟩) := by kernel_rfl
theorem spec_l10Pair_eq {α : Type} (n : Nat) (a : Int) (a1 : Int) (b_ : Int) (b_1 : Int) (r0 : Int → Option α) : spec_l10Pair_body spec_l01Is spec_l01Det n a a1 b_ b_1 r0 = spec_l10Pair n a a1 b_ b_1 r0 := (spec_l10Pair_body.eq_1 spec_l01Is spec_l01Det n a a1 b_ b_1 r0).trans (spec_l10Pair.eq_1 n a a1 b_ b_1 r0).symm
theorem spec_l10Pair_rn {α : Type} (F : Nat → Int → Int → Int → Int → (Int → Option α) → Option α) (n : Nat) (a : Int) (a1 : Int) (b_ : Int) (b_1 : Int) (κ : Res → Option α) : spec_l10Pair_runG F n [.int a, .int a1, .int b_, .int b_1] κ = F n a a1 b_ b_1 (fun v1 => κ ⟨[.int .i64 v1], []⟩) := rfl
theorem spec_l10Pair_ev {α : Type} (n : Nat) (a : Int) (a1 : Int) (b_ : Int) (b_1 : Int) (κ : Res → Option α) : evFn Try.prog (spec_l10Pair_X n) Try.f158 (((buildDs spec_l10Pair_sh [.int a, .int a1, .int b_, .int b_1]).map Prod.fst).getD []) κ = spec_l10Pair_run n [.int a, .int a1, .int b_, .int b_1] κ := (spec_l10Pair_gen spec_l01Is spec_l01Det n a a1 b_ b_1 κ).trans ((spec_l10Pair_eq n a a1 b_ b_1 (fun v1 => κ ⟨[.int .i64 v1], []⟩)).trans ((spec_l10Pair_run.eq_1 n [.int a, .int a1, .int b_, .int b_1] κ).trans (spec_l10Pair_rn spec_l10Pair n a a1 b_ b_1 κ)).symm)
theorem spec_l10Pair_en (a : Int) (a1 : Int) (b_ : Int) (b_1 : Int) : (entry 0 (((buildDs spec_l10Pair_sh [.int a, .int a1, .int b_, .int b_1]).map Prod.fst).getD [])).map (fun x => (x.1.length, x.2.lent)) = some (2, []) := by kernel_rfl
theorem spec_l10Pair_good {α : Type} : ∀ n, GoodFn (α := α) Try.prog 158 (byShape spec_l10Pair_sh (spec_l10Pair_run n)) := by
  refine fn_good' Try.func158 (c := (Try.f158.body.getD .skip)) (by kernel_rfl) (by kernel_rfl) (by kernel_rfl) spec_l10Pair_C spec_l10Pair_M eqs spec_l10Pair_lps (fun n => tabC_good (List.forall_mem_cons.2 ⟨(spec_l01Is_good n), (List.forall_mem_cons.2 ⟨(spec_l01Det_good n), (fun _ h => absurd h List.not_mem_nil)⟩)⟩)) eqs_ok spec_l10Pair_Lt ?_ ?_ spec_l10Pair_sh spec_l10Pair_run ?_
  · exact (fun _ h => absurd h List.not_mem_nil)
  · exact (fun _ h => absurd h List.not_mem_nil)
  · intro n p κ r ds hd hr
    have hr0 := hr
    unfold spec_l10Pair_run spec_l10Pair_runG at hr
    split at hr
    · rw [← ds_of hd]
      exact ⟨en_of (spec_l10Pair_en _ _ _ _) ⟨rfl, rfl⟩, (spec_l10Pair_ev n _ _ _ _ κ).trans hr0⟩
    · cases hr

/-! loop.example/g01297/spec.l10Dot -/
def spec_l10Dot_sh : List SkD := [.agg [.int .i64, .int .i64], .agg [.int .i64, .int .i64]]
def spec_l10Dot_runG {α : Type} (F : Nat → Int → Int → Int → Int → (Int → Option α) → Option α) (n : Nat) (p : List P1) (κ : Res → Option α) : Option α := match p with
  | [.int a, .int a1, .int b_, .int b_1] => F n a a1 b_ b_1 (fun v1 => κ ⟨[.int .i64 v1], []⟩)
  | _ => none
def spec_l10Dot_run {α : Type} (n : Nat) (p : List P1) (κ : Res → Option α) : Option α := spec_l10Dot_runG spec_l10Dot n p κ
def spec_l10Dot_CG {α : Type}  (n : Nat) : FuncId → List D → (Res → Option α) → Option α := tabC []
def spec_l10Dot_C {α : Type} (n : Nat) : FuncId → List D → (Res → Option α) → Option α := spec_l10Dot_CG n
def spec_l10Dot_M : FuncId → List Nat := tabM []
def spec_l10Dot_lpsG {α : Type}  : List (LoopT α) := []
def spec_l10Dot_lps {α : Type} : List (LoopT α) := spec_l10Dot_lpsG
def spec_l10Dot_XG {α : Type}   (n : Nat) : Ctx α := ⟨spec_l10Dot_CG n, spec_l10Dot_M, eqs, lpOf (spec_l10Dot_lpsG) n⟩
def spec_l10Dot_X {α : Type} (n : Nat) : Ctx α := spec_l10Dot_XG n
def spec_l10Dot_Lt (np : Nat) (lent : List (Bool × Nat × Blk)) : Prop := np = 2 ∧ lent = []
def spec_l10Dot_body {α : Type}   (k : Nat) (a : Int) (a1 : Int) (b_ : Int) (b_1 : Int) (r0 : Int → Option α) : Option α :=
  r0 (w64 ((w64 (a * b_)) + (w64 (a1 * b_1))))
theorem spec_l10Dot_gen {α : Type}   (n : Nat) (a : Int) (a1 : Int) (b_ : Int) (b_1 : Int) (κ : Res → Option α) : evFn Try.prog (spec_l10Dot_XG n) Try.f163 (((buildDs spec_l10Dot_sh [.int a, .int a1, .int b_, .int b_1]).map Prod.fst).getD []) κ = spec_l10Dot_body n a a1 b_ b_1 (fun v1 => κ ⟨[.int .i64 v1], []⟩) := by kernel_rfl
theorem spec_l10Dot_eq {α : Type} (n : Nat) (a : Int) (a1 : Int) (b_ : Int) (b_1 : Int) (r0 : Int → Option α) : spec_l10Dot_body n a a1 b_ b_1 r0 = spec_l10Dot n a a1 b_ b_1 r0 := (spec_l10Dot_body.eq_1 n a a1 b_ b_1 r0).trans (spec_l10Dot.eq_1 n a a1 b_ b_1 r0).symm
theorem spec_l10Dot_rn {α : Type} (F : Nat → Int → Int → Int → Int → (Int → Option α) → Option α) (n : Nat) (a : Int) (a1 : Int) (b_ : Int) (b_1 : Int) (κ : Res → Option α) : spec_l10Dot_runG F n [.int a, .int a1, .int b_, .int b_1] κ = F n a a1 b_ b_1 (fun v1 => κ ⟨[.int .i64 v1], []⟩) := rfl
theorem spec_l10Dot_ev {α : Type} (n : Nat) (a : Int) (a1 : Int) (b_ : Int) (b_1 : Int) (κ : Res → Option α) : evFn Try.prog (spec_l10Dot_X n) Try.f163 (((buildDs spec_l10Dot_sh [.int a, .int a1, .int b_, .int b_1]).map Prod.fst).getD []) κ = spec_l10Dot_run n [.int a, .int a1, .int b_, .int b_1] κ := (spec_l10Dot_gen n a a1 b_ b_1 κ).trans ((spec_l10Dot_eq n a a1 b_ b_1 (fun v1 => κ ⟨[.int .i64 v1], []⟩)).trans ((spec_l10Dot_run.eq_1 n [.int a, .int a1, .int b_, .int b_1] κ).trans (spec_l10Dot_rn spec_l10Dot n a a1 b_ b_1 κ)).symm)
theorem spec_l10Dot_en (a : Int) (a1 : Int) (b_ : Int) (b_1 : Int) : (entry 0 (((buildDs spec_l10Dot_sh [.int a, .int a1, .int b_, .int b_1]).map Prod.fst).getD [])).map (fun x => (x.1.length, x.2.lent)) = some (2, []) := by kernel_rfl
theorem spec_l10Dot_good {α : Type} : ∀ n, GoodFn (α := α) Try.prog 163 (byShape spec_l10Dot_sh (spec_l10Dot_run n)) := by
  refine fn_good' Try.func163 (c := (Try.f163.body.getD .skip)) (by kernel_rfl) (by kernel_rfl) (by kernel_rfl) spec_l10Dot_C spec_l10Dot_M eqs spec_l10Dot_lps (fun n => tabC_good (fun _ h => absurd h List.not_mem_nil)) eqs_ok spec_l10Dot_Lt ?_ ?_ spec_l10Dot_sh spec_l10Dot_run ?_
  · exact (fun _ h => absurd h List.not_mem_nil)
  · exact (fun _ h => absurd h List.not_mem_nil)
  · intro n p κ r ds hd hr
    have hr0 := hr
    unfold spec_l10Dot_run spec_l10Dot_runG at hr
    split at hr
    · rw [← ds_of hd]
      exact ⟨en_of (spec_l10Dot_en _ _ _ _) ⟨rfl, rfl⟩, (spec_l10Dot_ev n _ _ _ _ κ).trans hr0⟩
    · cases hr

/-! loop.example/g01297/spec.l10Reduced -/
def spec_l10Reduced_sh : List SkD := [.agg [.int .i64, .int .i64], .agg [.int .i64, .int .i64]]
def spec_l10Reduced_runG {α : Type} (F : Nat → Int → Int → Int → Int → (Bool → Option α) → Option α) (n : Nat) (p : List P1) (κ : Res → Option α) : Option α := match p with
  | [.int a, .int a1, .int b_, .int b_1] => F n a a1 b_ b_1 (fun v1 => κ ⟨[.bool v1], []⟩)
  | _ => none
def spec_l10Reduced_run {α : Type} (n : Nat) (p : List P1) (κ : Res → Option α) : Option α := spec_l10Reduced_runG spec_l10Reduced n p κ
def spec_l10Reduced_CG {α : Type} (F0 : Nat → Int → Int → Int → Int → (Int → Option α) → Option α) (n : Nat) : FuncId → List D → (Res → Option α) → Option α := tabC [(163, (byShape spec_l10Dot_sh (spec_l10Dot_runG F0 n)))]
def spec_l10Reduced_C {α : Type} (n : Nat) : FuncId → List D → (Res → Option α) → Option α := spec_l10Reduced_CG spec_l10Dot n
def spec_l10Reduced_M : FuncId → List Nat := tabM []
def spec_l10Reduced_lpsG {α : Type}  : List (LoopT α) := []
def spec_l10Reduced_lps {α : Type} : List (LoopT α) := spec_l10Reduced_lpsG
def spec_l10Reduced_XG {α : Type} (F0 : Nat → Int → Int → Int → Int → (Int → Option α) → Option α)  (n : Nat) : Ctx α := ⟨spec_l10Reduced_CG F0 n, spec_l10Reduced_M, eqs, lpOf (spec_l10Reduced_lpsG) n⟩
def spec_l10Reduced_X {α : Type} (n : Nat) : Ctx α := spec_l10Reduced_XG spec_l10Dot n
def spec_l10Reduced_Lt (np : Nat) (lent : List (Bool × Nat × Blk)) : Prop := np = 2 ∧ lent = []
def spec_l10Reduced_body {α : Type} (F0 : Nat → Int → Int → Int → Int → (Int → Option α) → Option α)  (k : Nat) (a : Int) (a1 : Int) (b_ : Int) (b_1 : Int) (r0 : Bool → Option α) : Option α :=
  F0 k a a1 b_ b_1 fun v =>
  F0 k a a1 a a1 fun v1 =>
  F0 k b_ b_1 b_ b_1 fun v2 =>
  bif decide (v1 ≤ v2) then
    F0 k a a1 a a1 fun v3 =>
    r0 (decide ((max (w64 (2 * v)) (w64 (0 - (w64 (2 * v))))) ≤ v3))
  else
    r0 false
theorem spec_l10Reduced_gen {α : Type} (F0 : Nat → Int → Int → Int → Int → (Int → Option α) → Option α)  (n : Nat) (a : Int) (a1 : Int) (b_ : Int) (b_1 : Int) (κ : Res → Option α) : evFn Try.prog (spec_l10Reduced_XG F0 n) Try.f162 (((buildDs spec_l10Reduced_sh [.int a, .int a1, .int b_, .int b_1]).map Prod.fst).getD []) κ = spec_l10Reduced_body F0 n a a1 b_ b_1 (fun v1 => κ ⟨[.bool v1], []⟩) := by kernel_rfl
theorem spec_l10Reduced_eq {α : Type} (n : Nat) (a : Int) (a1 : Int) (b_ : Int) (b_1 : Int) (r0 : Bool → Option α) : spec_l10Reduced_body spec_l10Dot n a a1 b_ b_1 r0 = spec_l10Reduced n a a1 b_ b_1 r0 := (spec_l10Reduced_body.eq_1 spec_l10Dot n a a1 b_ b_1 r0).trans (spec_l10Reduced.eq_1 n a a1 b_ b_1 r0).symm
theorem spec_l10Reduced_rn {α : Type} (F : Nat → Int → Int → Int → Int → (Bool → Option α) → Option α) (n : Nat) (a : Int) (a1 : Int) (b_ : Int) (b_1 : Int) (κ : Res → Option α) : spec_l10Reduced_runG F n [.int a, .int a1, .int b_, .int b_1] κ = F n a a1 b_ b_1 (fun v1 => κ ⟨[.bool v1], []⟩) := rfl
theorem spec_l10Reduced_ev {α : Type} (n : Nat) (a : Int) (a1 : Int) (b_ : Int) (b_1 : Int) (κ : Res → Option α) : evFn Try.prog (spec_l10Reduced_X n) Try.f162 (((buildDs spec_l10Reduced_sh [.int a, .int a1, .int b_, .int b_1]).map Prod.fst).getD []) κ = spec_l10Reduced_run n [.int a, .int a1, .int b_, .int b_1] κ := (spec_l10Reduced_gen spec_l10Dot n a a1 b_ b_1 κ).trans ((spec_l10Reduced_eq n a a1 b_ b_1 (fun v1 => κ ⟨[.bool v1], []⟩)).trans ((spec_l10Reduced_run.eq_1 n [.int a, .int a1, .int b_, .int b_1] κ).trans (spec_l10Reduced_rn spec_l10Reduced n a a1 b_ b_1 κ)).symm)
theorem spec_l10Reduced_en (a : Int) (a1 : Int) (b_ : Int) (b_1 : Int) : (entry 0 (((buildDs spec_l10Reduced_sh [.int a, .int a1, .int b_, .int b_1]).map Prod.fst).getD [])).map (fun x => (x.1.length, x.2.lent)) = some (2, []) := by kernel_rfl
theorem spec_l10Reduced_good {α : Type} : ∀ n, GoodFn (α := α) Try.prog 162 (byShape spec_l10Reduced_sh (spec_l10Reduced_run n)) := by
  refine fn_good' Try.func162 (c := (Try.f162.body.getD .skip)) (by kernel_rfl) (by kernel_rfl) (by kernel_rfl) spec_l10Reduced_C spec_l10Reduced_M eqs spec_l10Reduced_lps (fun n => tabC_good (List.forall_mem_cons.2 ⟨(spec_l10Dot_good n), (fun _ h => absurd h List.not_mem_nil)⟩)) eqs_ok spec_l10Reduced_Lt ?_ ?_ spec_l10Reduced_sh spec_l10Reduced_run ?_
  · exact (fun _ h => absurd h List.not_mem_nil)
  · exact (fun _ h => absurd h List.not_mem_nil)
  · intro n p κ r ds hd hr
    have hr0 := hr
    unfold spec_l10Reduced_run spec_l10Reduced_runG at hr
    split at hr
    · rw [← ds_of hd]
      exact ⟨en_of (spec_l10Reduced_en _ _ _ _) ⟨rfl, rfl⟩, (spec_l10Reduced_ev n _ _ _ _ κ).trans hr0⟩
    · cases hr

/-! loop.example/g01297/spec.l01Floor -/
def spec_l01Floor_sh : List SkD := [.int .i64, .int .i64]
def spec_l01Floor_runG {α : Type} (F : Nat → Int → Int → (Int → Option α) → Option α) (n : Nat) (p : List P1) (κ : Res → Option α) : Option α := match p with
  | [.int p_, .int q_] => F n p_ q_ (fun v1 => κ ⟨[.int .i64 v1], []⟩)
  | _ => none
def spec_l01Floor_run {α : Type} (n : Nat) (p : List P1) (κ : Res → Option α) : Option α := spec_l01Floor_runG spec_l01Floor n p κ
def spec_l01Floor_CG {α : Type}  (n : Nat) : FuncId → List D → (Res → Option α) → Option α := tabC []
def spec_l01Floor_C {α : Type} (n : Nat) : FuncId → List D → (Res → Option α) → Option α := spec_l01Floor_CG n
def spec_l01Floor_M : FuncId → List Nat := tabM []
def spec_l01Floor_lpsG {α : Type}  : List (LoopT α) := []
def spec_l01Floor_lps {α : Type} : List (LoopT α) := spec_l01Floor_lpsG
def spec_l01Floor_XG {α : Type}   (n : Nat) : Ctx α := ⟨spec_l01Floor_CG n, spec_l01Floor_M, eqs, lpOf (spec_l01Floor_lpsG) n⟩
def spec_l01Floor_X {α : Type} (n : Nat) : Ctx α := spec_l01Floor_XG n
def spec_l01Floor_Lt (np : Nat) (lent : List (Bool × Nat × Blk)) : Prop := np = 2 ∧ lent = []
def spec_l01Floor_body {α : Type}   (k : Nat) (p_ : Int) (q_ : Int) (r0 : Int → Option α) : Option α :=
  bif decide (q_ = 0) then
    none
  else
  bif decide (q_ = 0) then
    none
  else
  bif (!decide ((Int.tmod p_ q_) = 0)) then
    bif (!(decide (p_ < 0) == decide (q_ < 0))) then
      r0 (w64 ((w64 (Int.tdiv p_ q_)) - 1))
    else
      r0 (w64 (Int.tdiv p_ q_))
  else
    r0 (w64 (Int.tdiv p_ q_))
theorem spec_l01Floor_gen {α : Type}   (n : Nat) (p_ : Int) (q_ : Int) (κ : Res → Option α) : evFn Try.prog (spec_l01Floor_XG n) Try.f267 (((buildDs spec_l01Floor_sh [.int p_, .int q_]).map Prod.fst).getD []) κ = spec_l01Floor_body n p_ q_ (fun v1 => κ ⟨[.int .i64 v1], []⟩) := by kernel_rfl
theorem spec_l01Floor_eq {α : Type} (n : Nat) (p_ : Int) (q_ : Int) (r0 : Int → Option α) : spec_l01Floor_body n p_ q_ r0 = spec_l01Floor n p_ q_ r0 := (spec_l01Floor_body.eq_1 n p_ q_ r0).trans (spec_l01Floor.eq_1 n p_ q_ r0).symm
theorem spec_l01Floor_rn {α : Type} (F : Nat → Int → Int → (Int → Option α) → Option α) (n : Nat) (p_ : Int) (q_ : Int) (κ : Res → Option α) : spec_l01Floor_runG F n [.int p_, .int q_] κ = F n p_ q_ (fun v1 => κ ⟨[.int .i64 v1], []⟩) := rfl
theorem spec_l01Floor_ev {α : Type} (n : Nat) (p_ : Int) (q_ : Int) (κ : Res → Option α) : evFn Try.prog (spec_l01Floor_X n) Try.f267 (((buildDs spec_l01Floor_sh [.int p_, .int q_]).map Prod.fst).getD []) κ = spec_l01Floor_run n [.int p_, .int q_] κ := (spec_l01Floor_gen n p_ q_ κ).trans ((spec_l01Floor_eq n p_ q_ (fun v1 => κ ⟨[.int .i64 v1], []⟩)).trans ((spec_l01Floor_run.eq_1 n [.int p_, .int q_] κ).trans (spec_l01Floor_rn spec_l01Floor n p_ q_ κ)).symm)
theorem spec_l01Floor_en (p_ : Int) (q_ : Int) : (entry 0 (((buildDs spec_l01Floor_sh [.int p_, .int q_]).map Prod.fst).getD [])).map (fun x => (x.1.length, x.2.lent)) = some (2, []) := by kernel_rfl
theorem spec_l01Floor_good {α : Type} : ∀ n, GoodFn (α := α) Try.prog 267 (byShape spec_l01Floor_sh (spec_l01Floor_run n)) := by
  refine fn_good' Try.func267 (c := (Try.f267.body.getD .skip)) (by kernel_rfl) (by kernel_rfl) (by kernel_rfl) spec_l01Floor_C spec_l01Floor_M eqs spec_l01Floor_lps (fun n => tabC_good (fun _ h => absurd h List.not_mem_nil)) eqs_ok spec_l01Floor_Lt ?_ ?_ spec_l01Floor_sh spec_l01Floor_run ?_
  · exact (fun _ h => absurd h List.not_mem_nil)
  · exact (fun _ h => absurd h List.not_mem_nil)
  · intro n p κ r ds hd hr
    have hr0 := hr
    unfold spec_l01Floor_run spec_l01Floor_runG at hr
    split at hr
    · rw [← ds_of hd]
      exact ⟨en_of (spec_l01Floor_en _ _) ⟨rfl, rfl⟩, (spec_l01Floor_ev n _ _ κ).trans hr0⟩
    · cases hr

/-! loop.example/g01297/spec.l01Plus -/
def spec_l01Plus_sh : List SkD := [.agg [.int .i64, .int .i64], .agg [.int .i64, .int .i64], .int .i64]
def spec_l01Plus_runG {α : Type} (F : Nat → Int → Int → Int → Int → Int → (Int → Int → Option α) → Option α) (n : Nat) (p : List P1) (κ : Res → Option α) : Option α := match p with
  | [.int a, .int a1, .int b_, .int b_1, .int k_] => F n a a1 b_ b_1 k_ (fun v1 v2 => κ ⟨[.agg [.int .i64 v1, .int .i64 v2]], []⟩)
  | _ => none
def spec_l01Plus_run {α : Type} (n : Nat) (p : List P1) (κ : Res → Option α) : Option α := spec_l01Plus_runG spec_l01Plus n p κ
def spec_l01Plus_CG {α : Type}  (n : Nat) : FuncId → List D → (Res → Option α) → Option α := tabC []
def spec_l01Plus_C {α : Type} (n : Nat) : FuncId → List D → (Res → Option α) → Option α := spec_l01Plus_CG n
def spec_l01Plus_M : FuncId → List Nat := tabM []
def spec_l01Plus_lpsG {α : Type}  : List (LoopT α) := []
def spec_l01Plus_lps {α : Type} : List (LoopT α) := spec_l01Plus_lpsG
def spec_l01Plus_XG {α : Type}   (n : Nat) : Ctx α := ⟨spec_l01Plus_CG n, spec_l01Plus_M, eqs, lpOf (spec_l01Plus_lpsG) n⟩
def spec_l01Plus_X {α : Type} (n : Nat) : Ctx α := spec_l01Plus_XG n
def spec_l01Plus_Lt (np : Nat) (lent : List (Bool × Nat × Blk)) : Prop := np = 3 ∧ lent = []
def spec_l01Plus_body {α : Type}   (k : Nat) (a : Int) (a1 : Int) (b_ : Int) (b_1 : Int) (k_ : Int) (r0 : Int → Int → Option α) : Option α :=
  r0 (w64 (a + (w64 (k_ * b_)))) (w64 (a1 + (w64 (k_ * b_1))))
theorem spec_l01Plus_gen {α : Type}   (n : Nat) (a : Int) (a1 : Int) (b_ : Int) (b_1 : Int) (k_ : Int) (κ : Res → Option α) : evFn Try.prog (spec_l01Plus_XG n) Try.f183 (((buildDs spec_l01Plus_sh [.int a, .int a1, .int b_, .int b_1, .int k_]).map Prod.fst).getD []) κ = spec_l01Plus_body n a a1 b_ b_1 k_ (fun v1 v2 => κ ⟨[.agg [.int .i64 v1, .int .i64 v2]], []⟩) := by kernel_rfl
theorem spec_l01Plus_eq {α : Type} (n : Nat) (a : Int) (a1 : Int) (b_ : Int) (b_1 : Int) (k_ : Int) (r0 : Int → Int → Option α) : spec_l01Plus_body n a a1 b_ b_1 k_ r0 = spec_l01Plus n a a1 b_ b_1 k_ r0 := (spec_l01Plus_body.eq_1 n a a1 b_ b_1 k_ r0).trans (spec_l01Plus.eq_1 n a a1 b_ b_1 k_ r0).symm
theorem spec_l01Plus_rn {α : Type} (F : Nat → Int → Int → Int → Int → Int → (Int → Int → Option α) → Option α) (n : Nat) (a : Int) (a1 : Int) (b_ : Int) (b_1 : Int) (k_ : Int) (κ : Res → Option α) : spec_l01Plus_runG F n [.int a, .int a1, .int b_, .int b_1, .int k_] κ = F n a a1 b_ b_1 k_ (fun v1 v2 => κ ⟨[.agg [.int .i64 v1, .int .i64 v2]], []⟩) := rfl
theorem spec_l01Plus_ev {α : Type} (n : Nat) (a : Int) (a1 : Int) (b_ : Int) (b_1 : Int) (k_ : Int) (κ : Res → Option α) : evFn Try.prog (spec_l01Plus_X n) Try.f183 (((buildDs spec_l01Plus_sh [.int a, .int a1, .int b_, .int b_1, .int k_]).map Prod.fst).getD []) κ = spec_l01Plus_run n [.int a, .int a1, .int b_, .int b_1, .int k_] κ := (spec_l01Plus_gen n a a1 b_ b_1 k_ κ).trans ((spec_l01Plus_eq n a a1 b_ b_1 k_ (fun v1 v2 => κ ⟨[.agg [.int .i64 v1, .int .i64 v2]], []⟩)).trans ((spec_l01Plus_run.eq_1 n [.int a, .int a1, .int b_, .int b_1, .int k_] κ).trans (spec_l01Plus_rn spec_l01Plus n a a1 b_ b_1 k_ κ)).symm)
theorem spec_l01Plus_en (a : Int) (a1 : Int) (b_ : Int) (b_1 : Int) (k_ : Int) : (entry 0 (((buildDs spec_l01Plus_sh [.int a, .int a1, .int b_, .int b_1, .int k_]).map Prod.fst).getD [])).map (fun x => (x.1.length, x.2.lent)) = some (3, []) := by kernel_rfl
theorem spec_l01Plus_good {α : Type} : ∀ n, GoodFn (α := α) Try.prog 183 (byShape spec_l01Plus_sh (spec_l01Plus_run n)) := by
  refine fn_good' Try.func183 (c := (Try.f183.body.getD .skip)) (by kernel_rfl) (by kernel_rfl) (by kernel_rfl) spec_l01Plus_C spec_l01Plus_M eqs spec_l01Plus_lps (fun n => tabC_good (fun _ h => absurd h List.not_mem_nil)) eqs_ok spec_l01Plus_Lt ?_ ?_ spec_l01Plus_sh spec_l01Plus_run ?_
  · exact (fun _ h => absurd h List.not_mem_nil)
  · exact (fun _ h => absurd h List.not_mem_nil)
  · intro n p κ r ds hd hr
    have hr0 := hr
    unfold spec_l01Plus_run spec_l01Plus_runG at hr
    split at hr
    · rw [← ds_of hd]
      exact ⟨en_of (spec_l01Plus_en _ _ _ _ _) ⟨rfl, rfl⟩, (spec_l01Plus_ev n _ _ _ _ _ κ).trans hr0⟩
    · cases hr

/-! loop.example/g01297/spec.l10Reduce -/
def spec_l10Reduce_sh : List SkD := [.agg [.int .i64, .int .i64], .agg [.int .i64, .int .i64]]
def spec_l10Reduce_runG {α : Type} (F : Nat → Int → Int → Int → Int → (Int → Int → Int → Int → Option α) → Option α) (n : Nat) (p : List P1) (κ : Res → Option α) : Option α := match p with
  | [.int a, .int a1, .int b_, .int b_1] => F n a a1 b_ b_1 (fun v1 v2 v3 v4 => κ ⟨[.agg [.int .i64 v1, .int .i64 v2], .agg [.int .i64 v3, .int .i64 v4]], []⟩)
  | _ => none
def spec_l10Reduce_run {α : Type} (n : Nat) (p : List P1) (κ : Res → Option α) : Option α := spec_l10Reduce_runG spec_l10Reduce n p κ
def spec_l10Reduce_CG {α : Type} (F0 : Nat → Int → Int → Int → Int → (Bool → Option α) → Option α) (F1 : Nat → Int → Int → Int → Int → (Int → Option α) → Option α) (F2 : Nat → Int → Int → (Int → Option α) → Option α) (F3 : Nat → Int → Int → Int → Int → Int → (Int → Int → Option α) → Option α) (n : Nat) : FuncId → List D → (Res → Option α) → Option α := tabC [(162, (byShape spec_l10Reduced_sh (spec_l10Reduced_runG F0 n))), (163, (byShape spec_l10Dot_sh (spec_l10Dot_runG F1 n))), (267, (byShape spec_l01Floor_sh (spec_l01Floor_runG F2 n))), (183, (byShape spec_l01Plus_sh (spec_l01Plus_runG F3 n)))]
def spec_l10Reduce_C {α : Type} (n : Nat) : FuncId → List D → (Res → Option α) → Option α := spec_l10Reduce_CG spec_l10Reduced spec_l10Dot spec_l01Floor spec_l01Plus n
def spec_l10Reduce_M : FuncId → List Nat := tabM []
def spec_l10Reduce_t1 : Tpl := ⟨[.any, .any, .ptr 128 0 0, .ptr 192 0 0, .ptr 256 0 0, .ptr 320 0 0, .any, .any, .any, .any, .any, .any, .any, .any, .any, .any, .any, .any, .any, .any, .any, .any, .any, .any, .any, .any, .any, .any, .any, .any, .any, .any, .any, .any, .any, .any, .any, .any, .any, .any], [(128, .ints 2 26 .i64 2), (192, .ints 2 26 .i64 2), (256, .ints 2 26 .i64 2), (320, .ints 2 26 .i64 2)], []⟩
def spec_l10Reduce_uG1 {α : Type} (G : Nat → Int → Int → Int → Int → Int → Int → Int → Int → (Int → Int → Int → Int → Int → Int → Int → Int → Option α) → (Int → Int → Int → Int → Option α) → Option α) (n : Nat) (p : List P1) (brk : Nat → List P1 → Option α) (ret : Res → Option α) : Option α := match p with
  | [.int a2, .int a3, .int b_2, .int b_3, .int x, .int x1, .int x2, .int x3] => G n a2 a3 b_2 b_3 x x1 x2 x3 (fun a2 a3 b_2 b_3 x x1 x2 x3 => brk 0 [.int a2, .int a3, .int b_2, .int b_3, .int x, .int x1, .int x2, .int x3]) (fun v1 v2 v3 v4 => ret ⟨[.agg [.int .i64 v1, .int .i64 v2], .agg [.int .i64 v3, .int .i64 v4]], []⟩)
  | _ => none
def spec_l10Reduce_u1 {α : Type} (n : Nat) (p : List P1) (brk : Nat → List P1 → Option α) (ret : Res → Option α) : Option α := spec_l10Reduce_uG1 spec_l10Reduce_l1 n p brk ret
def spec_l10Reduce_lpsG {α : Type} (G1 : Nat → Int → Int → Int → Int → Int → Int → Int → Int → (Int → Int → Int → Int → Int → Int → Int → Int → Option α) → (Int → Int → Int → Int → Option α) → Option α) : List (LoopT α) := [⟨1, spec_l10Reduce_t1, spec_l10Reduce_uG1 G1⟩]
def spec_l10Reduce_lps {α : Type} : List (LoopT α) := spec_l10Reduce_lpsG spec_l10Reduce_l1
def spec_l10Reduce_XG {α : Type} (F0 : Nat → Int → Int → Int → Int → (Bool → Option α) → Option α) (F1 : Nat → Int → Int → Int → Int → (Int → Option α) → Option α) (F2 : Nat → Int → Int → (Int → Option α) → Option α) (F3 : Nat → Int → Int → Int → Int → Int → (Int → Int → Option α) → Option α) (G1 : Nat → Int → Int → Int → Int → Int → Int → Int → Int → (Int → Int → Int → Int → Int → Int → Int → Int → Option α) → (Int → Int → Int → Int → Option α) → Option α) (n : Nat) : Ctx α := ⟨spec_l10Reduce_CG F0 F1 F2 F3 n, spec_l10Reduce_M, eqs, lpOf (spec_l10Reduce_lpsG G1) n⟩
def spec_l10Reduce_X {α : Type} (n : Nat) : Ctx α := spec_l10Reduce_XG spec_l10Reduced spec_l10Dot spec_l01Floor spec_l01Plus spec_l10Reduce_l1 n
def spec_l10Reduce_Lt (np : Nat) (lent : List (Bool × Nat × Blk)) : Prop := np = 2 ∧ lent = []
def spec_l10Reduce_lb1 {α : Type} (F0 : Nat → Int → Int → Int → Int → (Bool → Option α) → Option α) (F1 : Nat → Int → Int → Int → Int → (Int → Option α) → Option α) (F2 : Nat → Int → Int → (Int → Option α) → Option α) (F3 : Nat → Int → Int → Int → Int → Int → (Int → Int → Option α) → Option α) (G1 : Nat → Int → Int → Int → Int → Int → Int → Int → Int → (Int → Int → Int → Int → Int → Int → Int → Int → Option α) → (Int → Int → Int → Int → Option α) → Option α) (k : Nat) (a2 : Int) (a3 : Int) (b_2 : Int) (b_3 : Int) (x : Int) (x1 : Int) (x2 : Int) (x3 : Int) (b0 : Int → Int → Int → Int → Int → Int → Int → Int → Option α) (r0 : Int → Int → Int → Int → Option α) : Option α :=
  F0 k a2 a3 b_2 b_3 fun v =>
  bif (!v) then
    F1 k a2 a3 a2 a3 fun v1 =>
    F1 k b_2 b_3 b_2 b_3 fun v2 =>
    bif decide (v2 < v1) then
      G1 k b_2 b_3 a2 a3 x x1 x2 x3 b0 r0
    else
      F1 k a2 a3 a2 a3 fun v3 =>
      F1 k a2 a3 b_2 b_3 fun v4 =>
      F2 k (w64 ((w64 (2 * v4)) + v3)) (w64 (2 * v3)) fun v5 =>
      F3 k b_2 b_3 a2 a3 (w64 (0 - v5)) fun v6 v7 =>
      G1 k a2 a3 v6 v7 x x1 x2 x3 b0 r0
  else
    b0 a2 a3 b_2 b_3 x x1 x2 x3
theorem spec_l10Reduce_l1_gen {α : Type} (F0 : Nat → Int → Int → Int → Int → (Bool → Option α) → Option α) (F1 : Nat → Int → Int → Int → Int → (Int → Option α) → Option α) (F2 : Nat → Int → Int → (Int → Option α) → Option α) (F3 : Nat → Int → Int → Int → Int → Int → (Int → Int → Option α) → Option α) (G1 : Nat → Int → Int → Int → Int → Int → Int → Int → Int → (Int → Int → Int → Int → Int → Int → Int → Int → Option α) → (Int → Int → Int → Int → Option α) → Option α) (n : Nat) (a2 : Int) (a3 : Int) (b_2 : Int) (b_3 : Int) (x : Int) (x1 : Int) (x2 : Int) (x3 : Int) (brk : Nat → List P1 → Option α) (ret : Res → Option α) : ev ((spec_l10Reduce_XG F0 F1 F2 F3 G1 n).env Try.prog Try.f159 2 []) (findLoop (loopsIn (Try.f159.body.getD .skip)) 1) ((spec_l10Reduce_t1.build [.int a2, .int a3, .int b_2, .int b_3, .int x, .int x1, .int x2, .int x3]).getD ⟨[], []⟩) (roundK (2 * 64) spec_l10Reduce_t1 (fun q => spec_l10Reduce_uG1 G1 n q brk ret) brk ret) = spec_l10Reduce_lb1 F0 F1 F2 F3 G1 n a2 a3 b_2 b_3 x x1 x2 x3 (fun a2 a3 b_2 b_3 x x1 x2 x3 => brk 0 [.int a2, .int a3, .int b_2, .int b_3, .int x, .int x1, .int x2, .int x3]) (fun v1 v2 v3 v4 => ret ⟨[.agg [.int .i64 v1, .int .i64 v2], .agg [.int .i64 v3, .int .i64 v4]], []⟩) := by kernel_rfl
theorem spec_l10Reduce_l1_eq {α : Type} (k : Nat) (a2 : Int) (a3 : Int) (b_2 : Int) (b_3 : Int) (x : Int) (x1 : Int) (x2 : Int) (x3 : Int) (b0 : Int → Int → Int → Int → Int → Int → Int → Int → Option α) (r0 : Int → Int → Int → Int → Option α) : spec_l10Reduce_lb1 spec_l10Reduced spec_l10Dot spec_l01Floor spec_l01Plus spec_l10Reduce_l1 k a2 a3 b_2 b_3 x x1 x2 x3 b0 r0 = spec_l10Reduce_l1 (k + 1) a2 a3 b_2 b_3 x x1 x2 x3 b0 r0 := (spec_l10Reduce_lb1.eq_1 spec_l10Reduced spec_l10Dot spec_l01Floor spec_l01Plus spec_l10Reduce_l1 k a2 a3 b_2 b_3 x x1 x2 x3 b0 r0).trans (show spec_l10Reduce_l1 (k + 1) a2 a3 b_2 b_3 x x1 x2 x3 b0 r0 = _ from spec_l10Reduce_l1.eq_2 _ _ _ _ _ _ _ _ _ _ _ ).symm
theorem spec_l10Reduce_l1_rn {α : Type} (G : Nat → Int → Int → Int → Int → Int → Int → Int → Int → (Int → Int → Int → Int → Int → Int → Int → Int → Option α) → (Int → Int → Int → Int → Option α) → Option α) (n : Nat) (a2 : Int) (a3 : Int) (b_2 : Int) (b_3 : Int) (x : Int) (x1 : Int) (x2 : Int) (x3 : Int) (brk : Nat → List P1 → Option α) (ret : Res → Option α) : spec_l10Reduce_uG1 G n [.int a2, .int a3, .int b_2, .int b_3, .int x, .int x1, .int x2, .int x3] brk ret = G n a2 a3 b_2 b_3 x x1 x2 x3 (fun a2 a3 b_2 b_3 x x1 x2 x3 => brk 0 [.int a2, .int a3, .int b_2, .int b_3, .int x, .int x1, .int x2, .int x3]) (fun v1 v2 v3 v4 => ret ⟨[.agg [.int .i64 v1, .int .i64 v2], .agg [.int .i64 v3, .int .i64 v4]], []⟩) := rfl
theorem spec_l10Reduce_l1_ev {α : Type} (n : Nat) (a2 : Int) (a3 : Int) (b_2 : Int) (b_3 : Int) (x : Int) (x1 : Int) (x2 : Int) (x3 : Int) (brk : Nat → List P1 → Option α) (ret : Res → Option α) : ev ((spec_l10Reduce_X n).env Try.prog Try.f159 2 []) (findLoop (loopsIn (Try.f159.body.getD .skip)) 1) ((spec_l10Reduce_t1.build [.int a2, .int a3, .int b_2, .int b_3, .int x, .int x1, .int x2, .int x3]).getD ⟨[], []⟩) (roundK (2 * 64) spec_l10Reduce_t1 (fun q => spec_l10Reduce_u1 n q brk ret) brk ret) = spec_l10Reduce_u1 (n + 1) [.int a2, .int a3, .int b_2, .int b_3, .int x, .int x1, .int x2, .int x3] brk ret := (spec_l10Reduce_l1_gen spec_l10Reduced spec_l10Dot spec_l01Floor spec_l01Plus spec_l10Reduce_l1 n a2 a3 b_2 b_3 x x1 x2 x3 brk ret).trans ((spec_l10Reduce_l1_eq n a2 a3 b_2 b_3 x x1 x2 x3 (fun a2 a3 b_2 b_3 x x1 x2 x3 => brk 0 [.int a2, .int a3, .int b_2, .int b_3, .int x, .int x1, .int x2, .int x3]) (fun v1 v2 v3 v4 => ret ⟨[.agg [.int .i64 v1, .int .i64 v2], .agg [.int .i64 v3, .int .i64 v4]], []⟩)).trans ((spec_l10Reduce_u1.eq_1 (n + 1) [.int a2, .int a3, .int b_2, .int b_3, .int x, .int x1, .int x2, .int x3] brk ret).trans (spec_l10Reduce_l1_rn spec_l10Reduce_l1 (n + 1) a2 a3 b_2 b_3 x x1 x2 x3 brk ret)).symm)
def spec_l10Reduce_body {α : Type} (F0 : Nat → Int → Int → Int → Int → (Bool → Option α) → Option α) (F1 : Nat → Int → Int → Int → Int → (Int → Option α) → Option α) (F2 : Nat → Int → Int → (Int → Option α) → Option α) (F3 : Nat → Int → Int → Int → Int → Int → (Int → Int → Option α) → Option α) (G1 : Nat → Int → Int → Int → Int → Int → Int → Int → Int → (Int → Int → Int → Int → Int → Int → Int → Int → Option α) → (Int → Int → Int → Int → Option α) → Option α) (k : Nat) (a : Int) (a1 : Int) (b_ : Int) (b_1 : Int) (r0 : Int → Int → Int → Int → Option α) : Option α :=
  G1 k a a1 b_ b_1 0 0 0 0
    (fun a4 a5 b_4 b_5 x4 x5 x6 x7 =>
      r0 a4 a5 b_4 b_5)
    r0
theorem spec_l10Reduce_gen {α : Type} (F0 : Nat → Int → Int → Int → Int → (Bool → Option α) → Option α) (F1 : Nat → Int → Int → Int → Int → (Int → Option α) → Option α) (F2 : Nat → Int → Int → (Int → Option α) → Option α) (F3 : Nat → Int → Int → Int → Int → Int → (Int → Int → Option α) → Option α) (G1 : Nat → Int → Int → Int → Int → Int → Int → Int → Int → (Int → Int → Int → Int → Int → Int → Int → Int → Option α) → (Int → Int → Int → Int → Option α) → Option α) (n : Nat) (a : Int) (a1 : Int) (b_ : Int) (b_1 : Int) (κ : Res → Option α) : evFn Try.prog (spec_l10Reduce_XG F0 F1 F2 F3 G1 n) Try.f159 (((buildDs spec_l10Reduce_sh [.int a, .int a1, .int b_, .int b_1]).map Prod.fst).getD []) κ = spec_l10Reduce_body F0 F1 F2 F3 G1 n a a1 b_ b_1 (fun v1 v2 v3 v4 => κ ⟨[.agg [.int .i64 v1, .int .i64 v2], .agg [.int .i64 v3, .int .i64 v4]], []⟩) := by kernel_rfl
theorem spec_l10Reduce_eq {α : Type} (n : Nat) (a : Int) (a1 : Int) (b_ : Int) (b_1 : Int) (r0 : Int → Int → Int → Int → Option α) : spec_l10Reduce_body spec_l10Reduced spec_l10Dot spec_l01Floor spec_l01Plus spec_l10Reduce_l1 n a a1 b_ b_1 r0 = spec_l10Reduce n a a1 b_ b_1 r0 := (spec_l10Reduce_body.eq_1 spec_l10Reduced spec_l10Dot spec_l01Floor spec_l01Plus spec_l10Reduce_l1 n a a1 b_ b_1 r0).trans (spec_l10Reduce.eq_1 n a a1 b_ b_1 r0).symm
theorem spec_l10Reduce_rn {α : Type} (F : Nat → Int → Int → Int → Int → (Int → Int → Int → Int → Option α) → Option α) (n : Nat) (a : Int) (a1 : Int) (b_ : Int) (b_1 : Int) (κ : Res → Option α) : spec_l10Reduce_runG F n [.int a, .int a1, .int b_, .int b_1] κ = F n a a1 b_ b_1 (fun v1 v2 v3 v4 => κ ⟨[.agg [.int .i64 v1, .int .i64 v2], .agg [.int .i64 v3, .int .i64 v4]], []⟩) := rfl
theorem spec_l10Reduce_ev {α : Type} (n : Nat) (a : Int) (a1 : Int) (b_ : Int) (b_1 : Int) (κ : Res → Option α) : evFn Try.prog (spec_l10Reduce_X n) Try.f159 (((buildDs spec_l10Reduce_sh [.int a, .int a1, .int b_, .int b_1]).map Prod.fst).getD []) κ = spec_l10Reduce_run n [.int a, .int a1, .int b_, .int b_1] κ := (spec_l10Reduce_gen spec_l10Reduced spec_l10Dot spec_l01Floor spec_l01Plus spec_l10Reduce_l1 n a a1 b_ b_1 κ).trans ((spec_l10Reduce_eq n a a1 b_ b_1 (fun v1 v2 v3 v4 => κ ⟨[.agg [.int .i64 v1, .int .i64 v2], .agg [.int .i64 v3, .int .i64 v4]], []⟩)).trans ((spec_l10Reduce_run.eq_1 n [.int a, .int a1, .int b_, .int b_1] κ).trans (spec_l10Reduce_rn spec_l10Reduce n a a1 b_ b_1 κ)).symm)
theorem spec_l10Reduce_en (a : Int) (a1 : Int) (b_ : Int) (b_1 : Int) : (entry 0 (((buildDs spec_l10Reduce_sh [.int a, .int a1, .int b_, .int b_1]).map Prod.fst).getD [])).map (fun x => (x.1.length, x.2.lent)) = some (2, []) := by kernel_rfl
theorem spec_l10Reduce_good {α : Type} : ∀ n, GoodFn (α := α) Try.prog 159 (byShape spec_l10Reduce_sh (spec_l10Reduce_run n)) := by
  refine fn_good' Try.func159 (c := (Try.f159.body.getD .skip)) (by kernel_rfl) (by kernel_rfl) (by kernel_rfl) spec_l10Reduce_C spec_l10Reduce_M eqs spec_l10Reduce_lps (fun n => tabC_good (List.forall_mem_cons.2 ⟨(spec_l10Reduced_good n), (List.forall_mem_cons.2 ⟨(spec_l10Dot_good n), (List.forall_mem_cons.2 ⟨(spec_l01Floor_good n), (List.forall_mem_cons.2 ⟨(spec_l01Plus_good n), (fun _ h => absurd h List.not_mem_nil)⟩)⟩)⟩)⟩)) eqs_ok spec_l10Reduce_Lt ?_ ?_ spec_l10Reduce_sh spec_l10Reduce_run ?_
  · refine List.forall_mem_cons.2 ⟨?_, (fun _ h => absurd h List.not_mem_nil)⟩
    · intro p brk ret; show spec_l10Reduce_u1 0 p brk ret = none; unfold spec_l10Reduce_u1 spec_l10Reduce_uG1; split <;> rfl
  · refine List.forall_mem_cons.2 ⟨?_, (fun _ h => absurd h List.not_mem_nil)⟩
    · intro np lent hL n p brk ret st r hb hr
      obtain ⟨rfl, rfl⟩ := hL
      rw [← tpl_of hb]
      change spec_l10Reduce_u1 (n + 1) p brk ret = some r at hr
      have hr0 := hr
      unfold spec_l10Reduce_u1 spec_l10Reduce_uG1 at hr
      split at hr
      · exact (spec_l10Reduce_l1_ev n _ _ _ _ _ _ _ _ brk ret).trans hr0
      · cases hr
  · intro n p κ r ds hd hr
    have hr0 := hr
    unfold spec_l10Reduce_run spec_l10Reduce_runG at hr
    split at hr
    · rw [← ds_of hd]
      exact ⟨en_of (spec_l10Reduce_en _ _ _ _) ⟨rfl, rfl⟩, (spec_l10Reduce_ev n _ _ _ _ κ).trans hr0⟩
    · cases hr

/-! loop.example/g01297/spec.ReducePair -/
def spec_ReducePair_sh : List SkD := [.agg [.int .i64, .int .i64], .agg [.int .i64, .int .i64]]
def spec_ReducePair_runG {α : Type} (F : Nat → Int → Int → Int → Int → (Int → Option α) → ((List (Int × Int)) → Int → Option α) → Option α) (n : Nat) (p : List P1) (κ : Res → Option α) : Option α := match p with
  | [.int a, .int a1, .int b_, .int b_1] => F n a a1 b_ b_1 (fun v1 => κ ⟨[.nilsl, .int .i64 v1], []⟩) (fun v1 v2 => κ ⟨[.sl 26 .pt v1, .int .i64 v2], []⟩)
  | _ => none
def spec_ReducePair_run {α : Type} (n : Nat) (p : List P1) (κ : Res → Option α) : Option α := spec_ReducePair_runG spec_ReducePair n p κ
def spec_ReducePair_CG {α : Type} (F0 : Nat → Int → Int → Int → Int → (Int → Option α) → Option α) (F1 : Nat → Int → Int → Int → Int → (Int → Int → Int → Int → Option α) → Option α) (n : Nat) : FuncId → List D → (Res → Option α) → Option α := tabC [(158, (byShape spec_l10Pair_sh (spec_l10Pair_runG F0 n))), (159, (byShape spec_l10Reduce_sh (spec_l10Reduce_runG F1 n)))]
def spec_ReducePair_C {α : Type} (n : Nat) : FuncId → List D → (Res → Option α) → Option α := spec_ReducePair_CG spec_l10Pair spec_l10Reduce n
def spec_ReducePair_M : FuncId → List Nat := tabM []
def spec_ReducePair_lpsG {α : Type}  : List (LoopT α) := []
def spec_ReducePair_lps {α : Type} : List (LoopT α) := spec_ReducePair_lpsG
def spec_ReducePair_XG {α : Type} (F0 : Nat → Int → Int → Int → Int → (Int → Option α) → Option α) (F1 : Nat → Int → Int → Int → Int → (Int → Int → Int → Int → Option α) → Option α)  (n : Nat) : Ctx α := ⟨spec_ReducePair_CG F0 F1 n, spec_ReducePair_M, eqs, lpOf (spec_ReducePair_lpsG) n⟩
def spec_ReducePair_X {α : Type} (n : Nat) : Ctx α := spec_ReducePair_XG spec_l10Pair spec_l10Reduce n
def spec_ReducePair_Lt (np : Nat) (lent : List (Bool × Nat × Blk)) : Prop := np = 2 ∧ lent = []
def spec_ReducePair_body {α : Type} (F0 : Nat → Int → Int → Int → Int → (Int → Option α) → Option α) (F1 : Nat → Int → Int → Int → Int → (Int → Int → Int → Int → Option α) → Option α)  (k : Nat) (a : Int) (a1 : Int) (b_ : Int) (b_1 : Int) (r0 : Int → Option α) (r1 : (List (Int × Int)) → Int → Option α) : Option α :=
  F0 k a a1 b_ b_1 fun v =>
  bif (!decide (v = 0)) then
    r0 v
  else
    F1 k a a1 b_ b_1 fun v1 v2 v3 v4 =>
    r1 [(v1, v2), (v3, v4)] 0
theorem spec_ReducePair_gen {α : Type} (F0 : Nat → Int → Int → Int → Int → (Int → Option α) → Option α) (F1 : Nat → Int → Int → Int → Int → (Int → Int → Int → Int → Option α) → Option α)  (n : Nat) (a : Int) (a1 : Int) (b_ : Int) (b_1 : Int) (κ : Res → Option α) : evFn Try.prog (spec_ReducePair_XG F0 F1 n) Try.f21 (((buildDs spec_ReducePair_sh [.int a, .int a1, .int b_, .int b_1]).map Prod.fst).getD []) κ = spec_ReducePair_body F0 F1 n a a1 b_ b_1 (fun v1 => κ ⟨[.nilsl, .int .i64 v1], []⟩) (fun v1 v2 => κ ⟨[.sl 26 .pt v1, .int .i64 v2], []⟩) := by kernel_rfl
theorem spec_ReducePair_eq {α : Type} (n : Nat) (a : Int) (a1 : Int) (b_ : Int) (b_1 : Int) (r0 : Int → Option α) (r1 : (List (Int × Int)) → Int → Option α) : spec_ReducePair_body spec_l10Pair spec_l10Reduce n a a1 b_ b_1 r0 r1 = spec_ReducePair n a a1 b_ b_1 r0 r1 := (spec_ReducePair_body.eq_1 spec_l10Pair spec_l10Reduce n a a1 b_ b_1 r0 r1).trans (spec_ReducePair.eq_1 n a a1 b_ b_1 r0 r1).symm
theorem spec_ReducePair_rn {α : Type} (F : Nat → Int → Int → Int → Int → (Int → Option α) → ((List (Int × Int)) → Int → Option α) → Option α) (n : Nat) (a : Int) (a1 : Int) (b_ : Int) (b_1 : Int) (κ : Res → Option α) : spec_ReducePair_runG F n [.int a, .int a1, .int b_, .int b_1] κ = F n a a1 b_ b_1 (fun v1 => κ ⟨[.nilsl, .int .i64 v1], []⟩) (fun v1 v2 => κ ⟨[.sl 26 .pt v1, .int .i64 v2], []⟩) := rfl
theorem spec_ReducePair_ev {α : Type} (n : Nat) (a : Int) (a1 : Int) (b_ : Int) (b_1 : Int) (κ : Res → Option α) : evFn Try.prog (spec_ReducePair_X n) Try.f21 (((buildDs spec_ReducePair_sh [.int a, .int a1, .int b_, .int b_1]).map Prod.fst).getD []) κ = spec_ReducePair_run n [.int a, .int a1, .int b_, .int b_1] κ := (spec_ReducePair_gen spec_l10Pair spec_l10Reduce n a a1 b_ b_1 κ).trans ((spec_ReducePair_eq n a a1 b_ b_1 (fun v1 => κ ⟨[.nilsl, .int .i64 v1], []⟩) (fun v1 v2 => κ ⟨[.sl 26 .pt v1, .int .i64 v2], []⟩)).trans ((spec_ReducePair_run.eq_1 n [.int a, .int a1, .int b_, .int b_1] κ).trans (spec_ReducePair_rn spec_ReducePair n a a1 b_ b_1 κ)).symm)
theorem spec_ReducePair_en (a : Int) (a1 : Int) (b_ : Int) (b_1 : Int) : (entry 0 (((buildDs spec_ReducePair_sh [.int a, .int a1, .int b_, .int b_1]).map Prod.fst).getD [])).map (fun x => (x.1.length, x.2.lent)) = some (2, []) := by kernel_rfl
theorem spec_ReducePair_good {α : Type} : ∀ n, GoodFn (α := α) Try.prog 21 (byShape spec_ReducePair_sh (spec_ReducePair_run n)) := by
  refine fn_good' Try.func21 (c := (Try.f21.body.getD .skip)) (by kernel_rfl) (by kernel_rfl) (by kernel_rfl) spec_ReducePair_C spec_ReducePair_M eqs spec_ReducePair_lps (fun n => tabC_good (List.forall_mem_cons.2 ⟨(spec_l10Pair_good n), (List.forall_mem_cons.2 ⟨(spec_l10Reduce_good n), (fun _ h => absurd h List.not_mem_nil)⟩)⟩)) eqs_ok spec_ReducePair_Lt ?_ ?_ spec_ReducePair_sh spec_ReducePair_run ?_
  · exact (fun _ h => absurd h List.not_mem_nil)
  · exact (fun _ h => absurd h List.not_mem_nil)
  · intro n p κ r ds hd hr
    have hr0 := hr
    unfold spec_ReducePair_run spec_ReducePair_runG at hr
    split at hr
    · rw [← ds_of hd]
      exact ⟨en_of (spec_ReducePair_en _ _ _ _) ⟨rfl, rfl⟩, (spec_ReducePair_ev n _ _ _ _ κ).trans hr0⟩
    · cases hr

/-! loop.example/g01297/laws.points9 -/
def laws_points9_0N_1N_sh : List SkD := [.nilsl, .nilsl]
def laws_points9_0N_1N_runG {α : Type} (F : Nat → (Bool → Option α) → Option α) (n : Nat) (p : List P1) (κ : Res → Option α) : Option α := match p with
  | [] => F n (fun v1 => κ ⟨[.bool v1], []⟩)
  | _ => none
def laws_points9_0N_1N_run {α : Type} (n : Nat) (p : List P1) (κ : Res → Option α) : Option α := laws_points9_0N_1N_runG laws_points9_0N_1N n p κ
def laws_points9_0N_1N_CG {α : Type}  (n : Nat) : FuncId → List D → (Res → Option α) → Option α := tabC []
def laws_points9_0N_1N_C {α : Type} (n : Nat) : FuncId → List D → (Res → Option α) → Option α := laws_points9_0N_1N_CG n
def laws_points9_0N_1N_M : FuncId → List Nat := tabM []
def laws_points9_0N_1N_lpsG {α : Type}  : List (LoopT α) := []
def laws_points9_0N_1N_lps {α : Type} : List (LoopT α) := laws_points9_0N_1N_lpsG
def laws_points9_0N_1N_XG {α : Type}   (n : Nat) : Ctx α := ⟨laws_points9_0N_1N_CG n, laws_points9_0N_1N_M, eqs, lpOf (laws_points9_0N_1N_lpsG) n⟩
def laws_points9_0N_1N_X {α : Type} (n : Nat) : Ctx α := laws_points9_0N_1N_XG n
def laws_points9_0N_1N_Lt (np : Nat) (lent : List (Bool × Nat × Blk)) : Prop := np = 2 ∧ lent = []
def laws_points9_0N_1N_body {α : Type}   (k : Nat)  (r0 : Bool → Option α) : Option α :=
  r0 true
theorem laws_points9_0N_1N_gen {α : Type}   (n : Nat)  (κ : Res → Option α) : evFn Try.prog (laws_points9_0N_1N_XG n) Try.f22 (((buildDs laws_points9_0N_1N_sh []).map Prod.fst).getD []) κ = laws_points9_0N_1N_body n (fun v1 => κ ⟨[.bool v1], []⟩) := by kernel_rfl
theorem laws_points9_0N_1N_eq {α : Type} (n : Nat)  (r0 : Bool → Option α) : laws_points9_0N_1N_body n r0 = laws_points9_0N_1N n  r0 := (laws_points9_0N_1N_body.eq_1 n r0).trans (laws_points9_0N_1N.eq_1 n  r0).symm
theorem laws_points9_0N_1N_rn {α : Type} (F : Nat → (Bool → Option α) → Option α) (n : Nat)  (κ : Res → Option α) : laws_points9_0N_1N_runG F n [] κ = F n  (fun v1 => κ ⟨[.bool v1], []⟩) := rfl
theorem laws_points9_0N_1N_ev {α : Type} (n : Nat)  (κ : Res → Option α) : evFn Try.prog (laws_points9_0N_1N_X n) Try.f22 (((buildDs laws_points9_0N_1N_sh []).map Prod.fst).getD []) κ = laws_points9_0N_1N_run n [] κ := (laws_points9_0N_1N_gen n κ).trans ((laws_points9_0N_1N_eq n  (fun v1 => κ ⟨[.bool v1], []⟩)).trans ((laws_points9_0N_1N_run.eq_1 n [] κ).trans (laws_points9_0N_1N_rn laws_points9_0N_1N n  κ)).symm)
theorem laws_points9_0N_1N_en  : (entry 0 (((buildDs laws_points9_0N_1N_sh []).map Prod.fst).getD [])).map (fun x => (x.1.length, x.2.lent)) = some (2, []) := by kernel_rfl
theorem laws_points9_0N_1N_good {α : Type} : ∀ n, GoodFn (α := α) Try.prog 22 (byShape laws_points9_0N_1N_sh (laws_points9_0N_1N_run n)) := by
  refine fn_good' Try.func22 (c := (Try.f22.body.getD .skip)) (by kernel_rfl) (by kernel_rfl) (by kernel_rfl) laws_points9_0N_1N_C laws_points9_0N_1N_M eqs laws_points9_0N_1N_lps (fun n => tabC_good (fun _ h => absurd h List.not_mem_nil)) eqs_ok laws_points9_0N_1N_Lt ?_ ?_ laws_points9_0N_1N_sh laws_points9_0N_1N_run ?_
  · exact (fun _ h => absurd h List.not_mem_nil)
  · exact (fun _ h => absurd h List.not_mem_nil)
  · intro n p κ r ds hd hr
    have hr0 := hr
    unfold laws_points9_0N_1N_run laws_points9_0N_1N_runG at hr
    split at hr
    · rw [← ds_of hd]
      exact ⟨en_of (laws_points9_0N_1N_en) ⟨rfl, rfl⟩, (laws_points9_0N_1N_ev n κ).trans hr0⟩
    · cases hr

/-! loop.example/g01297/spec.DrawIsReducedPair -/
def spec_DrawIsReducedPair_sh : List SkD := [.sl 5 (.int .u8)]
def spec_DrawIsReducedPair_runG {α : Type} (F : Nat → List Int → (Int → Int → Int → Int → Option α) → Option α) (n : Nat) (p : List P1) (κ : Res → Option α) : Option α := match p with
  | [.rows (.int .u8) code] => F n code (fun v1 v2 v3 v4 => κ ⟨[.agg [.int .i64 v1, .int .i64 v2], .agg [.int .i64 v3, .int .i64 v4]], []⟩)
  | _ => none
def spec_DrawIsReducedPair_run {α : Type} (n : Nat) (p : List P1) (κ : Res → Option α) : Option α := spec_DrawIsReducedPair_runG spec_DrawIsReducedPair n p κ
def spec_DrawIsReducedPair_CG {α : Type} (F0 : Nat → List Int → (Int → Int → Option α) → Option α) (F1 : Nat → List Int → (Int → Int → Int → Int → Option α) → Option α) (F2 : Nat → Int → Int → Int → Int → (Int → Option α) → Option α) (F3 : Nat → List Int → Int → Int → Int → (Int → Int → Int → Option α) → Option α) (F4 : Nat → Int → Int → Int → Int → (Int → Int → Int → Int → Option α) → Option α) (n : Nat) : FuncId → List D → (Res → Option α) → Option α := tabC [(160, (byShape spec_l01From_sh (spec_l01From_runG F0 n))), (151, (byShape spec_l10Points_sh (spec_l10Points_runG F1 n))), (158, (byShape spec_l10Pair_sh (spec_l10Pair_runG F2 n))), (161, (byShape spec_l01Next_sh (spec_l01Next_runG F3 n))), (159, (byShape spec_l10Reduce_sh (spec_l10Reduce_runG F4 n)))]
def spec_DrawIsReducedPair_C {α : Type} (n : Nat) : FuncId → List D → (Res → Option α) → Option α := spec_DrawIsReducedPair_CG spec_l01From spec_l10Points spec_l10Pair spec_l01Next spec_l10Reduce n
def spec_DrawIsReducedPair_M : FuncId → List Nat := tabM [(161, [1])]
def spec_DrawIsReducedPair_lpsG {α : Type}  : List (LoopT α) := []
def spec_DrawIsReducedPair_lps {α : Type} : List (LoopT α) := spec_DrawIsReducedPair_lpsG
def spec_DrawIsReducedPair_XG {α : Type} (F0 : Nat → List Int → (Int → Int → Option α) → Option α) (F1 : Nat → List Int → (Int → Int → Int → Int → Option α) → Option α) (F2 : Nat → Int → Int → Int → Int → (Int → Option α) → Option α) (F3 : Nat → List Int → Int → Int → Int → (Int → Int → Int → Option α) → Option α) (F4 : Nat → Int → Int → Int → Int → (Int → Int → Int → Int → Option α) → Option α)  (n : Nat) : Ctx α := ⟨spec_DrawIsReducedPair_CG F0 F1 F2 F3 F4 n, spec_DrawIsReducedPair_M, eqs, lpOf (spec_DrawIsReducedPair_lpsG) n⟩
def spec_DrawIsReducedPair_X {α : Type} (n : Nat) : Ctx α := spec_DrawIsReducedPair_XG spec_l01From spec_l10Points spec_l10Pair spec_l01Next spec_l10Reduce n
def spec_DrawIsReducedPair_Lt (np : Nat) (lent : List (Bool × Nat × Blk)) : Prop := np = 1 ∧ lent = []
def spec_DrawIsReducedPair_body {α : Type} (F0 : Nat → List Int → (Int → Int → Option α) → Option α) (F1 : Nat → List Int → (Int → Int → Int → Int → Option α) → Option α) (F2 : Nat → Int → Int → Int → Int → (Int → Option α) → Option α) (F3 : Nat → List Int → Int → Int → Int → (Int → Int → Int → Option α) → Option α) (F4 : Nat → Int → Int → Int → Int → (Int → Int → Int → Int → Option α) → Option α)  (k : Nat) (code : List Int) (r0 : Int → Int → Int → Int → Option α) : Option α :=
  F0 k code fun v v1 =>
  F1 k code fun v2 v3 v4 v5 =>
  F2 k v2 v3 v4 v5 fun v6 =>
  bif decide (v6 = 0) then
    F3 k code v v1 2 fun v7 v8 v9 =>
    bif decide (v7 = 0) then
      F4 k v2 v3 v4 v5 fun v10 v11 v12 v13 =>
      r0 v10 v11 v12 v13
    else
      r0 v2 v3 v4 v5
  else
    r0 v2 v3 v4 v5
theorem spec_DrawIsReducedPair_gen {α : Type} (F0 : Nat → List Int → (Int → Int → Option α) → Option α) (F1 : Nat → List Int → (Int → Int → Int → Int → Option α) → Option α) (F2 : Nat → Int → Int → Int → Int → (Int → Option α) → Option α) (F3 : Nat → List Int → Int → Int → Int → (Int → Int → Int → Option α) → Option α) (F4 : Nat → Int → Int → Int → Int → (Int → Int → Int → Int → Option α) → Option α)  (n : Nat) (code : List Int) (κ : Res → Option α) : evFn Try.prog (spec_DrawIsReducedPair_XG F0 F1 F2 F3 F4 n) Try.f23 (((buildDs spec_DrawIsReducedPair_sh [.rows (.int .u8) code]).map Prod.fst).getD []) κ = spec_DrawIsReducedPair_body F0 F1 F2 F3 F4 n code (fun v1 v2 v3 v4 => κ ⟨[.agg [.int .i64 v1, .int .i64 v2], .agg [.int .i64 v3, .int .i64 v4]], []⟩) := by kernel_rfl
theorem spec_DrawIsReducedPair_eq {α : Type} (n : Nat) (code : List Int) (r0 : Int → Int → Int → Int → Option α) : spec_DrawIsReducedPair_body spec_l01From spec_l10Points spec_l10Pair spec_l01Next spec_l10Reduce n code r0 = spec_DrawIsReducedPair n code r0 := (spec_DrawIsReducedPair_body.eq_1 spec_l01From spec_l10Points spec_l10Pair spec_l01Next spec_l10Reduce n code r0).trans (spec_DrawIsReducedPair.eq_1 n code r0).symm
theorem spec_DrawIsReducedPair_rn {α : Type} (F : Nat → List Int → (Int → Int → Int → Int → Option α) → Option α) (n : Nat) (code : List Int) (κ : Res → Option α) : spec_DrawIsReducedPair_runG F n [.rows (.int .u8) code] κ = F n code (fun v1 v2 v3 v4 => κ ⟨[.agg [.int .i64 v1, .int .i64 v2], .agg [.int .i64 v3, .int .i64 v4]], []⟩) := rfl
theorem spec_DrawIsReducedPair_ev {α : Type} (n : Nat) (code : List Int) (κ : Res → Option α) : evFn Try.prog (spec_DrawIsReducedPair_X n) Try.f23 (((buildDs spec_DrawIsReducedPair_sh [.rows (.int .u8) code]).map Prod.fst).getD []) κ = spec_DrawIsReducedPair_run n [.rows (.int .u8) code] κ := (spec_DrawIsReducedPair_gen spec_l01From spec_l10Points spec_l10Pair spec_l01Next spec_l10Reduce n code κ).trans ((spec_DrawIsReducedPair_eq n code (fun v1 v2 v3 v4 => κ ⟨[.agg [.int .i64 v1, .int .i64 v2], .agg [.int .i64 v3, .int .i64 v4]], []⟩)).trans ((spec_DrawIsReducedPair_run.eq_1 n [.rows (.int .u8) code] κ).trans (spec_DrawIsReducedPair_rn spec_DrawIsReducedPair n code κ)).symm)
theorem spec_DrawIsReducedPair_en (code : List Int) : (entry 0 (((buildDs spec_DrawIsReducedPair_sh [.rows (.int .u8) code]).map Prod.fst).getD [])).map (fun x => (x.1.length, x.2.lent)) = some (1, []) := by kernel_rfl
theorem spec_DrawIsReducedPair_good {α : Type} : ∀ n, GoodFn (α := α) Try.prog 23 (byShape spec_DrawIsReducedPair_sh (spec_DrawIsReducedPair_run n)) := by
  refine fn_good' Try.func23 (c := (Try.f23.body.getD .skip)) (by kernel_rfl) (by kernel_rfl) (by kernel_rfl) spec_DrawIsReducedPair_C spec_DrawIsReducedPair_M eqs spec_DrawIsReducedPair_lps (fun n => tabC_good (List.forall_mem_cons.2 ⟨(spec_l01From_good n), (List.forall_mem_cons.2 ⟨(spec_l10Points_good n), (List.forall_mem_cons.2 ⟨(spec_l10Pair_good n), (List.forall_mem_cons.2 ⟨(spec_l01Next_good n), (List.forall_mem_cons.2 ⟨(spec_l10Reduce_good n), (fun _ h => absurd h List.not_mem_nil)⟩)⟩)⟩)⟩)⟩)) eqs_ok spec_DrawIsReducedPair_Lt ?_ ?_ spec_DrawIsReducedPair_sh spec_DrawIsReducedPair_run ?_
  · exact (fun _ h => absurd h List.not_mem_nil)
  · exact (fun _ h => absurd h List.not_mem_nil)
  · intro n p κ r ds hd hr
    have hr0 := hr
    unfold spec_DrawIsReducedPair_run spec_DrawIsReducedPair_runG at hr
    split at hr
    · rw [← ds_of hd]
      exact ⟨en_of (spec_DrawIsReducedPair_en _) ⟨rfl, rfl⟩, (spec_DrawIsReducedPair_ev n _ κ).trans hr0⟩
    · cases hr

/-! loop.example/g01297/impl.IsReducedPair -/
def impl_IsReducedPair_sh : List SkD := [.agg [.int .i64, .int .i64], .agg [.int .i64, .int .i64]]
def impl_IsReducedPair_runG {α : Type} (F : Nat → Int → Int → Int → Int → (Bool → Int → Option α) → Option α) (n : Nat) (p : List P1) (κ : Res → Option α) : Option α := match p with
  | [.int a, .int a1, .int b_, .int b_1] => F n a a1 b_ b_1 (fun v1 v2 => κ ⟨[.bool v1, .int .i64 v2], []⟩)
  | _ => none
def impl_IsReducedPair_run {α : Type} (n : Nat) (p : List P1) (κ : Res → Option α) : Option α := impl_IsReducedPair_runG impl_IsReducedPair n p κ
def impl_IsReducedPair_CG {α : Type} (F0 : Nat → Int → Int → Int → Int → (Int → Option α) → Option α) (F1 : Nat → Int → Int → Int → Int → (Bool → Option α) → Option α) (n : Nat) : FuncId → List D → (Res → Option α) → Option α := tabC [(152, (byShape impl_pairFault_sh (impl_pairFault_runG F0 n))), (153, (byShape impl_isReduced_sh (impl_isReduced_runG F1 n)))]
def impl_IsReducedPair_C {α : Type} (n : Nat) : FuncId → List D → (Res → Option α) → Option α := impl_IsReducedPair_CG impl_pairFault impl_isReduced n
def impl_IsReducedPair_M : FuncId → List Nat := tabM []
def impl_IsReducedPair_lpsG {α : Type}  : List (LoopT α) := []
def impl_IsReducedPair_lps {α : Type} : List (LoopT α) := impl_IsReducedPair_lpsG
def impl_IsReducedPair_XG {α : Type} (F0 : Nat → Int → Int → Int → Int → (Int → Option α) → Option α) (F1 : Nat → Int → Int → Int → Int → (Bool → Option α) → Option α)  (n : Nat) : Ctx α := ⟨impl_IsReducedPair_CG F0 F1 n, impl_IsReducedPair_M, eqs, lpOf (impl_IsReducedPair_lpsG) n⟩
def impl_IsReducedPair_X {α : Type} (n : Nat) : Ctx α := impl_IsReducedPair_XG impl_pairFault impl_isReduced n
def impl_IsReducedPair_Lt (np : Nat) (lent : List (Bool × Nat × Blk)) : Prop := np = 2 ∧ lent = []
def impl_IsReducedPair_body {α : Type} (F0 : Nat → Int → Int → Int → Int → (Int → Option α) → Option α) (F1 : Nat → Int → Int → Int → Int → (Bool → Option α) → Option α)  (k : Nat) (a : Int) (a1 : Int) (b_ : Int) (b_1 : Int) (r0 : Bool → Int → Option α) : Option α :=
  F0 k a a1 b_ b_1 fun v =>
  bif (!decide (v = 0)) then
    r0 false v
  else
    F1 k a a1 b_ b_1 fun v1 =>
    r0 v1 0
theorem impl_IsReducedPair_gen {α : Type} (F0 : Nat → Int → Int → Int → Int → (Int → Option α) → Option α) (F1 : Nat → Int → Int → Int → Int → (Bool → Option α) → Option α)  (n : Nat) (a : Int) (a1 : Int) (b_ : Int) (b_1 : Int) (κ : Res → Option α) : evFn Try.prog (impl_IsReducedPair_XG F0 F1 n) Try.f24 (((buildDs impl_IsReducedPair_sh [.int a, .int a1, .int b_, .int b_1]).map Prod.fst).getD []) κ = impl_IsReducedPair_body F0 F1 n a a1 b_ b_1 (fun v1 v2 => κ ⟨[.bool v1, .int .i64 v2], []⟩) := by kernel_rfl
theorem impl_IsReducedPair_eq {α : Type} (n : Nat) (a : Int) (a1 : Int) (b_ : Int) (b_1 : Int) (r0 : Bool → Int → Option α) : impl_IsReducedPair_body impl_pairFault impl_isReduced n a a1 b_ b_1 r0 = impl_IsReducedPair n a a1 b_ b_1 r0 := (impl_IsReducedPair_body.eq_1 impl_pairFault impl_isReduced n a a1 b_ b_1 r0).trans (impl_IsReducedPair.eq_1 n a a1 b_ b_1 r0).symm
theorem impl_IsReducedPair_rn {α : Type} (F : Nat → Int → Int → Int → Int → (Bool → Int → Option α) → Option α) (n : Nat) (a : Int) (a1 : Int) (b_ : Int) (b_1 : Int) (κ : Res → Option α) : impl_IsReducedPair_runG F n [.int a, .int a1, .int b_, .int b_1] κ = F n a a1 b_ b_1 (fun v1 v2 => κ ⟨[.bool v1, .int .i64 v2], []⟩) := rfl
theorem impl_IsReducedPair_ev {α : Type} (n : Nat) (a : Int) (a1 : Int) (b_ : Int) (b_1 : Int) (κ : Res → Option α) : evFn Try.prog (impl_IsReducedPair_X n) Try.f24 (((buildDs impl_IsReducedPair_sh [.int a, .int a1, .int b_, .int b_1]).map Prod.fst).getD []) κ = impl_IsReducedPair_run n [.int a, .int a1, .int b_, .int b_1] κ := (impl_IsReducedPair_gen impl_pairFault impl_isReduced n a a1 b_ b_1 κ).trans ((impl_IsReducedPair_eq n a a1 b_ b_1 (fun v1 v2 => κ ⟨[.bool v1, .int .i64 v2], []⟩)).trans ((impl_IsReducedPair_run.eq_1 n [.int a, .int a1, .int b_, .int b_1] κ).trans (impl_IsReducedPair_rn impl_IsReducedPair n a a1 b_ b_1 κ)).symm)
theorem impl_IsReducedPair_en (a : Int) (a1 : Int) (b_ : Int) (b_1 : Int) : (entry 0 (((buildDs impl_IsReducedPair_sh [.int a, .int a1, .int b_, .int b_1]).map Prod.fst).getD [])).map (fun x => (x.1.length, x.2.lent)) = some (2, []) := by kernel_rfl
theorem impl_IsReducedPair_good {α : Type} : ∀ n, GoodFn (α := α) Try.prog 24 (byShape impl_IsReducedPair_sh (impl_IsReducedPair_run n)) := by
  refine fn_good' Try.func24 (c := (Try.f24.body.getD .skip)) (by kernel_rfl) (by kernel_rfl) (by kernel_rfl) impl_IsReducedPair_C impl_IsReducedPair_M eqs impl_IsReducedPair_lps (fun n => tabC_good (List.forall_mem_cons.2 ⟨(impl_pairFault_good n), (List.forall_mem_cons.2 ⟨(impl_isReduced_good n), (fun _ h => absurd h List.not_mem_nil)⟩)⟩)) eqs_ok impl_IsReducedPair_Lt ?_ ?_ impl_IsReducedPair_sh impl_IsReducedPair_run ?_
  · exact (fun _ h => absurd h List.not_mem_nil)
  · exact (fun _ h => absurd h List.not_mem_nil)
  · intro n p κ r ds hd hr
    have hr0 := hr
    unfold impl_IsReducedPair_run impl_IsReducedPair_runG at hr
    split at hr
    · rw [← ds_of hd]
      exact ⟨en_of (impl_IsReducedPair_en _ _ _ _) ⟨rfl, rfl⟩, (impl_IsReducedPair_ev n _ _ _ _ κ).trans hr0⟩
    · cases hr

/-! loop.example/g01297/spec.IsReducedPair -/
def spec_IsReducedPair_sh : List SkD := [.agg [.int .i64, .int .i64], .agg [.int .i64, .int .i64]]
def spec_IsReducedPair_runG {α : Type} (F : Nat → Int → Int → Int → Int → (Bool → Int → Option α) → Option α) (n : Nat) (p : List P1) (κ : Res → Option α) : Option α := match p with
  | [.int a, .int a1, .int b_, .int b_1] => F n a a1 b_ b_1 (fun v1 v2 => κ ⟨[.bool v1, .int .i64 v2], []⟩)
  | _ => none
def spec_IsReducedPair_run {α : Type} (n : Nat) (p : List P1) (κ : Res → Option α) : Option α := spec_IsReducedPair_runG spec_IsReducedPair n p κ
def spec_IsReducedPair_CG {α : Type} (F0 : Nat → Int → Int → Int → Int → (Int → Option α) → Option α) (F1 : Nat → Int → Int → Int → Int → (Bool → Option α) → Option α) (n : Nat) : FuncId → List D → (Res → Option α) → Option α := tabC [(158, (byShape spec_l10Pair_sh (spec_l10Pair_runG F0 n))), (162, (byShape spec_l10Reduced_sh (spec_l10Reduced_runG F1 n)))]
def spec_IsReducedPair_C {α : Type} (n : Nat) : FuncId → List D → (Res → Option α) → Option α := spec_IsReducedPair_CG spec_l10Pair spec_l10Reduced n
def spec_IsReducedPair_M : FuncId → List Nat := tabM []
def spec_IsReducedPair_lpsG {α : Type}  : List (LoopT α) := []
def spec_IsReducedPair_lps {α : Type} : List (LoopT α) := spec_IsReducedPair_lpsG
def spec_IsReducedPair_XG {α : Type} (F0 : Nat → Int → Int → Int → Int → (Int → Option α) → Option α) (F1 : Nat → Int → Int → Int → Int → (Bool → Option α) → Option α)  (n : Nat) : Ctx α := ⟨spec_IsReducedPair_CG F0 F1 n, spec_IsReducedPair_M, eqs, lpOf (spec_IsReducedPair_lpsG) n⟩
def spec_IsReducedPair_X {α : Type} (n : Nat) : Ctx α := spec_IsReducedPair_XG spec_l10Pair spec_l10Reduced n
def spec_IsReducedPair_Lt (np : Nat) (lent : List (Bool × Nat × Blk)) : Prop := np = 2 ∧ lent = []
def spec_IsReducedPair_body {α : Type} (F0 : Nat → Int → Int → Int → Int → (Int → Option α) → Option α) (F1 : Nat → Int → Int → Int → Int → (Bool → Option α) → Option α)  (k : Nat) (a : Int) (a1 : Int) (b_ : Int) (b_1 : Int) (r0 : Bool → Int → Option α) : Option α :=
  F0 k a a1 b_ b_1 fun v =>
  bif (!decide (v = 0)) then
    r0 false v
  else
    F1 k a a1 b_ b_1 fun v1 =>
    r0 v1 0
theorem spec_IsReducedPair_gen {α : Type} (F0 : Nat → Int → Int → Int → Int → (Int → Option α) → Option α) (F1 : Nat → Int → Int → Int → Int → (Bool → Option α) → Option α)  (n : Nat) (a : Int) (a1 : Int) (b_ : Int) (b_1 : Int) (κ : Res → Option α) : evFn Try.prog (spec_IsReducedPair_XG F0 F1 n) Try.f25 (((buildDs spec_IsReducedPair_sh [.int a, .int a1, .int b_, .int b_1]).map Prod.fst).getD []) κ = spec_IsReducedPair_body F0 F1 n a a1 b_ b_1 (fun v1 v2 => κ ⟨[.bool v1, .int .i64 v2], []⟩) := by kernel_rfl
theorem spec_IsReducedPair_eq {α : Type} (n : Nat) (a : Int) (a1 : Int) (b_ : Int) (b_1 : Int) (r0 : Bool → Int → Option α) : spec_IsReducedPair_body spec_l10Pair spec_l10Reduced n a a1 b_ b_1 r0 = spec_IsReducedPair n a a1 b_ b_1 r0 := (spec_IsReducedPair_body.eq_1 spec_l10Pair spec_l10Reduced n a a1 b_ b_1 r0).trans (spec_IsReducedPair.eq_1 n a a1 b_ b_1 r0).symm
theorem spec_IsReducedPair_rn {α : Type} (F : Nat → Int → Int → Int → Int → (Bool → Int → Option α) → Option α) (n : Nat) (a : Int) (a1 : Int) (b_ : Int) (b_1 : Int) (κ : Res → Option α) : spec_IsReducedPair_runG F n [.int a, .int a1, .int b_, .int b_1] κ = F n a a1 b_ b_1 (fun v1 v2 => κ ⟨[.bool v1, .int .i64 v2], []⟩) := rfl
theorem spec_IsReducedPair_ev {α : Type} (n : Nat) (a : Int) (a1 : Int) (b_ : Int) (b_1 : Int) (κ : Res → Option α) : evFn Try.prog (spec_IsReducedPair_X n) Try.f25 (((buildDs spec_IsReducedPair_sh [.int a, .int a1, .int b_, .int b_1]).map Prod.fst).getD []) κ = spec_IsReducedPair_run n [.int a, .int a1, .int b_, .int b_1] κ := (spec_IsReducedPair_gen spec_l10Pair spec_l10Reduced n a a1 b_ b_1 κ).trans ((spec_IsReducedPair_eq n a a1 b_ b_1 (fun v1 v2 => κ ⟨[.bool v1, .int .i64 v2], []⟩)).trans ((spec_IsReducedPair_run.eq_1 n [.int a, .int a1, .int b_, .int b_1] κ).trans (spec_IsReducedPair_rn spec_IsReducedPair n a a1 b_ b_1 κ)).symm)
theorem spec_IsReducedPair_en (a : Int) (a1 : Int) (b_ : Int) (b_1 : Int) : (entry 0 (((buildDs spec_IsReducedPair_sh [.int a, .int a1, .int b_, .int b_1]).map Prod.fst).getD [])).map (fun x => (x.1.length, x.2.lent)) = some (2, []) := by kernel_rfl
theorem spec_IsReducedPair_good {α : Type} : ∀ n, GoodFn (α := α) Try.prog 25 (byShape spec_IsReducedPair_sh (spec_IsReducedPair_run n)) := by
  refine fn_good' Try.func25 (c := (Try.f25.body.getD .skip)) (by kernel_rfl) (by kernel_rfl) (by kernel_rfl) spec_IsReducedPair_C spec_IsReducedPair_M eqs spec_IsReducedPair_lps (fun n => tabC_good (List.forall_mem_cons.2 ⟨(spec_l10Pair_good n), (List.forall_mem_cons.2 ⟨(spec_l10Reduced_good n), (fun _ h => absurd h List.not_mem_nil)⟩)⟩)) eqs_ok spec_IsReducedPair_Lt ?_ ?_ spec_IsReducedPair_sh spec_IsReducedPair_run ?_
  · exact (fun _ h => absurd h List.not_mem_nil)
  · exact (fun _ h => absurd h List.not_mem_nil)
  · intro n p κ r ds hd hr
    have hr0 := hr
    unfold spec_IsReducedPair_run spec_IsReducedPair_runG at hr
    split at hr
    · rw [← ds_of hd]
      exact ⟨en_of (spec_IsReducedPair_en _ _ _ _) ⟨rfl, rfl⟩, (spec_IsReducedPair_ev n _ _ _ _ κ).trans hr0⟩
    · cases hr

/-! loop.example/g01297/spec.DrawShortestNorm -/
def spec_DrawShortestNorm_sh : List SkD := [.sl 5 (.int .u8)]
def spec_DrawShortestNorm_runG {α : Type} (F : Nat → List Int → (Int → Int → Int → Int → Option α) → Option α) (n : Nat) (p : List P1) (κ : Res → Option α) : Option α := match p with
  | [.rows (.int .u8) code] => F n code (fun v1 v2 v3 v4 => κ ⟨[.agg [.int .i64 v1, .int .i64 v2], .agg [.int .i64 v3, .int .i64 v4]], []⟩)
  | _ => none
def spec_DrawShortestNorm_run {α : Type} (n : Nat) (p : List P1) (κ : Res → Option α) : Option α := spec_DrawShortestNorm_runG spec_DrawShortestNorm n p κ
def spec_DrawShortestNorm_CG {α : Type} (F0 : Nat → List Int → (Int → Int → Int → Int → Option α) → Option α) (n : Nat) : FuncId → List D → (Res → Option α) → Option α := tabC [(151, (byShape spec_l10Points_sh (spec_l10Points_runG F0 n)))]
def spec_DrawShortestNorm_C {α : Type} (n : Nat) : FuncId → List D → (Res → Option α) → Option α := spec_DrawShortestNorm_CG spec_l10Points n
def spec_DrawShortestNorm_M : FuncId → List Nat := tabM []
def spec_DrawShortestNorm_lpsG {α : Type}  : List (LoopT α) := []
def spec_DrawShortestNorm_lps {α : Type} : List (LoopT α) := spec_DrawShortestNorm_lpsG
def spec_DrawShortestNorm_XG {α : Type} (F0 : Nat → List Int → (Int → Int → Int → Int → Option α) → Option α)  (n : Nat) : Ctx α := ⟨spec_DrawShortestNorm_CG F0 n, spec_DrawShortestNorm_M, eqs, lpOf (spec_DrawShortestNorm_lpsG) n⟩
def spec_DrawShortestNorm_X {α : Type} (n : Nat) : Ctx α := spec_DrawShortestNorm_XG spec_l10Points n
def spec_DrawShortestNorm_Lt (np : Nat) (lent : List (Bool × Nat × Blk)) : Prop := np = 1 ∧ lent = []
def spec_DrawShortestNorm_body {α : Type} (F0 : Nat → List Int → (Int → Int → Int → Int → Option α) → Option α)  (k : Nat) (code : List Int) (r0 : Int → Int → Int → Int → Option α) : Option α :=
  F0 k code fun v v1 v2 v3 =>
  r0 v v1 v2 v3
theorem spec_DrawShortestNorm_gen {α : Type} (F0 : Nat → List Int → (Int → Int → Int → Int → Option α) → Option α)  (n : Nat) (code : List Int) (κ : Res → Option α) : evFn Try.prog (spec_DrawShortestNorm_XG F0 n) Try.f26 (((buildDs spec_DrawShortestNorm_sh [.rows (.int .u8) code]).map Prod.fst).getD []) κ = spec_DrawShortestNorm_body F0 n code (fun v1 v2 v3 v4 => κ ⟨[.agg [.int .i64 v1, .int .i64 v2], .agg [.int .i64 v3, .int .i64 v4]], []⟩) := by kernel_rfl
theorem spec_DrawShortestNorm_eq {α : Type} (n : Nat) (code : List Int) (r0 : Int → Int → Int → Int → Option α) : spec_DrawShortestNorm_body spec_l10Points n code r0 = spec_DrawShortestNorm n code r0 := (spec_DrawShortestNorm_body.eq_1 spec_l10Points n code r0).trans (spec_DrawShortestNorm.eq_1 n code r0).symm
theorem spec_DrawShortestNorm_rn {α : Type} (F : Nat → List Int → (Int → Int → Int → Int → Option α) → Option α) (n : Nat) (code : List Int) (κ : Res → Option α) : spec_DrawShortestNorm_runG F n [.rows (.int .u8) code] κ = F n code (fun v1 v2 v3 v4 => κ ⟨[.agg [.int .i64 v1, .int .i64 v2], .agg [.int .i64 v3, .int .i64 v4]], []⟩) := rfl
theorem spec_DrawShortestNorm_ev {α : Type} (n : Nat) (code : List Int) (κ : Res → Option α) : evFn Try.prog (spec_DrawShortestNorm_X n) Try.f26 (((buildDs spec_DrawShortestNorm_sh [.rows (.int .u8) code]).map Prod.fst).getD []) κ = spec_DrawShortestNorm_run n [.rows (.int .u8) code] κ := (spec_DrawShortestNorm_gen spec_l10Points n code κ).trans ((spec_DrawShortestNorm_eq n code (fun v1 v2 v3 v4 => κ ⟨[.agg [.int .i64 v1, .int .i64 v2], .agg [.int .i64 v3, .int .i64 v4]], []⟩)).trans ((spec_DrawShortestNorm_run.eq_1 n [.rows (.int .u8) code] κ).trans (spec_DrawShortestNorm_rn spec_DrawShortestNorm n code κ)).symm)
theorem spec_DrawShortestNorm_en (code : List Int) : (entry 0 (((buildDs spec_DrawShortestNorm_sh [.rows (.int .u8) code]).map Prod.fst).getD [])).map (fun x => (x.1.length, x.2.lent)) = some (1, []) := by kernel_rfl
theorem spec_DrawShortestNorm_good {α : Type} : ∀ n, GoodFn (α := α) Try.prog 26 (byShape spec_DrawShortestNorm_sh (spec_DrawShortestNorm_run n)) := by
  refine fn_good' Try.func26 (c := (Try.f26.body.getD .skip)) (by kernel_rfl) (by kernel_rfl) (by kernel_rfl) spec_DrawShortestNorm_C spec_DrawShortestNorm_M eqs spec_DrawShortestNorm_lps (fun n => tabC_good (List.forall_mem_cons.2 ⟨(spec_l10Points_good n), (fun _ h => absurd h List.not_mem_nil)⟩)) eqs_ok spec_DrawShortestNorm_Lt ?_ ?_ spec_DrawShortestNorm_sh spec_DrawShortestNorm_run ?_
  · exact (fun _ h => absurd h List.not_mem_nil)
  · exact (fun _ h => absurd h List.not_mem_nil)
  · intro n p κ r ds hd hr
    have hr0 := hr
    unfold spec_DrawShortestNorm_run spec_DrawShortestNorm_runG at hr
    split at hr
    · rw [← ds_of hd]
      exact ⟨en_of (spec_DrawShortestNorm_en _) ⟨rfl, rfl⟩, (spec_DrawShortestNorm_ev n _ κ).trans hr0⟩
    · cases hr

/-! loop.example/g01297/impl.ShortestNorm -/
def impl_ShortestNorm_sh : List SkD := [.agg [.int .i64, .int .i64], .agg [.int .i64, .int .i64]]
def impl_ShortestNorm_runG {α : Type} (F : Nat → Int → Int → Int → Int → (Int → Int → Option α) → Option α) (n : Nat) (p : List P1) (κ : Res → Option α) : Option α := match p with
  | [.int a, .int a1, .int b_, .int b_1] => F n a a1 b_ b_1 (fun v1 v2 => κ ⟨[.int .i64 v1, .int .i64 v2], []⟩)
  | _ => none
def impl_ShortestNorm_run {α : Type} (n : Nat) (p : List P1) (κ : Res → Option α) : Option α := impl_ShortestNorm_runG impl_ShortestNorm n p κ
def impl_ShortestNorm_CG {α : Type} (F0 : Nat → Int → Int → Int → Int → (Int → Option α) → ((List (Int × Int)) → Int → Option α) → Option α) (F1 : Nat → Int → Int → (Int → Option α) → Option α) (n : Nat) : FuncId → List D → (Res → Option α) → Option α := tabC [(20, (byShape impl_ReducePair_sh (impl_ReducePair_runG F0 n))), (154, (byShape impl_Point_norm_sh (impl_Point_norm_runG F1 n)))]
def impl_ShortestNorm_C {α : Type} (n : Nat) : FuncId → List D → (Res → Option α) → Option α := impl_ShortestNorm_CG impl_ReducePair impl_Point_norm n
def impl_ShortestNorm_M : FuncId → List Nat := tabM []
def impl_ShortestNorm_lpsG {α : Type}  : List (LoopT α) := []
def impl_ShortestNorm_lps {α : Type} : List (LoopT α) := impl_ShortestNorm_lpsG
def impl_ShortestNorm_XG {α : Type} (F0 : Nat → Int → Int → Int → Int → (Int → Option α) → ((List (Int × Int)) → Int → Option α) → Option α) (F1 : Nat → Int → Int → (Int → Option α) → Option α)  (n : Nat) : Ctx α := ⟨impl_ShortestNorm_CG F0 F1 n, impl_ShortestNorm_M, eqs, lpOf (impl_ShortestNorm_lpsG) n⟩
def impl_ShortestNorm_X {α : Type} (n : Nat) : Ctx α := impl_ShortestNorm_XG impl_ReducePair impl_Point_norm n
def impl_ShortestNorm_Lt (np : Nat) (lent : List (Bool × Nat × Blk)) : Prop := np = 2 ∧ lent = []
def impl_ShortestNorm_body {α : Type} (F0 : Nat → Int → Int → Int → Int → (Int → Option α) → ((List (Int × Int)) → Int → Option α) → Option α) (F1 : Nat → Int → Int → (Int → Option α) → Option α)  (k : Nat) (a : Int) (a1 : Int) (b_ : Int) (b_1 : Int) (r0 : Int → Int → Option α) : Option α :=
  F0 k a a1 b_ b_1
    (fun v =>
      bif (!decide (v = 0)) then
        r0 0 v
      else
        none)
    (fun v1 v2 =>
      bif (!decide (v2 = 0)) then
        r0 0 v2
      else
      bif (true && decide (0 < (((List.length v1) : Nat) : Int))) then
        (v1[0]?).bind fun e_ =>
        F1 k e_.1 e_.2 fun v3 =>
        r0 v3 0
      else
        none)
theorem impl_ShortestNorm_gen {α : Type} (F0 : Nat → Int → Int → Int → Int → (Int → Option α) → ((List (Int × Int)) → Int → Option α) → Option α) (F1 : Nat → Int → Int → (Int → Option α) → Option α)  (n : Nat) (a : Int) (a1 : Int) (b_ : Int) (b_1 : Int) (κ : Res → Option α) : evFn Try.prog (impl_ShortestNorm_XG F0 F1 n) Try.f27 (((buildDs impl_ShortestNorm_sh [.int a, .int a1, .int b_, .int b_1]).map Prod.fst).getD []) κ = impl_ShortestNorm_body F0 F1 n a a1 b_ b_1 (fun v1 v2 => κ ⟨[.int .i64 v1, .int .i64 v2], []⟩) := by kernel_rfl
theorem impl_ShortestNorm_eq {α : Type} (n : Nat) (a : Int) (a1 : Int) (b_ : Int) (b_1 : Int) (r0 : Int → Int → Option α) : impl_ShortestNorm_body impl_ReducePair impl_Point_norm n a a1 b_ b_1 r0 = impl_ShortestNorm n a a1 b_ b_1 r0 := (impl_ShortestNorm_body.eq_1 impl_ReducePair impl_Point_norm n a a1 b_ b_1 r0).trans (impl_ShortestNorm.eq_1 n a a1 b_ b_1 r0).symm
theorem impl_ShortestNorm_rn {α : Type} (F : Nat → Int → Int → Int → Int → (Int → Int → Option α) → Option α) (n : Nat) (a : Int) (a1 : Int) (b_ : Int) (b_1 : Int) (κ : Res → Option α) : impl_ShortestNorm_runG F n [.int a, .int a1, .int b_, .int b_1] κ = F n a a1 b_ b_1 (fun v1 v2 => κ ⟨[.int .i64 v1, .int .i64 v2], []⟩) := rfl
theorem impl_ShortestNorm_ev {α : Type} (n : Nat) (a : Int) (a1 : Int) (b_ : Int) (b_1 : Int) (κ : Res → Option α) : evFn Try.prog (impl_ShortestNorm_X n) Try.f27 (((buildDs impl_ShortestNorm_sh [.int a, .int a1, .int b_, .int b_1]).map Prod.fst).getD []) κ = impl_ShortestNorm_run n [.int a, .int a1, .int b_, .int b_1] κ := (impl_ShortestNorm_gen impl_ReducePair impl_Point_norm n a a1 b_ b_1 κ).trans ((impl_ShortestNorm_eq n a a1 b_ b_1 (fun v1 v2 => κ ⟨[.int .i64 v1, .int .i64 v2], []⟩)).trans ((impl_ShortestNorm_run.eq_1 n [.int a, .int a1, .int b_, .int b_1] κ).trans (impl_ShortestNorm_rn impl_ShortestNorm n a a1 b_ b_1 κ)).symm)
theorem impl_ShortestNorm_en (a : Int) (a1 : Int) (b_ : Int) (b_1 : Int) : (entry 0 (((buildDs impl_ShortestNorm_sh [.int a, .int a1, .int b_, .int b_1]).map Prod.fst).getD [])).map (fun x => (x.1.length, x.2.lent)) = some (2, []) := by kernel_rfl
theorem impl_ShortestNorm_good {α : Type} : ∀ n, GoodFn (α := α) Try.prog 27 (byShape impl_ShortestNorm_sh (impl_ShortestNorm_run n)) := by
  refine fn_good' Try.func27 (c := (Try.f27.body.getD .skip)) (by kernel_rfl) (by kernel_rfl) (by kernel_rfl) impl_ShortestNorm_C impl_ShortestNorm_M eqs impl_ShortestNorm_lps (fun n => tabC_good (List.forall_mem_cons.2 ⟨(impl_ReducePair_good n), (List.forall_mem_cons.2 ⟨(impl_Point_norm_good n), (fun _ h => absurd h List.not_mem_nil)⟩)⟩)) eqs_ok impl_ShortestNorm_Lt ?_ ?_ impl_ShortestNorm_sh impl_ShortestNorm_run ?_
  · exact (fun _ h => absurd h List.not_mem_nil)
  · exact (fun _ h => absurd h List.not_mem_nil)
  · intro n p κ r ds hd hr
    have hr0 := hr
    unfold impl_ShortestNorm_run impl_ShortestNorm_runG at hr
    split at hr
    · rw [← ds_of hd]
      exact ⟨en_of (impl_ShortestNorm_en _ _ _ _) ⟨rfl, rfl⟩, (impl_ShortestNorm_ev n _ _ _ _ κ).trans hr0⟩
    · cases hr

/-! loop.example/g01297/spec.ShortestNorm -/
def spec_ShortestNorm_sh : List SkD := [.agg [.int .i64, .int .i64], .agg [.int .i64, .int .i64]]
def spec_ShortestNorm_runG {α : Type} (F : Nat → Int → Int → Int → Int → (Int → Int → Option α) → Option α) (n : Nat) (p : List P1) (κ : Res → Option α) : Option α := match p with
  | [.int a, .int a1, .int b_, .int b_1] => F n a a1 b_ b_1 (fun v1 v2 => κ ⟨[.int .i64 v1, .int .i64 v2], []⟩)
  | _ => none
def spec_ShortestNorm_run {α : Type} (n : Nat) (p : List P1) (κ : Res → Option α) : Option α := spec_ShortestNorm_runG spec_ShortestNorm n p κ
def spec_ShortestNorm_CG {α : Type} (F0 : Nat → Int → Int → Int → Int → (Int → Option α) → Option α) (F1 : Nat → Int → Int → Int → Int → (Int → Int → Int → Int → Option α) → Option α) (F2 : Nat → Int → Int → Int → Int → (Int → Option α) → Option α) (n : Nat) : FuncId → List D → (Res → Option α) → Option α := tabC [(158, (byShape spec_l10Pair_sh (spec_l10Pair_runG F0 n))), (159, (byShape spec_l10Reduce_sh (spec_l10Reduce_runG F1 n))), (163, (byShape spec_l10Dot_sh (spec_l10Dot_runG F2 n)))]
def spec_ShortestNorm_C {α : Type} (n : Nat) : FuncId → List D → (Res → Option α) → Option α := spec_ShortestNorm_CG spec_l10Pair spec_l10Reduce spec_l10Dot n
def spec_ShortestNorm_M : FuncId → List Nat := tabM []
def spec_ShortestNorm_lpsG {α : Type}  : List (LoopT α) := []
def spec_ShortestNorm_lps {α : Type} : List (LoopT α) := spec_ShortestNorm_lpsG
def spec_ShortestNorm_XG {α : Type} (F0 : Nat → Int → Int → Int → Int → (Int → Option α) → Option α) (F1 : Nat → Int → Int → Int → Int → (Int → Int → Int → Int → Option α) → Option α) (F2 : Nat → Int → Int → Int → Int → (Int → Option α) → Option α)  (n : Nat) : Ctx α := ⟨spec_ShortestNorm_CG F0 F1 F2 n, spec_ShortestNorm_M, eqs, lpOf (spec_ShortestNorm_lpsG) n⟩
def spec_ShortestNorm_X {α : Type} (n : Nat) : Ctx α := spec_ShortestNorm_XG spec_l10Pair spec_l10Reduce spec_l10Dot n
def spec_ShortestNorm_Lt (np : Nat) (lent : List (Bool × Nat × Blk)) : Prop := np = 2 ∧ lent = []
def spec_ShortestNorm_body {α : Type} (F0 : Nat → Int → Int → Int → Int → (Int → Option α) → Option α) (F1 : Nat → Int → Int → Int → Int → (Int → Int → Int → Int → Option α) → Option α) (F2 : Nat → Int → Int → Int → Int → (Int → Option α) → Option α)  (k : Nat) (a : Int) (a1 : Int) (b_ : Int) (b_1 : Int) (r0 : Int → Int → Option α) : Option α :=
  F0 k a a1 b_ b_1 fun v =>
  bif (!decide (v = 0)) then
    r0 0 v
  else
    F1 k a a1 b_ b_1 fun v1 v2 v3 v4 =>
    F2 k v1 v2 v1 v2 fun v5 =>
    r0 v5 0
theorem spec_ShortestNorm_gen {α : Type} (F0 : Nat → Int → Int → Int → Int → (Int → Option α) → Option α) (F1 : Nat → Int → Int → Int → Int → (Int → Int → Int → Int → Option α) → Option α) (F2 : Nat → Int → Int → Int → Int → (Int → Option α) → Option α)  (n : Nat) (a : Int) (a1 : Int) (b_ : Int) (b_1 : Int) (κ : Res → Option α) : evFn Try.prog (spec_ShortestNorm_XG F0 F1 F2 n) Try.f28 (((buildDs spec_ShortestNorm_sh [.int a, .int a1, .int b_, .int b_1]).map Prod.fst).getD []) κ = spec_ShortestNorm_body F0 F1 F2 n a a1 b_ b_1 (fun v1 v2 => κ ⟨[.int .i64 v1, .int .i64 v2], []⟩) := by kernel_rfl
theorem spec_ShortestNorm_eq {α : Type} (n : Nat) (a : Int) (a1 : Int) (b_ : Int) (b_1 : Int) (r0 : Int → Int → Option α) : spec_ShortestNorm_body spec_l10Pair spec_l10Reduce spec_l10Dot n a a1 b_ b_1 r0 = spec_ShortestNorm n a a1 b_ b_1 r0 := (spec_ShortestNorm_body.eq_1 spec_l10Pair spec_l10Reduce spec_l10Dot n a a1 b_ b_1 r0).trans (spec_ShortestNorm.eq_1 n a a1 b_ b_1 r0).symm
theorem spec_ShortestNorm_rn {α : Type} (F : Nat → Int → Int → Int → Int → (Int → Int → Option α) → Option α) (n : Nat) (a : Int) (a1 : Int) (b_ : Int) (b_1 : Int) (κ : Res → Option α) : spec_ShortestNorm_runG F n [.int a, .int a1, .int b_, .int b_1] κ = F n a a1 b_ b_1 (fun v1 v2 => κ ⟨[.int .i64 v1, .int .i64 v2], []⟩) := rfl
theorem spec_ShortestNorm_ev {α : Type} (n : Nat) (a : Int) (a1 : Int) (b_ : Int) (b_1 : Int) (κ : Res → Option α) : evFn Try.prog (spec_ShortestNorm_X n) Try.f28 (((buildDs spec_ShortestNorm_sh [.int a, .int a1, .int b_, .int b_1]).map Prod.fst).getD []) κ = spec_ShortestNorm_run n [.int a, .int a1, .int b_, .int b_1] κ := (spec_ShortestNorm_gen spec_l10Pair spec_l10Reduce spec_l10Dot n a a1 b_ b_1 κ).trans ((spec_ShortestNorm_eq n a a1 b_ b_1 (fun v1 v2 => κ ⟨[.int .i64 v1, .int .i64 v2], []⟩)).trans ((spec_ShortestNorm_run.eq_1 n [.int a, .int a1, .int b_, .int b_1] κ).trans (spec_ShortestNorm_rn spec_ShortestNorm n a a1 b_ b_1 κ)).symm)
theorem spec_ShortestNorm_en (a : Int) (a1 : Int) (b_ : Int) (b_1 : Int) : (entry 0 (((buildDs spec_ShortestNorm_sh [.int a, .int a1, .int b_, .int b_1]).map Prod.fst).getD [])).map (fun x => (x.1.length, x.2.lent)) = some (2, []) := by kernel_rfl
theorem spec_ShortestNorm_good {α : Type} : ∀ n, GoodFn (α := α) Try.prog 28 (byShape spec_ShortestNorm_sh (spec_ShortestNorm_run n)) := by
  refine fn_good' Try.func28 (c := (Try.f28.body.getD .skip)) (by kernel_rfl) (by kernel_rfl) (by kernel_rfl) spec_ShortestNorm_C spec_ShortestNorm_M eqs spec_ShortestNorm_lps (fun n => tabC_good (List.forall_mem_cons.2 ⟨(spec_l10Pair_good n), (List.forall_mem_cons.2 ⟨(spec_l10Reduce_good n), (List.forall_mem_cons.2 ⟨(spec_l10Dot_good n), (fun _ h => absurd h List.not_mem_nil)⟩)⟩)⟩)) eqs_ok spec_ShortestNorm_Lt ?_ ?_ spec_ShortestNorm_sh spec_ShortestNorm_run ?_
  · exact (fun _ h => absurd h List.not_mem_nil)
  · exact (fun _ h => absurd h List.not_mem_nil)
  · intro n p κ r ds hd hr
    have hr0 := hr
    unfold spec_ShortestNorm_run spec_ShortestNorm_runG at hr
    split at hr
    · rw [← ds_of hd]
      exact ⟨en_of (spec_ShortestNorm_en _ _ _ _) ⟨rfl, rfl⟩, (spec_ShortestNorm_ev n _ _ _ _ κ).trans hr0⟩
    · cases hr

/-! loop.example/g01297/spec.DrawNormOf -/
def spec_DrawNormOf_sh : List SkD := [.sl 5 (.int .u8)]
def spec_DrawNormOf_runG {α : Type} (F : Nat → List Int → (Int → Int → Option α) → Option α) (n : Nat) (p : List P1) (κ : Res → Option α) : Option α := match p with
  | [.rows (.int .u8) code] => F n code (fun v1 v2 => κ ⟨[.agg [.int .i64 v1, .int .i64 v2]], []⟩)
  | _ => none
def spec_DrawNormOf_run {α : Type} (n : Nat) (p : List P1) (κ : Res → Option α) : Option α := spec_DrawNormOf_runG spec_DrawNormOf n p κ
def spec_DrawNormOf_CG {α : Type} (F0 : Nat → List Int → (Int → Int → Option α) → Option α) (F1 : Nat → List Int → Int → Int → (Int → Int → Int → Int → Option α) → Option α) (n : Nat) : FuncId → List D → (Res → Option α) → Option α := tabC [(160, (byShape spec_l01From_sh (spec_l01From_runG F0 n))), (164, (byShape spec_l01Spoil_sh (spec_l01Spoil_runG F1 n)))]
def spec_DrawNormOf_C {α : Type} (n : Nat) : FuncId → List D → (Res → Option α) → Option α := spec_DrawNormOf_CG spec_l01From spec_l01Spoil n
def spec_DrawNormOf_M : FuncId → List Nat := tabM [(164, [1])]
def spec_DrawNormOf_lpsG {α : Type}  : List (LoopT α) := []
def spec_DrawNormOf_lps {α : Type} : List (LoopT α) := spec_DrawNormOf_lpsG
def spec_DrawNormOf_XG {α : Type} (F0 : Nat → List Int → (Int → Int → Option α) → Option α) (F1 : Nat → List Int → Int → Int → (Int → Int → Int → Int → Option α) → Option α)  (n : Nat) : Ctx α := ⟨spec_DrawNormOf_CG F0 F1 n, spec_DrawNormOf_M, eqs, lpOf (spec_DrawNormOf_lpsG) n⟩
def spec_DrawNormOf_X {α : Type} (n : Nat) : Ctx α := spec_DrawNormOf_XG spec_l01From spec_l01Spoil n
def spec_DrawNormOf_Lt (np : Nat) (lent : List (Bool × Nat × Blk)) : Prop := np = 1 ∧ lent = []
def spec_DrawNormOf_body {α : Type} (F0 : Nat → List Int → (Int → Int → Option α) → Option α) (F1 : Nat → List Int → Int → Int → (Int → Int → Int → Int → Option α) → Option α)  (k : Nat) (code : List Int) (r0 : Int → Int → Option α) : Option α :=
  F0 k code fun v v1 =>
  F1 k code v v1 fun v2 v3 v4 v5 =>
  r0 v2 v3
theorem spec_DrawNormOf_gen {α : Type} (F0 : Nat → List Int → (Int → Int → Option α) → Option α) (F1 : Nat → List Int → Int → Int → (Int → Int → Int → Int → Option α) → Option α)  (n : Nat) (code : List Int) (κ : Res → Option α) : evFn Try.prog (spec_DrawNormOf_XG F0 F1 n) Try.f29 (((buildDs spec_DrawNormOf_sh [.rows (.int .u8) code]).map Prod.fst).getD []) κ = spec_DrawNormOf_body F0 F1 n code (fun v1 v2 => κ ⟨[.agg [.int .i64 v1, .int .i64 v2]], []⟩) := by kernel_rfl
theorem spec_DrawNormOf_eq {α : Type} (n : Nat) (code : List Int) (r0 : Int → Int → Option α) : spec_DrawNormOf_body spec_l01From spec_l01Spoil n code r0 = spec_DrawNormOf n code r0 := (spec_DrawNormOf_body.eq_1 spec_l01From spec_l01Spoil n code r0).trans (spec_DrawNormOf.eq_1 n code r0).symm
theorem spec_DrawNormOf_rn {α : Type} (F : Nat → List Int → (Int → Int → Option α) → Option α) (n : Nat) (code : List Int) (κ : Res → Option α) : spec_DrawNormOf_runG F n [.rows (.int .u8) code] κ = F n code (fun v1 v2 => κ ⟨[.agg [.int .i64 v1, .int .i64 v2]], []⟩) := rfl
theorem spec_DrawNormOf_ev {α : Type} (n : Nat) (code : List Int) (κ : Res → Option α) : evFn Try.prog (spec_DrawNormOf_X n) Try.f29 (((buildDs spec_DrawNormOf_sh [.rows (.int .u8) code]).map Prod.fst).getD []) κ = spec_DrawNormOf_run n [.rows (.int .u8) code] κ := (spec_DrawNormOf_gen spec_l01From spec_l01Spoil n code κ).trans ((spec_DrawNormOf_eq n code (fun v1 v2 => κ ⟨[.agg [.int .i64 v1, .int .i64 v2]], []⟩)).trans ((spec_DrawNormOf_run.eq_1 n [.rows (.int .u8) code] κ).trans (spec_DrawNormOf_rn spec_DrawNormOf n code κ)).symm)
theorem spec_DrawNormOf_en (code : List Int) : (entry 0 (((buildDs spec_DrawNormOf_sh [.rows (.int .u8) code]).map Prod.fst).getD [])).map (fun x => (x.1.length, x.2.lent)) = some (1, []) := by kernel_rfl
theorem spec_DrawNormOf_good {α : Type} : ∀ n, GoodFn (α := α) Try.prog 29 (byShape spec_DrawNormOf_sh (spec_DrawNormOf_run n)) := by
  refine fn_good' Try.func29 (c := (Try.f29.body.getD .skip)) (by kernel_rfl) (by kernel_rfl) (by kernel_rfl) spec_DrawNormOf_C spec_DrawNormOf_M eqs spec_DrawNormOf_lps (fun n => tabC_good (List.forall_mem_cons.2 ⟨(spec_l01From_good n), (List.forall_mem_cons.2 ⟨(spec_l01Spoil_good n), (fun _ h => absurd h List.not_mem_nil)⟩)⟩)) eqs_ok spec_DrawNormOf_Lt ?_ ?_ spec_DrawNormOf_sh spec_DrawNormOf_run ?_
  · exact (fun _ h => absurd h List.not_mem_nil)
  · exact (fun _ h => absurd h List.not_mem_nil)
  · intro n p κ r ds hd hr
    have hr0 := hr
    unfold spec_DrawNormOf_run spec_DrawNormOf_runG at hr
    split at hr
    · rw [← ds_of hd]
      exact ⟨en_of (spec_DrawNormOf_en _) ⟨rfl, rfl⟩, (spec_DrawNormOf_ev n _ κ).trans hr0⟩
    · cases hr

/-! loop.example/g01297/impl.NormOf -/
def impl_NormOf_sh : List SkD := [.agg [.int .i64, .int .i64]]
def impl_NormOf_runG {α : Type} (F : Nat → Int → Int → (Int → Int → Option α) → Option α) (n : Nat) (p : List P1) (κ : Res → Option α) : Option α := match p with
  | [.int a, .int a1] => F n a a1 (fun v1 v2 => κ ⟨[.int .i64 v1, .int .i64 v2], []⟩)
  | _ => none
def impl_NormOf_run {α : Type} (n : Nat) (p : List P1) (κ : Res → Option α) : Option α := impl_NormOf_runG impl_NormOf n p κ
def impl_NormOf_CG {α : Type} (F0 : Nat → Int → Int → (Bool → Option α) → Option α) (F1 : Nat → Int → Int → (Int → Option α) → Option α) (n : Nat) : FuncId → List D → (Res → Option α) → Option α := tabC [(33, (byShape impl_IsPoint_sh (impl_IsPoint_runG F0 n))), (154, (byShape impl_Point_norm_sh (impl_Point_norm_runG F1 n)))]
def impl_NormOf_C {α : Type} (n : Nat) : FuncId → List D → (Res → Option α) → Option α := impl_NormOf_CG impl_IsPoint impl_Point_norm n
def impl_NormOf_M : FuncId → List Nat := tabM []
def impl_NormOf_lpsG {α : Type}  : List (LoopT α) := []
def impl_NormOf_lps {α : Type} : List (LoopT α) := impl_NormOf_lpsG
def impl_NormOf_XG {α : Type} (F0 : Nat → Int → Int → (Bool → Option α) → Option α) (F1 : Nat → Int → Int → (Int → Option α) → Option α)  (n : Nat) : Ctx α := ⟨impl_NormOf_CG F0 F1 n, impl_NormOf_M, eqs, lpOf (impl_NormOf_lpsG) n⟩
def impl_NormOf_X {α : Type} (n : Nat) : Ctx α := impl_NormOf_XG impl_IsPoint impl_Point_norm n
def impl_NormOf_Lt (np : Nat) (lent : List (Bool × Nat × Blk)) : Prop := np = 1 ∧ lent = []
def impl_NormOf_body {α : Type} (F0 : Nat → Int → Int → (Bool → Option α) → Option α) (F1 : Nat → Int → Int → (Int → Option α) → Option α)  (k : Nat) (a : Int) (a1 : Int) (r0 : Int → Int → Option α) : Option α :=
  F0 k a a1 fun v =>
  bif (!v) then
    r0 0 1
  else
    F1 k a a1 fun v1 =>
    r0 v1 0
theorem impl_NormOf_gen {α : Type} (F0 : Nat → Int → Int → (Bool → Option α) → Option α) (F1 : Nat → Int → Int → (Int → Option α) → Option α)  (n : Nat) (a : Int) (a1 : Int) (κ : Res → Option α) : evFn Try.prog (impl_NormOf_XG F0 F1 n) Try.f30 (((buildDs impl_NormOf_sh [.int a, .int a1]).map Prod.fst).getD []) κ = impl_NormOf_body F0 F1 n a a1 (fun v1 v2 => κ ⟨[.int .i64 v1, .int .i64 v2], []⟩) := by kernel_rfl
theorem impl_NormOf_eq {α : Type} (n : Nat) (a : Int) (a1 : Int) (r0 : Int → Int → Option α) : impl_NormOf_body impl_IsPoint impl_Point_norm n a a1 r0 = impl_NormOf n a a1 r0 := (impl_NormOf_body.eq_1 impl_IsPoint impl_Point_norm n a a1 r0).trans (impl_NormOf.eq_1 n a a1 r0).symm
theorem impl_NormOf_rn {α : Type} (F : Nat → Int → Int → (Int → Int → Option α) → Option α) (n : Nat) (a : Int) (a1 : Int) (κ : Res → Option α) : impl_NormOf_runG F n [.int a, .int a1] κ = F n a a1 (fun v1 v2 => κ ⟨[.int .i64 v1, .int .i64 v2], []⟩) := rfl
theorem impl_NormOf_ev {α : Type} (n : Nat) (a : Int) (a1 : Int) (κ : Res → Option α) : evFn Try.prog (impl_NormOf_X n) Try.f30 (((buildDs impl_NormOf_sh [.int a, .int a1]).map Prod.fst).getD []) κ = impl_NormOf_run n [.int a, .int a1] κ := (impl_NormOf_gen impl_IsPoint impl_Point_norm n a a1 κ).trans ((impl_NormOf_eq n a a1 (fun v1 v2 => κ ⟨[.int .i64 v1, .int .i64 v2], []⟩)).trans ((impl_NormOf_run.eq_1 n [.int a, .int a1] κ).trans (impl_NormOf_rn impl_NormOf n a a1 κ)).symm)
theorem impl_NormOf_en (a : Int) (a1 : Int) : (entry 0 (((buildDs impl_NormOf_sh [.int a, .int a1]).map Prod.fst).getD [])).map (fun x => (x.1.length, x.2.lent)) = some (1, []) := by kernel_rfl
theorem impl_NormOf_good {α : Type} : ∀ n, GoodFn (α := α) Try.prog 30 (byShape impl_NormOf_sh (impl_NormOf_run n)) := by
  refine fn_good' Try.func30 (c := (Try.f30.body.getD .skip)) (by kernel_rfl) (by kernel_rfl) (by kernel_rfl) impl_NormOf_C impl_NormOf_M eqs impl_NormOf_lps (fun n => tabC_good (List.forall_mem_cons.2 ⟨(impl_IsPoint_good n), (List.forall_mem_cons.2 ⟨(impl_Point_norm_good n), (fun _ h => absurd h List.not_mem_nil)⟩)⟩)) eqs_ok impl_NormOf_Lt ?_ ?_ impl_NormOf_sh impl_NormOf_run ?_
  · exact (fun _ h => absurd h List.not_mem_nil)
  · exact (fun _ h => absurd h List.not_mem_nil)
  · intro n p κ r ds hd hr
    have hr0 := hr
    unfold impl_NormOf_run impl_NormOf_runG at hr
    split at hr
    · rw [← ds_of hd]
      exact ⟨en_of (impl_NormOf_en _ _) ⟨rfl, rfl⟩, (impl_NormOf_ev n _ _ κ).trans hr0⟩
    · cases hr

/-! loop.example/g01297/spec.NormOf -/
def spec_NormOf_sh : List SkD := [.agg [.int .i64, .int .i64]]
def spec_NormOf_runG {α : Type} (F : Nat → Int → Int → (Int → Int → Option α) → Option α) (n : Nat) (p : List P1) (κ : Res → Option α) : Option α := match p with
  | [.int a, .int a1] => F n a a1 (fun v1 v2 => κ ⟨[.int .i64 v1, .int .i64 v2], []⟩)
  | _ => none
def spec_NormOf_run {α : Type} (n : Nat) (p : List P1) (κ : Res → Option α) : Option α := spec_NormOf_runG spec_NormOf n p κ
def spec_NormOf_CG {α : Type} (F0 : Nat → Int → Int → (Bool → Option α) → Option α) (F1 : Nat → Int → Int → Int → Int → (Int → Option α) → Option α) (n : Nat) : FuncId → List D → (Res → Option α) → Option α := tabC [(165, (byShape spec_l01Is_sh (spec_l01Is_runG F0 n))), (163, (byShape spec_l10Dot_sh (spec_l10Dot_runG F1 n)))]
def spec_NormOf_C {α : Type} (n : Nat) : FuncId → List D → (Res → Option α) → Option α := spec_NormOf_CG spec_l01Is spec_l10Dot n
def spec_NormOf_M : FuncId → List Nat := tabM []
def spec_NormOf_lpsG {α : Type}  : List (LoopT α) := []
def spec_NormOf_lps {α : Type} : List (LoopT α) := spec_NormOf_lpsG
def spec_NormOf_XG {α : Type} (F0 : Nat → Int → Int → (Bool → Option α) → Option α) (F1 : Nat → Int → Int → Int → Int → (Int → Option α) → Option α)  (n : Nat) : Ctx α := ⟨spec_NormOf_CG F0 F1 n, spec_NormOf_M, eqs, lpOf (spec_NormOf_lpsG) n⟩
def spec_NormOf_X {α : Type} (n : Nat) : Ctx α := spec_NormOf_XG spec_l01Is spec_l10Dot n
def spec_NormOf_Lt (np : Nat) (lent : List (Bool × Nat × Blk)) : Prop := np = 1 ∧ lent = []
def spec_NormOf_body {α : Type} (F0 : Nat → Int → Int → (Bool → Option α) → Option α) (F1 : Nat → Int → Int → Int → Int → (Int → Option α) → Option α)  (k : Nat) (a : Int) (a1 : Int) (r0 : Int → Int → Option α) : Option α :=
  F0 k a a1 fun v =>
  bif (!v) then
    r0 0 1
  else
    F1 k a a1 a a1 fun v1 =>
    r0 v1 0
theorem spec_NormOf_gen {α : Type} (F0 : Nat → Int → Int → (Bool → Option α) → Option α) (F1 : Nat → Int → Int → Int → Int → (Int → Option α) → Option α)  (n : Nat) (a : Int) (a1 : Int) (κ : Res → Option α) : evFn Try.prog (spec_NormOf_XG F0 F1 n) Try.f31 (((buildDs spec_NormOf_sh [.int a, .int a1]).map Prod.fst).getD []) κ = spec_NormOf_body F0 F1 n a a1 (fun v1 v2 => κ ⟨[.int .i64 v1, .int .i64 v2], []⟩) := by kernel_rfl
theorem spec_NormOf_eq {α : Type} (n : Nat) (a : Int) (a1 : Int) (r0 : Int → Int → Option α) : spec_NormOf_body spec_l01Is spec_l10Dot n a a1 r0 = spec_NormOf n a a1 r0 := (spec_NormOf_body.eq_1 spec_l01Is spec_l10Dot n a a1 r0).trans (spec_NormOf.eq_1 n a a1 r0).symm
theorem spec_NormOf_rn {α : Type} (F : Nat → Int → Int → (Int → Int → Option α) → Option α) (n : Nat) (a : Int) (a1 : Int) (κ : Res → Option α) : spec_NormOf_runG F n [.int a, .int a1] κ = F n a a1 (fun v1 v2 => κ ⟨[.int .i64 v1, .int .i64 v2], []⟩) := rfl
theorem spec_NormOf_ev {α : Type} (n : Nat) (a : Int) (a1 : Int) (κ : Res → Option α) : evFn Try.prog (spec_NormOf_X n) Try.f31 (((buildDs spec_NormOf_sh [.int a, .int a1]).map Prod.fst).getD []) κ = spec_NormOf_run n [.int a, .int a1] κ := (spec_NormOf_gen spec_l01Is spec_l10Dot n a a1 κ).trans ((spec_NormOf_eq n a a1 (fun v1 v2 => κ ⟨[.int .i64 v1, .int .i64 v2], []⟩)).trans ((spec_NormOf_run.eq_1 n [.int a, .int a1] κ).trans (spec_NormOf_rn spec_NormOf n a a1 κ)).symm)
theorem spec_NormOf_en (a : Int) (a1 : Int) : (entry 0 (((buildDs spec_NormOf_sh [.int a, .int a1]).map Prod.fst).getD [])).map (fun x => (x.1.length, x.2.lent)) = some (1, []) := by kernel_rfl
theorem spec_NormOf_good {α : Type} : ∀ n, GoodFn (α := α) Try.prog 31 (byShape spec_NormOf_sh (spec_NormOf_run n)) := by
  refine fn_good' Try.func31 (c := (Try.f31.body.getD .skip)) (by kernel_rfl) (by kernel_rfl) (by kernel_rfl) spec_NormOf_C spec_NormOf_M eqs spec_NormOf_lps (fun n => tabC_good (List.forall_mem_cons.2 ⟨(spec_l01Is_good n), (List.forall_mem_cons.2 ⟨(spec_l10Dot_good n), (fun _ h => absurd h List.not_mem_nil)⟩)⟩)) eqs_ok spec_NormOf_Lt ?_ ?_ spec_NormOf_sh spec_NormOf_run ?_
  · exact (fun _ h => absurd h List.not_mem_nil)
  · exact (fun _ h => absurd h List.not_mem_nil)
  · intro n p κ r ds hd hr
    have hr0 := hr
    unfold spec_NormOf_run spec_NormOf_runG at hr
    split at hr
    · rw [← ds_of hd]
      exact ⟨en_of (spec_NormOf_en _ _) ⟨rfl, rfl⟩, (spec_NormOf_ev n _ _ κ).trans hr0⟩
    · cases hr

/-! loop.example/g01297/impl.DeterminantOf -/
def impl_DeterminantOf_sh : List SkD := [.agg [.int .i64, .int .i64], .agg [.int .i64, .int .i64]]
def impl_DeterminantOf_runG {α : Type} (F : Nat → Int → Int → Int → Int → (Int → Int → Option α) → Option α) (n : Nat) (p : List P1) (κ : Res → Option α) : Option α := match p with
  | [.int a, .int a1, .int b_, .int b_1] => F n a a1 b_ b_1 (fun v1 v2 => κ ⟨[.int .i64 v1, .int .i64 v2], []⟩)
  | _ => none
def impl_DeterminantOf_run {α : Type} (n : Nat) (p : List P1) (κ : Res → Option α) : Option α := impl_DeterminantOf_runG impl_DeterminantOf n p κ
def impl_DeterminantOf_CG {α : Type} (F0 : Nat → (List (Int × Int)) → (Bool → Option α) → Option α) (F1 : Nat → Int → Int → Int → Int → (Int → Option α) → Option α) (n : Nat) : FuncId → List D → (Res → Option α) → Option α := tabC [(166, (byShape impl_points_sh (impl_points_runG F0 n))), (167, (byShape impl_det_sh (impl_det_runG F1 n)))]
def impl_DeterminantOf_C {α : Type} (n : Nat) : FuncId → List D → (Res → Option α) → Option α := impl_DeterminantOf_CG impl_points impl_det n
def impl_DeterminantOf_M : FuncId → List Nat := tabM []
def impl_DeterminantOf_lpsG {α : Type}  : List (LoopT α) := []
def impl_DeterminantOf_lps {α : Type} : List (LoopT α) := impl_DeterminantOf_lpsG
def impl_DeterminantOf_XG {α : Type} (F0 : Nat → (List (Int × Int)) → (Bool → Option α) → Option α) (F1 : Nat → Int → Int → Int → Int → (Int → Option α) → Option α)  (n : Nat) : Ctx α := ⟨impl_DeterminantOf_CG F0 F1 n, impl_DeterminantOf_M, eqs, lpOf (impl_DeterminantOf_lpsG) n⟩
def impl_DeterminantOf_X {α : Type} (n : Nat) : Ctx α := impl_DeterminantOf_XG impl_points impl_det n
def impl_DeterminantOf_Lt (np : Nat) (lent : List (Bool × Nat × Blk)) : Prop := np = 2 ∧ lent = []
def impl_DeterminantOf_body {α : Type} (F0 : Nat → (List (Int × Int)) → (Bool → Option α) → Option α) (F1 : Nat → Int → Int → Int → Int → (Int → Option α) → Option α)  (k : Nat) (a : Int) (a1 : Int) (b_ : Int) (b_1 : Int) (r0 : Int → Int → Option α) : Option α :=
  F0 k [(a, a1), (b_, b_1)] fun v =>
  bif (!v) then
    r0 0 1
  else
    F1 k a a1 b_ b_1 fun v1 =>
    r0 v1 0
theorem impl_DeterminantOf_gen {α : Type} (F0 : Nat → (List (Int × Int)) → (Bool → Option α) → Option α) (F1 : Nat → Int → Int → Int → Int → (Int → Option α) → Option α)  (n : Nat) (a : Int) (a1 : Int) (b_ : Int) (b_1 : Int) (κ : Res → Option α) : evFn Try.prog (impl_DeterminantOf_XG F0 F1 n) Try.f32 (((buildDs impl_DeterminantOf_sh [.int a, .int a1, .int b_, .int b_1]).map Prod.fst).getD []) κ = impl_DeterminantOf_body F0 F1 n a a1 b_ b_1 (fun v1 v2 => κ ⟨[.int .i64 v1, .int .i64 v2], []⟩) := by kernel_rfl
theorem impl_DeterminantOf_eq {α : Type} (n : Nat) (a : Int) (a1 : Int) (b_ : Int) (b_1 : Int) (r0 : Int → Int → Option α) : impl_DeterminantOf_body impl_points impl_det n a a1 b_ b_1 r0 = impl_DeterminantOf n a a1 b_ b_1 r0 := (impl_DeterminantOf_body.eq_1 impl_points impl_det n a a1 b_ b_1 r0).trans (impl_DeterminantOf.eq_1 n a a1 b_ b_1 r0).symm
theorem impl_DeterminantOf_rn {α : Type} (F : Nat → Int → Int → Int → Int → (Int → Int → Option α) → Option α) (n : Nat) (a : Int) (a1 : Int) (b_ : Int) (b_1 : Int) (κ : Res → Option α) : impl_DeterminantOf_runG F n [.int a, .int a1, .int b_, .int b_1] κ = F n a a1 b_ b_1 (fun v1 v2 => κ ⟨[.int .i64 v1, .int .i64 v2], []⟩) := rfl
theorem impl_DeterminantOf_ev {α : Type} (n : Nat) (a : Int) (a1 : Int) (b_ : Int) (b_1 : Int) (κ : Res → Option α) : evFn Try.prog (impl_DeterminantOf_X n) Try.f32 (((buildDs impl_DeterminantOf_sh [.int a, .int a1, .int b_, .int b_1]).map Prod.fst).getD []) κ = impl_DeterminantOf_run n [.int a, .int a1, .int b_, .int b_1] κ := (impl_DeterminantOf_gen impl_points impl_det n a a1 b_ b_1 κ).trans ((impl_DeterminantOf_eq n a a1 b_ b_1 (fun v1 v2 => κ ⟨[.int .i64 v1, .int .i64 v2], []⟩)).trans ((impl_DeterminantOf_run.eq_1 n [.int a, .int a1, .int b_, .int b_1] κ).trans (impl_DeterminantOf_rn impl_DeterminantOf n a a1 b_ b_1 κ)).symm)
theorem impl_DeterminantOf_en (a : Int) (a1 : Int) (b_ : Int) (b_1 : Int) : (entry 0 (((buildDs impl_DeterminantOf_sh [.int a, .int a1, .int b_, .int b_1]).map Prod.fst).getD [])).map (fun x => (x.1.length, x.2.lent)) = some (2, []) := by kernel_rfl
theorem impl_DeterminantOf_good {α : Type} : ∀ n, GoodFn (α := α) Try.prog 32 (byShape impl_DeterminantOf_sh (impl_DeterminantOf_run n)) := by
  refine fn_good' Try.func32 (c := (Try.f32.body.getD .skip)) (by kernel_rfl) (by kernel_rfl) (by kernel_rfl) impl_DeterminantOf_C impl_DeterminantOf_M eqs impl_DeterminantOf_lps (fun n => tabC_good (List.forall_mem_cons.2 ⟨(impl_points_good n), (List.forall_mem_cons.2 ⟨(impl_det_good n), (fun _ h => absurd h List.not_mem_nil)⟩)⟩)) eqs_ok impl_DeterminantOf_Lt ?_ ?_ impl_DeterminantOf_sh impl_DeterminantOf_run ?_
  · exact (fun _ h => absurd h List.not_mem_nil)
  · exact (fun _ h => absurd h List.not_mem_nil)
  · intro n p κ r ds hd hr
    have hr0 := hr
    unfold impl_DeterminantOf_run impl_DeterminantOf_runG at hr
    split at hr
    · rw [← ds_of hd]
      exact ⟨en_of (impl_DeterminantOf_en _ _ _ _) ⟨rfl, rfl⟩, (impl_DeterminantOf_ev n _ _ _ _ κ).trans hr0⟩
    · cases hr

/-! loop.example/g01297/laws.points9 -/
def laws_points9_0N_sh : List SkD := [.nilsl, .sl 26 .pt]
def laws_points9_0N_runG {α : Type} (F : Nat → (List (Int × Int)) → (Bool → Option α) → Option α) (n : Nat) (p : List P1) (κ : Res → Option α) : Option α := match p with
  | [.rows .pt b_] => F n b_ (fun v1 => κ ⟨[.bool v1], []⟩)
  | _ => none
def laws_points9_0N_run {α : Type} (n : Nat) (p : List P1) (κ : Res → Option α) : Option α := laws_points9_0N_runG laws_points9_0N n p κ
def laws_points9_0N_CG {α : Type}  (n : Nat) : FuncId → List D → (Res → Option α) → Option α := tabC []
def laws_points9_0N_C {α : Type} (n : Nat) : FuncId → List D → (Res → Option α) → Option α := laws_points9_0N_CG n
def laws_points9_0N_M : FuncId → List Nat := tabM []
def laws_points9_0N_lpsG {α : Type}  : List (LoopT α) := []
def laws_points9_0N_lps {α : Type} : List (LoopT α) := laws_points9_0N_lpsG
def laws_points9_0N_XG {α : Type}   (n : Nat) : Ctx α := ⟨laws_points9_0N_CG n, laws_points9_0N_M, eqs, lpOf (laws_points9_0N_lpsG) n⟩
def laws_points9_0N_X {α : Type} (n : Nat) : Ctx α := laws_points9_0N_XG n
def laws_points9_0N_Lt (np : Nat) (lent : List (Bool × Nat × Blk)) : Prop := np = 2 ∧ lent = []
def laws_points9_0N_body {α : Type}   (k : Nat) (b_ : List (Int × Int)) (r0 : Bool → Option α) : Option α :=
  bif (!decide (0 = (((List.length b_) : Nat) : Int))) then
    r0 false
  else
    r0 true
theorem laws_points9_0N_gen {α : Type}   (n : Nat) (b_ : List (Int × Int)) (κ : Res → Option α) : evFn Try.prog (laws_points9_0N_XG n) Try.f22 (((buildDs laws_points9_0N_sh [.rows .pt b_]).map Prod.fst).getD []) κ = laws_points9_0N_body n b_ (fun v1 => κ ⟨[.bool v1], []⟩) := by kernel_rfl
theorem laws_points9_0N_eq {α : Type} (n : Nat) (b_ : List (Int × Int)) (r0 : Bool → Option α) : laws_points9_0N_body n b_ r0 = laws_points9_0N n b_ r0 := (laws_points9_0N_body.eq_1 n b_ r0).trans (laws_points9_0N.eq_1 n b_ r0).symm
theorem laws_points9_0N_rn {α : Type} (F : Nat → (List (Int × Int)) → (Bool → Option α) → Option α) (n : Nat) (b_ : List (Int × Int)) (κ : Res → Option α) : laws_points9_0N_runG F n [.rows .pt b_] κ = F n b_ (fun v1 => κ ⟨[.bool v1], []⟩) := rfl
theorem laws_points9_0N_ev {α : Type} (n : Nat) (b_ : List (Int × Int)) (κ : Res → Option α) : evFn Try.prog (laws_points9_0N_X n) Try.f22 (((buildDs laws_points9_0N_sh [.rows .pt b_]).map Prod.fst).getD []) κ = laws_points9_0N_run n [.rows .pt b_] κ := (laws_points9_0N_gen n b_ κ).trans ((laws_points9_0N_eq n b_ (fun v1 => κ ⟨[.bool v1], []⟩)).trans ((laws_points9_0N_run.eq_1 n [.rows .pt b_] κ).trans (laws_points9_0N_rn laws_points9_0N n b_ κ)).symm)
theorem laws_points9_0N_en (b_ : List (Int × Int)) : (entry 0 (((buildDs laws_points9_0N_sh [.rows .pt b_]).map Prod.fst).getD [])).map (fun x => (x.1.length, x.2.lent)) = some (2, []) := by kernel_rfl
theorem laws_points9_0N_good {α : Type} : ∀ n, GoodFn (α := α) Try.prog 22 (byShape laws_points9_0N_sh (laws_points9_0N_run n)) := by
  refine fn_good' Try.func22 (c := (Try.f22.body.getD .skip)) (by kernel_rfl) (by kernel_rfl) (by kernel_rfl) laws_points9_0N_C laws_points9_0N_M eqs laws_points9_0N_lps (fun n => tabC_good (fun _ h => absurd h List.not_mem_nil)) eqs_ok laws_points9_0N_Lt ?_ ?_ laws_points9_0N_sh laws_points9_0N_run ?_
  · exact (fun _ h => absurd h List.not_mem_nil)
  · exact (fun _ h => absurd h List.not_mem_nil)
  · intro n p κ r ds hd hr
    have hr0 := hr
    unfold laws_points9_0N_run laws_points9_0N_runG at hr
    split at hr
    · rw [← ds_of hd]
      exact ⟨en_of (laws_points9_0N_en _) ⟨rfl, rfl⟩, (laws_points9_0N_ev n _ κ).trans hr0⟩
    · cases hr

/-! loop.example/g01297/laws.points9 -/
def laws_points9_1N_sh : List SkD := [.sl 26 .pt, .nilsl]
def laws_points9_1N_runG {α : Type} (F : Nat → (List (Int × Int)) → (Bool → Option α) → Option α) (n : Nat) (p : List P1) (κ : Res → Option α) : Option α := match p with
  | [.rows .pt a] => F n a (fun v1 => κ ⟨[.bool v1], []⟩)
  | _ => none
def laws_points9_1N_run {α : Type} (n : Nat) (p : List P1) (κ : Res → Option α) : Option α := laws_points9_1N_runG laws_points9_1N n p κ
def laws_points9_1N_CG {α : Type}  (n : Nat) : FuncId → List D → (Res → Option α) → Option α := tabC []
def laws_points9_1N_C {α : Type} (n : Nat) : FuncId → List D → (Res → Option α) → Option α := laws_points9_1N_CG n
def laws_points9_1N_M : FuncId → List Nat := tabM []
def laws_points9_1N_t4 : Tpl := ⟨[.sl 0, .nilsl, .any, .any, .any, .int .i64, .any, .any, .any, .any, .any, .any, .any, .any, .any, .any, .any, .any, .any, .any, .any, .any, .any, .any, .any, .any], [(0, .rows 0 26 .pt)], []⟩
def laws_points9_1N_uG4 {α : Type} (G : Nat → Int → (List (Int × Int)) → (Int → (List (Int × Int)) → Option α) → (Bool → Option α) → Option α) (n : Nat) (p : List P1) (brk : Nat → List P1 → Option α) (ret : Res → Option α) : Option α := match p with
  | [.int i, .rows .pt a1] => G n i a1 (fun i a1 => brk 0 [.int i, .rows .pt a1]) (fun v1 => ret ⟨[.bool v1], []⟩)
  | _ => none
def laws_points9_1N_u4 {α : Type} (n : Nat) (p : List P1) (brk : Nat → List P1 → Option α) (ret : Res → Option α) : Option α := laws_points9_1N_uG4 laws_points9_1N_l4 n p brk ret
def laws_points9_1N_lpsG {α : Type} (G4 : Nat → Int → (List (Int × Int)) → (Int → (List (Int × Int)) → Option α) → (Bool → Option α) → Option α) : List (LoopT α) := [⟨4, laws_points9_1N_t4, laws_points9_1N_uG4 G4⟩]
def laws_points9_1N_lps {α : Type} : List (LoopT α) := laws_points9_1N_lpsG laws_points9_1N_l4
def laws_points9_1N_XG {α : Type}  (G4 : Nat → Int → (List (Int × Int)) → (Int → (List (Int × Int)) → Option α) → (Bool → Option α) → Option α) (n : Nat) : Ctx α := ⟨laws_points9_1N_CG n, laws_points9_1N_M, eqs, lpOf (laws_points9_1N_lpsG G4) n⟩
def laws_points9_1N_X {α : Type} (n : Nat) : Ctx α := laws_points9_1N_XG laws_points9_1N_l4 n
def laws_points9_1N_Lt (np : Nat) (lent : List (Bool × Nat × Blk)) : Prop := np = 2 ∧ lent = []
def laws_points9_1N_lb4 {α : Type}  (G4 : Nat → Int → (List (Int × Int)) → (Int → (List (Int × Int)) → Option α) → (Bool → Option α) → Option α) (k : Nat) (i : Int) (a1 : List (Int × Int)) (b0 : Int → (List (Int × Int)) → Option α) (r0 : Bool → Option α) : Option α :=
  bif decide (i < (((List.length a1) : Nat) : Int)) then
    bif (decide (0 ≤ i) && decide (i < (((List.length a1) : Nat) : Int))) then
      (a1[i.toNat]?).bind fun e_ =>
      none
    else
      none
  else
    b0 i a1
theorem laws_points9_1N_l4_gen {α : Type}  (G4 : Nat → Int → (List (Int × Int)) → (Int → (List (Int × Int)) → Option α) → (Bool → Option α) → Option α) (n : Nat) (i : Int) (a1 : List (Int × Int)) (brk : Nat → List P1 → Option α) (ret : Res → Option α) : ev ((laws_points9_1N_XG G4 n).env Try.prog Try.f22 2 []) (findLoop (loopsIn (Try.f22.body.getD .skip)) 4) ((laws_points9_1N_t4.build [.int i, .rows .pt a1]).getD ⟨[], []⟩) (roundK (2 * 64) laws_points9_1N_t4 (fun q => laws_points9_1N_uG4 G4 n q brk ret) brk ret) = laws_points9_1N_lb4 G4 n i a1 (fun i a1 => brk 0 [.int i, .rows .pt a1]) (fun v1 => ret ⟨[.bool v1], []⟩) := by kernel_rfl
theorem laws_points9_1N_l4_eq {α : Type} (k : Nat) (i : Int) (a1 : List (Int × Int)) (b0 : Int → (List (Int × Int)) → Option α) (r0 : Bool → Option α) : laws_points9_1N_lb4 laws_points9_1N_l4 k i a1 b0 r0 = laws_points9_1N_l4 (k + 1) i a1 b0 r0 := (laws_points9_1N_lb4.eq_1 laws_points9_1N_l4 k i a1 b0 r0).trans (show laws_points9_1N_l4 (k + 1) i a1 b0 r0 = _ from laws_points9_1N_l4.eq_2 _ _ _ _ _ ).symm
theorem laws_points9_1N_l4_rn {α : Type} (G : Nat → Int → (List (Int × Int)) → (Int → (List (Int × Int)) → Option α) → (Bool → Option α) → Option α) (n : Nat) (i : Int) (a1 : List (Int × Int)) (brk : Nat → List P1 → Option α) (ret : Res → Option α) : laws_points9_1N_uG4 G n [.int i, .rows .pt a1] brk ret = G n i a1 (fun i a1 => brk 0 [.int i, .rows .pt a1]) (fun v1 => ret ⟨[.bool v1], []⟩) := rfl
theorem laws_points9_1N_l4_ev {α : Type} (n : Nat) (i : Int) (a1 : List (Int × Int)) (brk : Nat → List P1 → Option α) (ret : Res → Option α) : ev ((laws_points9_1N_X n).env Try.prog Try.f22 2 []) (findLoop (loopsIn (Try.f22.body.getD .skip)) 4) ((laws_points9_1N_t4.build [.int i, .rows .pt a1]).getD ⟨[], []⟩) (roundK (2 * 64) laws_points9_1N_t4 (fun q => laws_points9_1N_u4 n q brk ret) brk ret) = laws_points9_1N_u4 (n + 1) [.int i, .rows .pt a1] brk ret := (laws_points9_1N_l4_gen laws_points9_1N_l4 n i a1 brk ret).trans ((laws_points9_1N_l4_eq n i a1 (fun i a1 => brk 0 [.int i, .rows .pt a1]) (fun v1 => ret ⟨[.bool v1], []⟩)).trans ((laws_points9_1N_u4.eq_1 (n + 1) [.int i, .rows .pt a1] brk ret).trans (laws_points9_1N_l4_rn laws_points9_1N_l4 (n + 1) i a1 brk ret)).symm)
def laws_points9_1N_body {α : Type}  (G4 : Nat → Int → (List (Int × Int)) → (Int → (List (Int × Int)) → Option α) → (Bool → Option α) → Option α) (k : Nat) (a : List (Int × Int)) (r0 : Bool → Option α) : Option α :=
  bif (!decide ((((List.length a) : Nat) : Int) = 0)) then
    r0 false
  else
    G4 k 0 a
      (fun i1 a2 =>
        r0 true)
      r0
theorem laws_points9_1N_gen {α : Type}  (G4 : Nat → Int → (List (Int × Int)) → (Int → (List (Int × Int)) → Option α) → (Bool → Option α) → Option α) (n : Nat) (a : List (Int × Int)) (κ : Res → Option α) : evFn Try.prog (laws_points9_1N_XG G4 n) Try.f22 (((buildDs laws_points9_1N_sh [.rows .pt a]).map Prod.fst).getD []) κ = laws_points9_1N_body G4 n a (fun v1 => κ ⟨[.bool v1], []⟩) := by kernel_rfl
theorem laws_points9_1N_eq {α : Type} (n : Nat) (a : List (Int × Int)) (r0 : Bool → Option α) : laws_points9_1N_body laws_points9_1N_l4 n a r0 = laws_points9_1N n a r0 := (laws_points9_1N_body.eq_1 laws_points9_1N_l4 n a r0).trans (laws_points9_1N.eq_1 n a r0).symm
theorem laws_points9_1N_rn {α : Type} (F : Nat → (List (Int × Int)) → (Bool → Option α) → Option α) (n : Nat) (a : List (Int × Int)) (κ : Res → Option α) : laws_points9_1N_runG F n [.rows .pt a] κ = F n a (fun v1 => κ ⟨[.bool v1], []⟩) := rfl
theorem laws_points9_1N_ev {α : Type} (n : Nat) (a : List (Int × Int)) (κ : Res → Option α) : evFn Try.prog (laws_points9_1N_X n) Try.f22 (((buildDs laws_points9_1N_sh [.rows .pt a]).map Prod.fst).getD []) κ = laws_points9_1N_run n [.rows .pt a] κ := (laws_points9_1N_gen laws_points9_1N_l4 n a κ).trans ((laws_points9_1N_eq n a (fun v1 => κ ⟨[.bool v1], []⟩)).trans ((laws_points9_1N_run.eq_1 n [.rows .pt a] κ).trans (laws_points9_1N_rn laws_points9_1N n a κ)).symm)
theorem laws_points9_1N_en (a : List (Int × Int)) : (entry 0 (((buildDs laws_points9_1N_sh [.rows .pt a]).map Prod.fst).getD [])).map (fun x => (x.1.length, x.2.lent)) = some (2, []) := by kernel_rfl
theorem laws_points9_1N_good {α : Type} : ∀ n, GoodFn (α := α) Try.prog 22 (byShape laws_points9_1N_sh (laws_points9_1N_run n)) := by
  refine fn_good' Try.func22 (c := (Try.f22.body.getD .skip)) (by kernel_rfl) (by kernel_rfl) (by kernel_rfl) laws_points9_1N_C laws_points9_1N_M eqs laws_points9_1N_lps (fun n => tabC_good (fun _ h => absurd h List.not_mem_nil)) eqs_ok laws_points9_1N_Lt ?_ ?_ laws_points9_1N_sh laws_points9_1N_run ?_
  · refine List.forall_mem_cons.2 ⟨?_, (fun _ h => absurd h List.not_mem_nil)⟩
    · intro p brk ret; show laws_points9_1N_u4 0 p brk ret = none; unfold laws_points9_1N_u4 laws_points9_1N_uG4; split <;> rfl
  · refine List.forall_mem_cons.2 ⟨?_, (fun _ h => absurd h List.not_mem_nil)⟩
    · intro np lent hL n p brk ret st r hb hr
      obtain ⟨rfl, rfl⟩ := hL
      rw [← tpl_of hb]
      change laws_points9_1N_u4 (n + 1) p brk ret = some r at hr
      have hr0 := hr
      unfold laws_points9_1N_u4 laws_points9_1N_uG4 at hr
      split at hr
      · exact (laws_points9_1N_l4_ev n _ _ brk ret).trans hr0
      · cases hr
  · intro n p κ r ds hd hr
    have hr0 := hr
    unfold laws_points9_1N_run laws_points9_1N_runG at hr
    split at hr
    · rw [← ds_of hd]
      exact ⟨en_of (laws_points9_1N_en _) ⟨rfl, rfl⟩, (laws_points9_1N_ev n _ κ).trans hr0⟩
    · cases hr

/-! loop.example/g01297/laws.points9 -/
def laws_points9_sh : List SkD := [.sl 26 .pt, .sl 26 .pt]
def laws_points9_runG {α : Type} (F : Nat → (List (Int × Int)) → (List (Int × Int)) → (Bool → Option α) → Option α) (n : Nat) (p : List P1) (κ : Res → Option α) : Option α := match p with
  | [.rows .pt a, .rows .pt b_] => F n a b_ (fun v1 => κ ⟨[.bool v1], []⟩)
  | _ => none
def laws_points9_run {α : Type} (n : Nat) (p : List P1) (κ : Res → Option α) : Option α := laws_points9_runG laws_points9 n p κ
def laws_points9_CG {α : Type}  (n : Nat) : FuncId → List D → (Res → Option α) → Option α := tabC []
def laws_points9_C {α : Type} (n : Nat) : FuncId → List D → (Res → Option α) → Option α := laws_points9_CG n
def laws_points9_M : FuncId → List Nat := tabM []
def laws_points9_t4 : Tpl := ⟨[.sl 0, .sl 64, .any, .any, .any, .int .i64, .any, .any, .any, .any, .any, .any, .any, .any, .any, .any, .any, .any, .any, .any, .any, .any, .any, .any, .any, .any], [(0, .rows 0 26 .pt), (64, .rows 0 26 .pt)], []⟩
def laws_points9_uG4 {α : Type} (G : Nat → Int → (List (Int × Int)) → (List (Int × Int)) → (Int → (List (Int × Int)) → (List (Int × Int)) → Option α) → (Bool → Option α) → Option α) (n : Nat) (p : List P1) (brk : Nat → List P1 → Option α) (ret : Res → Option α) : Option α := match p with
  | [.int i, .rows .pt a1, .rows .pt b_1] => G n i a1 b_1 (fun i a1 b_1 => brk 0 [.int i, .rows .pt a1, .rows .pt b_1]) (fun v1 => ret ⟨[.bool v1], []⟩)
  | _ => none
def laws_points9_u4 {α : Type} (n : Nat) (p : List P1) (brk : Nat → List P1 → Option α) (ret : Res → Option α) : Option α := laws_points9_uG4 laws_points9_l4 n p brk ret
def laws_points9_lpsG {α : Type} (G4 : Nat → Int → (List (Int × Int)) → (List (Int × Int)) → (Int → (List (Int × Int)) → (List (Int × Int)) → Option α) → (Bool → Option α) → Option α) : List (LoopT α) := [⟨4, laws_points9_t4, laws_points9_uG4 G4⟩]
def laws_points9_lps {α : Type} : List (LoopT α) := laws_points9_lpsG laws_points9_l4
def laws_points9_XG {α : Type}  (G4 : Nat → Int → (List (Int × Int)) → (List (Int × Int)) → (Int → (List (Int × Int)) → (List (Int × Int)) → Option α) → (Bool → Option α) → Option α) (n : Nat) : Ctx α := ⟨laws_points9_CG n, laws_points9_M, eqs, lpOf (laws_points9_lpsG G4) n⟩
def laws_points9_X {α : Type} (n : Nat) : Ctx α := laws_points9_XG laws_points9_l4 n
def laws_points9_Lt (np : Nat) (lent : List (Bool × Nat × Blk)) : Prop := np = 2 ∧ lent = []
def laws_points9_lb4 {α : Type}  (G4 : Nat → Int → (List (Int × Int)) → (List (Int × Int)) → (Int → (List (Int × Int)) → (List (Int × Int)) → Option α) → (Bool → Option α) → Option α) (k : Nat) (i : Int) (a1 : List (Int × Int)) (b_1 : List (Int × Int)) (b0 : Int → (List (Int × Int)) → (List (Int × Int)) → Option α) (r0 : Bool → Option α) : Option α :=
  bif decide (i < (((List.length a1) : Nat) : Int)) then
    bif (decide (0 ≤ i) && decide (i < (((List.length a1) : Nat) : Int))) then
      (a1[i.toNat]?).bind fun e_ =>
      bif (decide (0 ≤ i) && decide (i < (((List.length b_1) : Nat) : Int))) then
        (b_1[i.toNat]?).bind fun e_1 =>
        bif (!(decide (e_.1 = e_1.1) && decide (e_.2 = e_1.2))) then
          r0 false
        else
          G4 k (w64 (i + 1)) a1 b_1 b0 r0
      else
        none
    else
      none
  else
    b0 i a1 b_1
theorem laws_points9_l4_gen {α : Type}  (G4 : Nat → Int → (List (Int × Int)) → (List (Int × Int)) → (Int → (List (Int × Int)) → (List (Int × Int)) → Option α) → (Bool → Option α) → Option α) (n : Nat) (i : Int) (a1 : List (Int × Int)) (b_1 : List (Int × Int)) (brk : Nat → List P1 → Option α) (ret : Res → Option α) : ev ((laws_points9_XG G4 n).env Try.prog Try.f22 2 []) (findLoop (loopsIn (Try.f22.body.getD .skip)) 4) ((laws_points9_t4.build [.int i, .rows .pt a1, .rows .pt b_1]).getD ⟨[], []⟩) (roundK (2 * 64) laws_points9_t4 (fun q => laws_points9_uG4 G4 n q brk ret) brk ret) = laws_points9_lb4 G4 n i a1 b_1 (fun i a1 b_1 => brk 0 [.int i, .rows .pt a1, .rows .pt b_1]) (fun v1 => ret ⟨[.bool v1], []⟩) := by kernel_rfl
theorem laws_points9_l4_eq {α : Type} (k : Nat) (i : Int) (a1 : List (Int × Int)) (b_1 : List (Int × Int)) (b0 : Int → (List (Int × Int)) → (List (Int × Int)) → Option α) (r0 : Bool → Option α) : laws_points9_lb4 laws_points9_l4 k i a1 b_1 b0 r0 = laws_points9_l4 (k + 1) i a1 b_1 b0 r0 := (laws_points9_lb4.eq_1 laws_points9_l4 k i a1 b_1 b0 r0).trans (show laws_points9_l4 (k + 1) i a1 b_1 b0 r0 = _ from laws_points9_l4.eq_2 _ _ _ _ _ _ ).symm
theorem laws_points9_l4_rn {α : Type} (G : Nat → Int → (List (Int × Int)) → (List (Int × Int)) → (Int → (List (Int × Int)) → (List (Int × Int)) → Option α) → (Bool → Option α) → Option α) (n : Nat) (i : Int) (a1 : List (Int × Int)) (b_1 : List (Int × Int)) (brk : Nat → List P1 → Option α) (ret : Res → Option α) : laws_points9_uG4 G n [.int i, .rows .pt a1, .rows .pt b_1] brk ret = G n i a1 b_1 (fun i a1 b_1 => brk 0 [.int i, .rows .pt a1, .rows .pt b_1]) (fun v1 => ret ⟨[.bool v1], []⟩) := rfl
theorem laws_points9_l4_ev {α : Type} (n : Nat) (i : Int) (a1 : List (Int × Int)) (b_1 : List (Int × Int)) (brk : Nat → List P1 → Option α) (ret : Res → Option α) : ev ((laws_points9_X n).env Try.prog Try.f22 2 []) (findLoop (loopsIn (Try.f22.body.getD .skip)) 4) ((laws_points9_t4.build [.int i, .rows .pt a1, .rows .pt b_1]).getD ⟨[], []⟩) (roundK (2 * 64) laws_points9_t4 (fun q => laws_points9_u4 n q brk ret) brk ret) = laws_points9_u4 (n + 1) [.int i, .rows .pt a1, .rows .pt b_1] brk ret := (laws_points9_l4_gen laws_points9_l4 n i a1 b_1 brk ret).trans ((laws_points9_l4_eq n i a1 b_1 (fun i a1 b_1 => brk 0 [.int i, .rows .pt a1, .rows .pt b_1]) (fun v1 => ret ⟨[.bool v1], []⟩)).trans ((laws_points9_u4.eq_1 (n + 1) [.int i, .rows .pt a1, .rows .pt b_1] brk ret).trans (laws_points9_l4_rn laws_points9_l4 (n + 1) i a1 b_1 brk ret)).symm)
def laws_points9_body {α : Type}  (G4 : Nat → Int → (List (Int × Int)) → (List (Int × Int)) → (Int → (List (Int × Int)) → (List (Int × Int)) → Option α) → (Bool → Option α) → Option α) (k : Nat) (a : List (Int × Int)) (b_ : List (Int × Int)) (r0 : Bool → Option α) : Option α :=
  bif (!decide ((((List.length a) : Nat) : Int) = (((List.length b_) : Nat) : Int))) then
    r0 false
  else
    G4 k 0 a b_
      (fun i1 a2 b_2 =>
        r0 true)
      r0
theorem laws_points9_gen {α : Type}  (G4 : Nat → Int → (List (Int × Int)) → (List (Int × Int)) → (Int → (List (Int × Int)) → (List (Int × Int)) → Option α) → (Bool → Option α) → Option α) (n : Nat) (a : List (Int × Int)) (b_ : List (Int × Int)) (κ : Res → Option α) : evFn Try.prog (laws_points9_XG G4 n) Try.f22 (((buildDs laws_points9_sh [.rows .pt a, .rows .pt b_]).map Prod.fst).getD []) κ = laws_points9_body G4 n a b_ (fun v1 => κ ⟨[.bool v1], []⟩) := by kernel_rfl
theorem laws_points9_eq {α : Type} (n : Nat) (a : List (Int × Int)) (b_ : List (Int × Int)) (r0 : Bool → Option α) : laws_points9_body laws_points9_l4 n a b_ r0 = laws_points9 n a b_ r0 := (laws_points9_body.eq_1 laws_points9_l4 n a b_ r0).trans (laws_points9.eq_1 n a b_ r0).symm
theorem laws_points9_rn {α : Type} (F : Nat → (List (Int × Int)) → (List (Int × Int)) → (Bool → Option α) → Option α) (n : Nat) (a : List (Int × Int)) (b_ : List (Int × Int)) (κ : Res → Option α) : laws_points9_runG F n [.rows .pt a, .rows .pt b_] κ = F n a b_ (fun v1 => κ ⟨[.bool v1], []⟩) := rfl
theorem laws_points9_ev {α : Type} (n : Nat) (a : List (Int × Int)) (b_ : List (Int × Int)) (κ : Res → Option α) : evFn Try.prog (laws_points9_X n) Try.f22 (((buildDs laws_points9_sh [.rows .pt a, .rows .pt b_]).map Prod.fst).getD []) κ = laws_points9_run n [.rows .pt a, .rows .pt b_] κ := (laws_points9_gen laws_points9_l4 n a b_ κ).trans ((laws_points9_eq n a b_ (fun v1 => κ ⟨[.bool v1], []⟩)).trans ((laws_points9_run.eq_1 n [.rows .pt a, .rows .pt b_] κ).trans (laws_points9_rn laws_points9 n a b_ κ)).symm)
theorem laws_points9_en (a : List (Int × Int)) (b_ : List (Int × Int)) : (entry 0 (((buildDs laws_points9_sh [.rows .pt a, .rows .pt b_]).map Prod.fst).getD [])).map (fun x => (x.1.length, x.2.lent)) = some (2, []) := by kernel_rfl
theorem laws_points9_good {α : Type} : ∀ n, GoodFn (α := α) Try.prog 22 (byShape laws_points9_sh (laws_points9_run n)) := by
  refine fn_good' Try.func22 (c := (Try.f22.body.getD .skip)) (by kernel_rfl) (by kernel_rfl) (by kernel_rfl) laws_points9_C laws_points9_M eqs laws_points9_lps (fun n => tabC_good (fun _ h => absurd h List.not_mem_nil)) eqs_ok laws_points9_Lt ?_ ?_ laws_points9_sh laws_points9_run ?_
  · refine List.forall_mem_cons.2 ⟨?_, (fun _ h => absurd h List.not_mem_nil)⟩
    · intro p brk ret; show laws_points9_u4 0 p brk ret = none; unfold laws_points9_u4 laws_points9_uG4; split <;> rfl
  · refine List.forall_mem_cons.2 ⟨?_, (fun _ h => absurd h List.not_mem_nil)⟩
    · intro np lent hL n p brk ret st r hb hr
      obtain ⟨rfl, rfl⟩ := hL
      rw [← tpl_of hb]
      change laws_points9_u4 (n + 1) p brk ret = some r at hr
      have hr0 := hr
      unfold laws_points9_u4 laws_points9_uG4 at hr
      split at hr
      · exact (laws_points9_l4_ev n _ _ _ brk ret).trans hr0
      · cases hr
  · intro n p κ r ds hd hr
    have hr0 := hr
    unfold laws_points9_run laws_points9_runG at hr
    split at hr
    · rw [← ds_of hd]
      exact ⟨en_of (laws_points9_en _ _) ⟨rfl, rfl⟩, (laws_points9_ev n _ _ κ).trans hr0⟩
    · cases hr

end Go.Proofs.Ytjekmhinmcniaaa
