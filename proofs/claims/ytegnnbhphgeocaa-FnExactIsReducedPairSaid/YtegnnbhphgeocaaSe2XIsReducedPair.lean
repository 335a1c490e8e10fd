/- The program's functions hold to their readings without memory: printed by a program of ours. -/
import Derived.Test.YtegnnbhphgeocaaSe1XIsReducedPair
namespace Go.Proofs.Ytegnnbhphgeocaa
open Go Go.Ev Go.Sh Go.Proofs

/-! loop.example/g01297/laws.FnExactIsReducedPair -/
def laws_FnExactIsReducedPair_sh : List SkD := [.agg [.int .i64, .int .i64], .agg [.int .i64, .int .i64]]
def laws_FnExactIsReducedPair_runG {α : Type} (F : Nat → Int → Int → Int → Int → (Bool → Option α) → Option α) (n : Nat) (p : List P1) (κ : Res → Option α) : Option α := match p with
  | [.int aA, .int aA1, .int aB, .int aB1] => F n aA aA1 aB aB1 (fun v1 => κ ⟨[.bool v1], []⟩)
  | _ => none
def laws_FnExactIsReducedPair_run {α : Type} (n : Nat) (p : List P1) (κ : Res → Option α) : Option α := laws_FnExactIsReducedPair_runG laws_FnExactIsReducedPair n p κ
def laws_FnExactIsReducedPair_CG {α : Type} (F0 : Nat → Int → Int → (Int → Int → Option α) → Option α) (F1 : Nat → Int → Int → Int → Int → (Bool → Int → Option α) → Option α) (F2 : Nat → Int → Int → Int → Int → (Bool → Int → Option α) → Option α) (n : Nat) : FuncId → List D → (Res → Option α) → Option α := tabC [(18, (byShape laws_toPoint_sh (laws_toPoint_runG F0 n))), (17, (byShape spec_IsReducedPair_sh (spec_IsReducedPair_runG F1 n))), (19, (byShape impl_IsReducedPair_sh (impl_IsReducedPair_runG F2 n)))]
def laws_FnExactIsReducedPair_C {α : Type} (n : Nat) : FuncId → List D → (Res → Option α) → Option α := laws_FnExactIsReducedPair_CG laws_toPoint spec_IsReducedPair impl_IsReducedPair n
def laws_FnExactIsReducedPair_M : FuncId → List Nat := tabM []
def laws_FnExactIsReducedPair_lpsG {α : Type}  : List (LoopT α) := []
def laws_FnExactIsReducedPair_lps {α : Type} : List (LoopT α) := laws_FnExactIsReducedPair_lpsG
def laws_FnExactIsReducedPair_XG {α : Type} (F0 : Nat → Int → Int → (Int → Int → Option α) → Option α) (F1 : Nat → Int → Int → Int → Int → (Bool → Int → Option α) → Option α) (F2 : Nat → Int → Int → Int → Int → (Bool → Int → Option α) → Option α)  (n : Nat) : Ctx α := ⟨laws_FnExactIsReducedPair_CG F0 F1 F2 n, laws_FnExactIsReducedPair_M, eqs, lpOf (laws_FnExactIsReducedPair_lpsG) n⟩
def laws_FnExactIsReducedPair_X {α : Type} (n : Nat) : Ctx α := laws_FnExactIsReducedPair_XG laws_toPoint spec_IsReducedPair impl_IsReducedPair n
def laws_FnExactIsReducedPair_Lt (np : Nat) (lent : List (Bool × Nat × Blk)) : Prop := np = 2 ∧ lent = []
def laws_FnExactIsReducedPair_body {α : Type} (F0 : Nat → Int → Int → (Int → Int → Option α) → Option α) (F1 : Nat → Int → Int → Int → Int → (Bool → Int → Option α) → Option α) (F2 : Nat → Int → Int → Int → Int → (Bool → Int → Option α) → Option α)  (k : Nat) (aA : Int) (aA1 : Int) (aB : Int) (aB1 : Int) (r0 : Bool → Option α) : Option α :=
  F0 k aA aA1 fun v v1 =>
  F0 k aB aB1 fun v2 v3 =>
  F1 k v v1 v2 v3 fun v4 v5 =>
  F0 k aA aA1 fun v6 v7 =>
  F0 k aB aB1 fun v8 v9 =>
  F2 k v6 v7 v8 v9 fun v10 v11 =>
  bif (!(v10 == v4)) then
    r0 false
  else
  bif (!decide (v11 = v5)) then
    r0 false
  else
    r0 true
theorem laws_FnExactIsReducedPair_gen {α : Type} (F0 : Nat → Int → Int → (Int → Int → Option α) → Option α) (F1 : Nat → Int → Int → Int → Int → (Bool → Int → Option α) → Option α) (F2 : Nat → Int → Int → Int → Int → (Bool → Int → Option α) → Option α)  (n : Nat) (aA : Int) (aA1 : Int) (aB : Int) (aB1 : Int) (κ : Res → Option α) : evFn Try.prog (laws_FnExactIsReducedPair_XG F0 F1 F2 n) Try.f4 (((buildDs laws_FnExactIsReducedPair_sh [.int aA, .int aA1, .int aB, .int aB1]).map Prod.fst).getD []) κ = laws_FnExactIsReducedPair_body F0 F1 F2 n aA aA1 aB aB1 (fun v1 => κ ⟨[.bool v1], []⟩) := by kernel_rfl
theorem laws_FnExactIsReducedPair_ev {α : Type} (n : Nat) (aA : Int) (aA1 : Int) (aB : Int) (aB1 : Int) (κ : Res → Option α) : evFn Try.prog (laws_FnExactIsReducedPair_X n) Try.f4 (((buildDs laws_FnExactIsReducedPair_sh [.int aA, .int aA1, .int aB, .int aB1]).map Prod.fst).getD []) κ = laws_FnExactIsReducedPair_run n [.int aA, .int aA1, .int aB, .int aB1] κ := (laws_FnExactIsReducedPair_gen laws_toPoint spec_IsReducedPair impl_IsReducedPair n aA aA1 aB aB1 κ).trans (by kernel_rfl)
theorem laws_FnExactIsReducedPair_en (aA : Int) (aA1 : Int) (aB : Int) (aB1 : Int) : (entry 0 (((buildDs laws_FnExactIsReducedPair_sh [.int aA, .int aA1, .int aB, .int aB1]).map Prod.fst).getD [])).map (fun x => (x.1.length, x.2.lent)) = some (2, []) := by kernel_rfl
theorem laws_FnExactIsReducedPair_good {α : Type} : ∀ n, GoodFn (α := α) Try.prog 4 (byShape laws_FnExactIsReducedPair_sh (laws_FnExactIsReducedPair_run n)) := by
  refine fn_good' Try.func4 (c := (Try.f4.body.getD .skip)) (by kernel_rfl) (by kernel_rfl) (by kernel_rfl) laws_FnExactIsReducedPair_C laws_FnExactIsReducedPair_M eqs laws_FnExactIsReducedPair_lps (fun n => tabC_good (List.forall_mem_cons.2 ⟨(laws_toPoint_good n), (List.forall_mem_cons.2 ⟨(spec_IsReducedPair_good n), (List.forall_mem_cons.2 ⟨(impl_IsReducedPair_good n), (fun _ h => absurd h List.not_mem_nil)⟩)⟩)⟩)) eqs_ok laws_FnExactIsReducedPair_Lt ?_ ?_ laws_FnExactIsReducedPair_sh laws_FnExactIsReducedPair_run ?_
  · exact (fun _ h => absurd h List.not_mem_nil)
  · exact (fun _ h => absurd h List.not_mem_nil)
  · intro n p κ r ds hd hr
    have hr0 := hr
    unfold laws_FnExactIsReducedPair_run laws_FnExactIsReducedPair_runG at hr
    split at hr
    · rw [← ds_of hd]
      exact ⟨en_of (laws_FnExactIsReducedPair_en _ _ _ _) ⟨rfl, rfl⟩, (laws_FnExactIsReducedPair_ev n _ _ _ _ κ).trans hr0⟩
    · cases hr

end Go.Proofs.Ytegnnbhphgeocaa
