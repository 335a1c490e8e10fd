/- The program's functions hold to their readings without memory: printed by a program of ours. -/
import Derived.Test.YtegnnbhphgeocaaSe1XIsReducedForm
set_option linter.unusedVariables false
namespace Go.Proofs.Ytegnnbhphgeocaa
open Go Go.Ev Go.Sh Go.Proofs

/-! loop.example/g01297/laws.FnExactIsReducedForm -/
def laws_FnExactIsReducedForm_sh : List SkD := [.agg [.int .i64, .int .i64, .int .i64]]
def laws_FnExactIsReducedForm_runG {α : Type} (F : Nat → Int → Int → Int → (Bool → Option α) → Option α) (n : Nat) (p : List P1) (κ : Res → Option α) : Option α := match p with
  | [.int aX, .int aX1, .int aX2] => F n aX aX1 aX2 (fun v1 => κ ⟨[.bool v1], []⟩)
  | _ => none
def laws_FnExactIsReducedForm_run {α : Type} (n : Nat) (p : List P1) (κ : Res → Option α) : Option α := laws_FnExactIsReducedForm_runG laws_FnExactIsReducedForm n p κ
def laws_FnExactIsReducedForm_CG {α : Type} (F0 : Nat → Int → Int → Int → (Int → Int → Int → Option α) → Option α) (F1 : Nat → Int → Int → Int → (Bool → Int → Option α) → Option α) (F2 : Nat → Int → Int → Int → (Bool → Int → Option α) → Option α) (n : Nat) : FuncId → List D → (Res → Option α) → Option α := tabC [(15, (byShape laws_toForm_sh (laws_toForm_runG F0 n))), (14, (byShape spec_IsReducedForm_sh (spec_IsReducedForm_runG F1 n))), (16, (byShape impl_IsReducedForm_sh (impl_IsReducedForm_runG F2 n)))]
def laws_FnExactIsReducedForm_C {α : Type} (n : Nat) : FuncId → List D → (Res → Option α) → Option α := laws_FnExactIsReducedForm_CG laws_toForm spec_IsReducedForm impl_IsReducedForm n
def laws_FnExactIsReducedForm_M : FuncId → List Nat := tabM []
def laws_FnExactIsReducedForm_lpsG {α : Type}  : List (LoopT α) := []
def laws_FnExactIsReducedForm_lps {α : Type} : List (LoopT α) := laws_FnExactIsReducedForm_lpsG
def laws_FnExactIsReducedForm_XG {α : Type} (F0 : Nat → Int → Int → Int → (Int → Int → Int → Option α) → Option α) (F1 : Nat → Int → Int → Int → (Bool → Int → Option α) → Option α) (F2 : Nat → Int → Int → Int → (Bool → Int → Option α) → Option α)  (n : Nat) : Ctx α := ⟨laws_FnExactIsReducedForm_CG F0 F1 F2 n, laws_FnExactIsReducedForm_M, eqs, lpOf (laws_FnExactIsReducedForm_lpsG) n⟩
def laws_FnExactIsReducedForm_X {α : Type} (n : Nat) : Ctx α := laws_FnExactIsReducedForm_XG laws_toForm spec_IsReducedForm impl_IsReducedForm n
def laws_FnExactIsReducedForm_Lt (np : Nat) (lent : List (Bool × Nat × Blk)) : Prop := np = 1 ∧ lent = []
def laws_FnExactIsReducedForm_body {α : Type} (F0 : Nat → Int → Int → Int → (Int → Int → Int → Option α) → Option α) (F1 : Nat → Int → Int → Int → (Bool → Int → Option α) → Option α) (F2 : Nat → Int → Int → Int → (Bool → Int → Option α) → Option α)  (k : Nat) (aX : Int) (aX1 : Int) (aX2 : Int) (r0 : Bool → Option α) : Option α :=
  F0 k aX aX1 aX2 fun v v1 v2 =>
  F1 k v v1 v2 fun v3 v4 =>
  F0 k aX aX1 aX2 fun v5 v6 v7 =>
  F2 k v5 v6 v7 fun v8 v9 =>
  bif (!(v8 == v3)) then
    r0 false
  else
  bif (!decide (v9 = v4)) then
    r0 false
  else
    r0 true
theorem laws_FnExactIsReducedForm_gen {α : Type} (F0 : Nat → Int → Int → Int → (Int → Int → Int → Option α) → Option α) (F1 : Nat → Int → Int → Int → (Bool → Int → Option α) → Option α) (F2 : Nat → Int → Int → Int → (Bool → Int → Option α) → Option α)  (n : Nat) (aX : Int) (aX1 : Int) (aX2 : Int) (κ : Res → Option α) : evFn Try.prog (laws_FnExactIsReducedForm_XG F0 F1 F2 n) Try.f3 (((buildDs laws_FnExactIsReducedForm_sh [.int aX, .int aX1, .int aX2]).map Prod.fst).getD []) κ = laws_FnExactIsReducedForm_body F0 F1 F2 n aX aX1 aX2 (fun v1 => κ ⟨[.bool v1], []⟩) := by kernel_rfl
theorem laws_FnExactIsReducedForm_ev {α : Type} (n : Nat) (aX : Int) (aX1 : Int) (aX2 : Int) (κ : Res → Option α) : evFn Try.prog (laws_FnExactIsReducedForm_X n) Try.f3 (((buildDs laws_FnExactIsReducedForm_sh [.int aX, .int aX1, .int aX2]).map Prod.fst).getD []) κ = laws_FnExactIsReducedForm_run n [.int aX, .int aX1, .int aX2] κ := (laws_FnExactIsReducedForm_gen laws_toForm spec_IsReducedForm impl_IsReducedForm n aX aX1 aX2 κ).trans (by kernel_rfl)
theorem laws_FnExactIsReducedForm_en (aX : Int) (aX1 : Int) (aX2 : Int) : (entry 0 (((buildDs laws_FnExactIsReducedForm_sh [.int aX, .int aX1, .int aX2]).map Prod.fst).getD [])).map (fun x => (x.1.length, x.2.lent)) = some (1, []) := by kernel_rfl
theorem laws_FnExactIsReducedForm_good {α : Type} : ∀ n, GoodFn (α := α) Try.prog 3 (byShape laws_FnExactIsReducedForm_sh (laws_FnExactIsReducedForm_run n)) := by
  refine fn_good' Try.func3 (c := (Try.f3.body.getD .skip)) (by kernel_rfl) (by kernel_rfl) (by kernel_rfl) laws_FnExactIsReducedForm_C laws_FnExactIsReducedForm_M eqs laws_FnExactIsReducedForm_lps (fun n => tabC_good (List.forall_mem_cons.2 ⟨(laws_toForm_good n), (List.forall_mem_cons.2 ⟨(spec_IsReducedForm_good n), (List.forall_mem_cons.2 ⟨(impl_IsReducedForm_good n), (fun _ h => absurd h List.not_mem_nil)⟩)⟩)⟩)) eqs_ok laws_FnExactIsReducedForm_Lt ?_ ?_ laws_FnExactIsReducedForm_sh laws_FnExactIsReducedForm_run ?_
  · exact (fun _ h => absurd h List.not_mem_nil)
  · exact (fun _ h => absurd h List.not_mem_nil)
  · intro n p κ r ds hd hr
    have hr0 := hr
    unfold laws_FnExactIsReducedForm_run laws_FnExactIsReducedForm_runG at hr
    split at hr
    · rw [← ds_of hd]
      exact ⟨en_of (laws_FnExactIsReducedForm_en _ _ _) ⟨rfl, rfl⟩, (laws_FnExactIsReducedForm_ev n _ _ _ κ).trans hr0⟩
    · cases hr

end Go.Proofs.Ytegnnbhphgeocaa
