/- The program's functions hold to their readings without memory: printed by a program of ours. -/
import Derived.Test.YtegnnbhphgeocaaSe1XNextForm
namespace Go.Proofs.Ytegnnbhphgeocaa
open Go Go.Ev Go.Sh Go.Proofs

/-! loop.example/g01297/laws.FnExactNextForm -/
def laws_FnExactNextForm_sh : List SkD := [.agg [.int .i64, .int .i64, .int .i64]]
def laws_FnExactNextForm_runG {α : Type} (F : Nat → Int → Int → Int → (Bool → Option α) → Option α) (n : Nat) (p : List P1) (κ : Res → Option α) : Option α := match p with
  | [.int aX, .int aX1, .int aX2] => F n aX aX1 aX2 (fun v1 => κ ⟨[.bool v1], []⟩)
  | _ => none
def laws_FnExactNextForm_run {α : Type} (n : Nat) (p : List P1) (κ : Res → Option α) : Option α := laws_FnExactNextForm_runG laws_FnExactNextForm n p κ
def laws_FnExactNextForm_CG {α : Type} (F0 : Nat → Int → Int → Int → (Int → Int → Int → Option α) → Option α) (F1 : Nat → Int → Int → Int → (Int → Int → Int → Int → Option α) → Option α) (F2 : Nat → Int → Int → Int → (Int → Int → Int → Int → Option α) → Option α) (F3 : Nat → Int → Int → Int → Int → Int → Int → (Bool → Option α) → Option α) (n : Nat) : FuncId → List D → (Res → Option α) → Option α := tabC [(15, (byShape laws_toForm_sh (laws_toForm_runG F0 n))), (31, (byShape spec_NextForm_sh (spec_NextForm_runG F1 n))), (32, (byShape impl_NextForm_sh (impl_NextForm_runG F2 n))), (33, (byShape laws_eqForm_sh (laws_eqForm_runG F3 n)))]
def laws_FnExactNextForm_C {α : Type} (n : Nat) : FuncId → List D → (Res → Option α) → Option α := laws_FnExactNextForm_CG laws_toForm spec_NextForm impl_NextForm laws_eqForm n
def laws_FnExactNextForm_M : FuncId → List Nat := tabM []
def laws_FnExactNextForm_lpsG {α : Type}  : List (LoopT α) := []
def laws_FnExactNextForm_lps {α : Type} : List (LoopT α) := laws_FnExactNextForm_lpsG
def laws_FnExactNextForm_XG {α : Type} (F0 : Nat → Int → Int → Int → (Int → Int → Int → Option α) → Option α) (F1 : Nat → Int → Int → Int → (Int → Int → Int → Int → Option α) → Option α) (F2 : Nat → Int → Int → Int → (Int → Int → Int → Int → Option α) → Option α) (F3 : Nat → Int → Int → Int → Int → Int → Int → (Bool → Option α) → Option α)  (n : Nat) : Ctx α := ⟨laws_FnExactNextForm_CG F0 F1 F2 F3 n, laws_FnExactNextForm_M, eqs, lpOf (laws_FnExactNextForm_lpsG) n⟩
def laws_FnExactNextForm_X {α : Type} (n : Nat) : Ctx α := laws_FnExactNextForm_XG laws_toForm spec_NextForm impl_NextForm laws_eqForm n
def laws_FnExactNextForm_Lt (np : Nat) (lent : List (Bool × Nat × Blk)) : Prop := np = 1 ∧ lent = []
def laws_FnExactNextForm_body {α : Type} (F0 : Nat → Int → Int → Int → (Int → Int → Int → Option α) → Option α) (F1 : Nat → Int → Int → Int → (Int → Int → Int → Int → Option α) → Option α) (F2 : Nat → Int → Int → Int → (Int → Int → Int → Int → Option α) → Option α) (F3 : Nat → Int → Int → Int → Int → Int → Int → (Bool → Option α) → Option α)  (k : Nat) (aX : Int) (aX1 : Int) (aX2 : Int) (r0 : Bool → Option α) : Option α :=
  F0 k aX aX1 aX2 fun v v1 v2 =>
  F1 k v v1 v2 fun v3 v4 v5 v6 =>
  F0 k aX aX1 aX2 fun v7 v8 v9 =>
  F2 k v7 v8 v9 fun v10 v11 v12 v13 =>
  F3 k v10 v11 v12 v3 v4 v5 fun v14 =>
  bif (!v14) then
    r0 false
  else
  bif (!decide (v13 = v6)) then
    r0 false
  else
    r0 true
theorem laws_FnExactNextForm_gen {α : Type} (F0 : Nat → Int → Int → Int → (Int → Int → Int → Option α) → Option α) (F1 : Nat → Int → Int → Int → (Int → Int → Int → Int → Option α) → Option α) (F2 : Nat → Int → Int → Int → (Int → Int → Int → Int → Option α) → Option α) (F3 : Nat → Int → Int → Int → Int → Int → Int → (Bool → Option α) → Option α)  (n : Nat) (aX : Int) (aX1 : Int) (aX2 : Int) (κ : Res → Option α) : evFn Try.prog (laws_FnExactNextForm_XG F0 F1 F2 F3 n) Try.f8 (((buildDs laws_FnExactNextForm_sh [.int aX, .int aX1, .int aX2]).map Prod.fst).getD []) κ = laws_FnExactNextForm_body F0 F1 F2 F3 n aX aX1 aX2 (fun v1 => κ ⟨[.bool v1], []⟩) := by kernel_rfl
theorem laws_FnExactNextForm_ev {α : Type} (n : Nat) (aX : Int) (aX1 : Int) (aX2 : Int) (κ : Res → Option α) : evFn Try.prog (laws_FnExactNextForm_X n) Try.f8 (((buildDs laws_FnExactNextForm_sh [.int aX, .int aX1, .int aX2]).map Prod.fst).getD []) κ = laws_FnExactNextForm_run n [.int aX, .int aX1, .int aX2] κ := (laws_FnExactNextForm_gen laws_toForm spec_NextForm impl_NextForm laws_eqForm n aX aX1 aX2 κ).trans (by kernel_rfl)
theorem laws_FnExactNextForm_en (aX : Int) (aX1 : Int) (aX2 : Int) : (entry 0 (((buildDs laws_FnExactNextForm_sh [.int aX, .int aX1, .int aX2]).map Prod.fst).getD [])).map (fun x => (x.1.length, x.2.lent)) = some (1, []) := by kernel_rfl
theorem laws_FnExactNextForm_good {α : Type} : ∀ n, GoodFn (α := α) Try.prog 8 (byShape laws_FnExactNextForm_sh (laws_FnExactNextForm_run n)) := by
  refine fn_good' Try.func8 (c := (Try.f8.body.getD .skip)) (by kernel_rfl) (by kernel_rfl) (by kernel_rfl) laws_FnExactNextForm_C laws_FnExactNextForm_M eqs laws_FnExactNextForm_lps (fun n => tabC_good (List.forall_mem_cons.2 ⟨(laws_toForm_good n), (List.forall_mem_cons.2 ⟨(spec_NextForm_good n), (List.forall_mem_cons.2 ⟨(impl_NextForm_good n), (List.forall_mem_cons.2 ⟨(laws_eqForm_good n), (fun _ h => absurd h List.not_mem_nil)⟩)⟩)⟩)⟩)) eqs_ok laws_FnExactNextForm_Lt ?_ ?_ laws_FnExactNextForm_sh laws_FnExactNextForm_run ?_
  · exact (fun _ h => absurd h List.not_mem_nil)
  · exact (fun _ h => absurd h List.not_mem_nil)
  · intro n p κ r ds hd hr
    have hr0 := hr
    unfold laws_FnExactNextForm_run laws_FnExactNextForm_runG at hr
    split at hr
    · rw [← ds_of hd]
      exact ⟨en_of (laws_FnExactNextForm_en _ _ _) ⟨rfl, rfl⟩, (laws_FnExactNextForm_ev n _ _ _ κ).trans hr0⟩
    · cases hr

end Go.Proofs.Ytegnnbhphgeocaa
