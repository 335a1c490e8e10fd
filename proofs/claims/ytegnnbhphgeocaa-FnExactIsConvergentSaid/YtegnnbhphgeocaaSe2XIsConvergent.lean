/- The program's functions hold to their readings without memory: printed by a program of ours. -/
import Derived.Test.YtegnnbhphgeocaaSe1XIsConvergent
namespace Go.Proofs.Ytegnnbhphgeocaa
open Go Go.Ev Go.Sh Go.Proofs

/-! loop.example/g01297/laws.FnExactIsConvergent -/
def laws_FnExactIsConvergent_sh : List SkD := [.int .i64, .int .i64, .int .i64, .int .i64]
def laws_FnExactIsConvergent_runG {α : Type} (F : Nat → Int → Int → Int → Int → (Bool → Option α) → Option α) (n : Nat) (p : List P1) (κ : Res → Option α) : Option α := match p with
  | [.int aP, .int aQ, .int aR, .int aS] => F n aP aQ aR aS (fun v1 => κ ⟨[.bool v1], []⟩)
  | _ => none
def laws_FnExactIsConvergent_run {α : Type} (n : Nat) (p : List P1) (κ : Res → Option α) : Option α := laws_FnExactIsConvergent_runG laws_FnExactIsConvergent n p κ
def laws_FnExactIsConvergent_CG {α : Type} (F0 : Nat → Int → Int → Int → Int → (Bool → Int → Option α) → Option α) (F1 : Nat → Int → Int → Int → Int → (Bool → Int → Option α) → Option α) (n : Nat) : FuncId → List D → (Res → Option α) → Option α := tabC [(34, (byShape spec_IsConvergent_sh (spec_IsConvergent_runG F0 n))), (35, (byShape impl_IsConvergent_sh (impl_IsConvergent_runG F1 n)))]
def laws_FnExactIsConvergent_C {α : Type} (n : Nat) : FuncId → List D → (Res → Option α) → Option α := laws_FnExactIsConvergent_CG spec_IsConvergent impl_IsConvergent n
def laws_FnExactIsConvergent_M : FuncId → List Nat := tabM []
def laws_FnExactIsConvergent_lpsG {α : Type}  : List (LoopT α) := []
def laws_FnExactIsConvergent_lps {α : Type} : List (LoopT α) := laws_FnExactIsConvergent_lpsG
def laws_FnExactIsConvergent_XG {α : Type} (F0 : Nat → Int → Int → Int → Int → (Bool → Int → Option α) → Option α) (F1 : Nat → Int → Int → Int → Int → (Bool → Int → Option α) → Option α)  (n : Nat) : Ctx α := ⟨laws_FnExactIsConvergent_CG F0 F1 n, laws_FnExactIsConvergent_M, eqs, lpOf (laws_FnExactIsConvergent_lpsG) n⟩
def laws_FnExactIsConvergent_X {α : Type} (n : Nat) : Ctx α := laws_FnExactIsConvergent_XG spec_IsConvergent impl_IsConvergent n
def laws_FnExactIsConvergent_Lt (np : Nat) (lent : List (Bool × Nat × Blk)) : Prop := np = 4 ∧ lent = []
def laws_FnExactIsConvergent_body {α : Type} (F0 : Nat → Int → Int → Int → Int → (Bool → Int → Option α) → Option α) (F1 : Nat → Int → Int → Int → Int → (Bool → Int → Option α) → Option α)  (k : Nat) (aP : Int) (aQ : Int) (aR : Int) (aS : Int) (r0 : Bool → Option α) : Option α :=
  F0 k aP aQ aR aS fun v v1 =>
  F1 k aP aQ aR aS fun v2 v3 =>
  bif (!(v2 == v)) then
    r0 false
  else
  bif (!decide (v3 = v1)) then
    r0 false
  else
    r0 true
theorem laws_FnExactIsConvergent_gen {α : Type} (F0 : Nat → Int → Int → Int → Int → (Bool → Int → Option α) → Option α) (F1 : Nat → Int → Int → Int → Int → (Bool → Int → Option α) → Option α)  (n : Nat) (aP : Int) (aQ : Int) (aR : Int) (aS : Int) (κ : Res → Option α) : evFn Try.prog (laws_FnExactIsConvergent_XG F0 F1 n) Try.f9 (((buildDs laws_FnExactIsConvergent_sh [.int aP, .int aQ, .int aR, .int aS]).map Prod.fst).getD []) κ = laws_FnExactIsConvergent_body F0 F1 n aP aQ aR aS (fun v1 => κ ⟨[.bool v1], []⟩) := by kernel_rfl
theorem laws_FnExactIsConvergent_ev {α : Type} (n : Nat) (aP : Int) (aQ : Int) (aR : Int) (aS : Int) (κ : Res → Option α) : evFn Try.prog (laws_FnExactIsConvergent_X n) Try.f9 (((buildDs laws_FnExactIsConvergent_sh [.int aP, .int aQ, .int aR, .int aS]).map Prod.fst).getD []) κ = laws_FnExactIsConvergent_run n [.int aP, .int aQ, .int aR, .int aS] κ := (laws_FnExactIsConvergent_gen spec_IsConvergent impl_IsConvergent n aP aQ aR aS κ).trans (by kernel_rfl)
theorem laws_FnExactIsConvergent_en (aP : Int) (aQ : Int) (aR : Int) (aS : Int) : (entry 0 (((buildDs laws_FnExactIsConvergent_sh [.int aP, .int aQ, .int aR, .int aS]).map Prod.fst).getD [])).map (fun x => (x.1.length, x.2.lent)) = some (4, []) := by kernel_rfl
theorem laws_FnExactIsConvergent_good {α : Type} : ∀ n, GoodFn (α := α) Try.prog 9 (byShape laws_FnExactIsConvergent_sh (laws_FnExactIsConvergent_run n)) := by
  refine fn_good' Try.func9 (c := (Try.f9.body.getD .skip)) (by kernel_rfl) (by kernel_rfl) (by kernel_rfl) laws_FnExactIsConvergent_C laws_FnExactIsConvergent_M eqs laws_FnExactIsConvergent_lps (fun n => tabC_good (List.forall_mem_cons.2 ⟨(spec_IsConvergent_good n), (List.forall_mem_cons.2 ⟨(impl_IsConvergent_good n), (fun _ h => absurd h List.not_mem_nil)⟩)⟩)) eqs_ok laws_FnExactIsConvergent_Lt ?_ ?_ laws_FnExactIsConvergent_sh laws_FnExactIsConvergent_run ?_
  · exact (fun _ h => absurd h List.not_mem_nil)
  · exact (fun _ h => absurd h List.not_mem_nil)
  · intro n p κ r ds hd hr
    have hr0 := hr
    unfold laws_FnExactIsConvergent_run laws_FnExactIsConvergent_runG at hr
    split at hr
    · rw [← ds_of hd]
      exact ⟨en_of (laws_FnExactIsConvergent_en _ _ _ _) ⟨rfl, rfl⟩, (laws_FnExactIsConvergent_ev n _ _ _ _ κ).trans hr0⟩
    · cases hr

end Go.Proofs.Ytegnnbhphgeocaa
