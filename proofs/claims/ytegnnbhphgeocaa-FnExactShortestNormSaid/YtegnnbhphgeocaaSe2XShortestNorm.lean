/- The program's functions hold to their readings without memory: printed by a program of ours. -/
import Derived.Test.YtegnnbhphgeocaaSe1XShortestNorm
namespace Go.Proofs.Ytegnnbhphgeocaa
open Go Go.Ev Go.Sh Go.Proofs

/-! loop.example/g01297/laws.FnExactShortestNorm -/
def laws_FnExactShortestNorm_sh : List SkD := [.agg [.int .i64, .int .i64], .agg [.int .i64, .int .i64]]
def laws_FnExactShortestNorm_runG {α : Type} (F : Nat → Int → Int → Int → Int → (Bool → Option α) → Option α) (n : Nat) (p : List P1) (κ : Res → Option α) : Option α := match p with
  | [.int aA, .int aA1, .int aB, .int aB1] => F n aA aA1 aB aB1 (fun v1 => κ ⟨[.bool v1], []⟩)
  | _ => none
def laws_FnExactShortestNorm_run {α : Type} (n : Nat) (p : List P1) (κ : Res → Option α) : Option α := laws_FnExactShortestNorm_runG laws_FnExactShortestNorm n p κ
def laws_FnExactShortestNorm_CG {α : Type} (F0 : Nat → Int → Int → (Int → Int → Option α) → Option α) (F1 : Nat → Int → Int → Int → Int → (Int → Int → Option α) → Option α) (F2 : Nat → Int → Int → Int → Int → (Int → Int → Option α) → Option α) (n : Nat) : FuncId → List D → (Res → Option α) → Option α := tabC [(18, (byShape laws_toPoint_sh (laws_toPoint_runG F0 n))), (41, (byShape spec_ShortestNorm_sh (spec_ShortestNorm_runG F1 n))), (42, (byShape impl_ShortestNorm_sh (impl_ShortestNorm_runG F2 n)))]
def laws_FnExactShortestNorm_C {α : Type} (n : Nat) : FuncId → List D → (Res → Option α) → Option α := laws_FnExactShortestNorm_CG laws_toPoint spec_ShortestNorm impl_ShortestNorm n
def laws_FnExactShortestNorm_M : FuncId → List Nat := tabM []
def laws_FnExactShortestNorm_lpsG {α : Type}  : List (LoopT α) := []
def laws_FnExactShortestNorm_lps {α : Type} : List (LoopT α) := laws_FnExactShortestNorm_lpsG
def laws_FnExactShortestNorm_XG {α : Type} (F0 : Nat → Int → Int → (Int → Int → Option α) → Option α) (F1 : Nat → Int → Int → Int → Int → (Int → Int → Option α) → Option α) (F2 : Nat → Int → Int → Int → Int → (Int → Int → Option α) → Option α)  (n : Nat) : Ctx α := ⟨laws_FnExactShortestNorm_CG F0 F1 F2 n, laws_FnExactShortestNorm_M, eqs, lpOf (laws_FnExactShortestNorm_lpsG) n⟩
def laws_FnExactShortestNorm_X {α : Type} (n : Nat) : Ctx α := laws_FnExactShortestNorm_XG laws_toPoint spec_ShortestNorm impl_ShortestNorm n
def laws_FnExactShortestNorm_Lt (np : Nat) (lent : List (Bool × Nat × Blk)) : Prop := np = 2 ∧ lent = []
def laws_FnExactShortestNorm_body {α : Type} (F0 : Nat → Int → Int → (Int → Int → Option α) → Option α) (F1 : Nat → Int → Int → Int → Int → (Int → Int → Option α) → Option α) (F2 : Nat → Int → Int → Int → Int → (Int → Int → Option α) → Option α)  (k : Nat) (aA : Int) (aA1 : Int) (aB : Int) (aB1 : Int) (r0 : Bool → Option α) : Option α :=
  F0 k aA aA1 fun v v1 =>
  F0 k aB aB1 fun v2 v3 =>
  F1 k v v1 v2 v3 fun v4 v5 =>
  F0 k aA aA1 fun v6 v7 =>
  F0 k aB aB1 fun v8 v9 =>
  F2 k v6 v7 v8 v9 fun v10 v11 =>
  bif (!decide (v10 = v4)) then
    r0 false
  else
  bif (!decide (v11 = v5)) then
    r0 false
  else
    r0 true
theorem laws_FnExactShortestNorm_gen {α : Type} (F0 : Nat → Int → Int → (Int → Int → Option α) → Option α) (F1 : Nat → Int → Int → Int → Int → (Int → Int → Option α) → Option α) (F2 : Nat → Int → Int → Int → Int → (Int → Int → Option α) → Option α)  (n : Nat) (aA : Int) (aA1 : Int) (aB : Int) (aB1 : Int) (κ : Res → Option α) : evFn Try.prog (laws_FnExactShortestNorm_XG F0 F1 F2 n) Try.f11 (((buildDs laws_FnExactShortestNorm_sh [.int aA, .int aA1, .int aB, .int aB1]).map Prod.fst).getD []) κ = laws_FnExactShortestNorm_body F0 F1 F2 n aA aA1 aB aB1 (fun v1 => κ ⟨[.bool v1], []⟩) := by kernel_rfl
theorem laws_FnExactShortestNorm_ev {α : Type} (n : Nat) (aA : Int) (aA1 : Int) (aB : Int) (aB1 : Int) (κ : Res → Option α) : evFn Try.prog (laws_FnExactShortestNorm_X n) Try.f11 (((buildDs laws_FnExactShortestNorm_sh [.int aA, .int aA1, .int aB, .int aB1]).map Prod.fst).getD []) κ = laws_FnExactShortestNorm_run n [.int aA, .int aA1, .int aB, .int aB1] κ := (laws_FnExactShortestNorm_gen laws_toPoint spec_ShortestNorm impl_ShortestNorm n aA aA1 aB aB1 κ).trans (by kernel_rfl)
theorem laws_FnExactShortestNorm_en (aA : Int) (aA1 : Int) (aB : Int) (aB1 : Int) : (entry 0 (((buildDs laws_FnExactShortestNorm_sh [.int aA, .int aA1, .int aB, .int aB1]).map Prod.fst).getD [])).map (fun x => (x.1.length, x.2.lent)) = some (2, []) := by kernel_rfl
theorem laws_FnExactShortestNorm_good {α : Type} : ∀ n, GoodFn (α := α) Try.prog 11 (byShape laws_FnExactShortestNorm_sh (laws_FnExactShortestNorm_run n)) := by
  refine fn_good' Try.func11 (c := (Try.f11.body.getD .skip)) (by kernel_rfl) (by kernel_rfl) (by kernel_rfl) laws_FnExactShortestNorm_C laws_FnExactShortestNorm_M eqs laws_FnExactShortestNorm_lps (fun n => tabC_good (List.forall_mem_cons.2 ⟨(laws_toPoint_good n), (List.forall_mem_cons.2 ⟨(spec_ShortestNorm_good n), (List.forall_mem_cons.2 ⟨(impl_ShortestNorm_good n), (fun _ h => absurd h List.not_mem_nil)⟩)⟩)⟩)) eqs_ok laws_FnExactShortestNorm_Lt ?_ ?_ laws_FnExactShortestNorm_sh laws_FnExactShortestNorm_run ?_
  · exact (fun _ h => absurd h List.not_mem_nil)
  · exact (fun _ h => absurd h List.not_mem_nil)
  · intro n p κ r ds hd hr
    have hr0 := hr
    unfold laws_FnExactShortestNorm_run laws_FnExactShortestNorm_runG at hr
    split at hr
    · rw [← ds_of hd]
      exact ⟨en_of (laws_FnExactShortestNorm_en _ _ _ _) ⟨rfl, rfl⟩, (laws_FnExactShortestNorm_ev n _ _ _ _ κ).trans hr0⟩
    · cases hr

end Go.Proofs.Ytegnnbhphgeocaa
