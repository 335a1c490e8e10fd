/- The program's functions hold to their readings without memory: printed by a program of ours. -/
import Derived.Test.YtnfpidnnmgedfaaSe2XCountOfMultiple
namespace Go.Proofs.Ytnfpidnnmgedfaa
open Go Go.Ev Go.Sh Go.Proofs

/-! loop.example/g01297/laws.FnExactCountOfMultiple -/
def laws_FnExactCountOfMultiple_sh : List SkD := [.sl 29 .pt, .int .i64]
def laws_FnExactCountOfMultiple_runG {α : Type} (F : Nat → (List (Int × Int)) → Int → (Bool → Option α) → Option α) (n : Nat) (p : List P1) (κ : Res → Option α) : Option α := match p with
  | [.rows .pt aList, .int aK] => F n aList aK (fun v1 => κ ⟨[.bool v1], []⟩)
  | _ => none
def laws_FnExactCountOfMultiple_run {α : Type} (n : Nat) (p : List P1) (κ : Res → Option α) : Option α := laws_FnExactCountOfMultiple_runG laws_FnExactCountOfMultiple n p κ
def laws_FnExactCountOfMultiple_CG {α : Type} (F0 : Nat → (List (Int × Int)) → Int → (Int → Option α) → Option α) (F1 : Nat → (List (Int × Int)) → ((List (Int × Int)) → Option α) → Option α) (F2 : Nat → (List (Int × Int)) → Int → (Int → Int → Option α) → Option α) (F3 : Nat → (List (Int × Int)) → Int → (Int → Int → Option α) → Option α) (F4 : Nat → (List (Int × Int)) → (List (Int × Int)) → (Bool → Option α) → Option α) (n : Nat) : FuncId → List D → (Res → Option α) → Option α := tabC [(24, (byShape laws_szPointS_sh (laws_szPointS_runG F0 n))), (26, (byShape laws_toPointS_sh (laws_toPointS_runG F1 n))), (47, (byShape spec_CountOfMultiple_sh (spec_CountOfMultiple_runG F2 n))), (48, (byShape impl_CountOfMultiple_sh (impl_CountOfMultiple_runG F3 n))), (21, (byShape laws_eqPointS_sh (laws_eqPointS_runG F4 n)))]
def laws_FnExactCountOfMultiple_C {α : Type} (n : Nat) : FuncId → List D → (Res → Option α) → Option α := laws_FnExactCountOfMultiple_CG laws_szPointS laws_toPointS spec_CountOfMultiple impl_CountOfMultiple laws_eqPointS n
def laws_FnExactCountOfMultiple_M : FuncId → List Nat := tabM []
def laws_FnExactCountOfMultiple_lpsG {α : Type}  : List (LoopT α) := []
def laws_FnExactCountOfMultiple_lps {α : Type} : List (LoopT α) := laws_FnExactCountOfMultiple_lpsG
def laws_FnExactCountOfMultiple_XG {α : Type} (F0 : Nat → (List (Int × Int)) → Int → (Int → Option α) → Option α) (F1 : Nat → (List (Int × Int)) → ((List (Int × Int)) → Option α) → Option α) (F2 : Nat → (List (Int × Int)) → Int → (Int → Int → Option α) → Option α) (F3 : Nat → (List (Int × Int)) → Int → (Int → Int → Option α) → Option α) (F4 : Nat → (List (Int × Int)) → (List (Int × Int)) → (Bool → Option α) → Option α)  (n : Nat) : Ctx α := ⟨laws_FnExactCountOfMultiple_CG F0 F1 F2 F3 F4 n, laws_FnExactCountOfMultiple_M, eqs, lpOf (laws_FnExactCountOfMultiple_lpsG) n⟩
def laws_FnExactCountOfMultiple_X {α : Type} (n : Nat) : Ctx α := laws_FnExactCountOfMultiple_XG laws_szPointS laws_toPointS spec_CountOfMultiple impl_CountOfMultiple laws_eqPointS n
def laws_FnExactCountOfMultiple_Lt (np : Nat) (lent : List (Bool × Nat × Blk)) : Prop := np = 2 ∧ lent = []
def laws_FnExactCountOfMultiple_body {α : Type} (F0 : Nat → (List (Int × Int)) → Int → (Int → Option α) → Option α) (F1 : Nat → (List (Int × Int)) → ((List (Int × Int)) → Option α) → Option α) (F2 : Nat → (List (Int × Int)) → Int → (Int → Int → Option α) → Option α) (F3 : Nat → (List (Int × Int)) → Int → (Int → Int → Option α) → Option α) (F4 : Nat → (List (Int × Int)) → (List (Int × Int)) → (Bool → Option α) → Option α)  (k : Nat) (aList : List (Int × Int)) (aK : Int) (r0 : Bool → Option α) : Option α :=
  F0 k aList 1048576 fun v =>
  bif decide (v < 0) then
    r0 true
  else
    F1 k aList fun v1 =>
    F2 k v1 aK fun v2 v3 =>
    F1 k aList fun v4 =>
    F3 k v4 aK fun v5 v6 =>
    bif (!decide (v5 = v2)) then
      r0 false
    else
    bif (!decide (v6 = v3)) then
      r0 false
    else
      F1 k aList fun v7 =>
      F4 k v4 v7 fun v8 =>
      bif (!v8) then
        r0 false
      else
        r0 true
theorem laws_FnExactCountOfMultiple_gen {α : Type} (F0 : Nat → (List (Int × Int)) → Int → (Int → Option α) → Option α) (F1 : Nat → (List (Int × Int)) → ((List (Int × Int)) → Option α) → Option α) (F2 : Nat → (List (Int × Int)) → Int → (Int → Int → Option α) → Option α) (F3 : Nat → (List (Int × Int)) → Int → (Int → Int → Option α) → Option α) (F4 : Nat → (List (Int × Int)) → (List (Int × Int)) → (Bool → Option α) → Option α)  (n : Nat) (aList : List (Int × Int)) (aK : Int) (κ : Res → Option α) : evFn Try.prog (laws_FnExactCountOfMultiple_XG F0 F1 F2 F3 F4 n) Try.f13 (((buildDs laws_FnExactCountOfMultiple_sh [.rows .pt aList, .int aK]).map Prod.fst).getD []) κ = laws_FnExactCountOfMultiple_body F0 F1 F2 F3 F4 n aList aK (fun v1 => κ ⟨[.bool v1], []⟩) := by kernel_rfl
theorem laws_FnExactCountOfMultiple_ev {α : Type} (n : Nat) (aList : List (Int × Int)) (aK : Int) (κ : Res → Option α) : evFn Try.prog (laws_FnExactCountOfMultiple_X n) Try.f13 (((buildDs laws_FnExactCountOfMultiple_sh [.rows .pt aList, .int aK]).map Prod.fst).getD []) κ = laws_FnExactCountOfMultiple_run n [.rows .pt aList, .int aK] κ := (laws_FnExactCountOfMultiple_gen laws_szPointS laws_toPointS spec_CountOfMultiple impl_CountOfMultiple laws_eqPointS n aList aK κ).trans (by kernel_rfl)
theorem laws_FnExactCountOfMultiple_en (aList : List (Int × Int)) (aK : Int) : (entry 0 (((buildDs laws_FnExactCountOfMultiple_sh [.rows .pt aList, .int aK]).map Prod.fst).getD [])).map (fun x => (x.1.length, x.2.lent)) = some (2, []) := by kernel_rfl
theorem laws_FnExactCountOfMultiple_good {α : Type} : ∀ n, GoodFn (α := α) Try.prog 13 (byShape laws_FnExactCountOfMultiple_sh (laws_FnExactCountOfMultiple_run n)) := by
  refine fn_good' Try.func13 (c := (Try.f13.body.getD .skip)) (by kernel_rfl) (by kernel_rfl) (by kernel_rfl) laws_FnExactCountOfMultiple_C laws_FnExactCountOfMultiple_M eqs laws_FnExactCountOfMultiple_lps (fun n => tabC_good (List.forall_mem_cons.2 ⟨(laws_szPointS_good n), (List.forall_mem_cons.2 ⟨(laws_toPointS_good n), (List.forall_mem_cons.2 ⟨(spec_CountOfMultiple_good n), (List.forall_mem_cons.2 ⟨(impl_CountOfMultiple_good n), (List.forall_mem_cons.2 ⟨(laws_eqPointS_good n), (fun _ h => absurd h List.not_mem_nil)⟩)⟩)⟩)⟩)⟩)) eqs_ok laws_FnExactCountOfMultiple_Lt ?_ ?_ laws_FnExactCountOfMultiple_sh laws_FnExactCountOfMultiple_run ?_
  · exact (fun _ h => absurd h List.not_mem_nil)
  · exact (fun _ h => absurd h List.not_mem_nil)
  · intro n p κ r ds hd hr
    have hr0 := hr
    unfold laws_FnExactCountOfMultiple_run laws_FnExactCountOfMultiple_runG at hr
    split at hr
    · rw [← ds_of hd]
      exact ⟨en_of (laws_FnExactCountOfMultiple_en _ _) ⟨rfl, rfl⟩, (laws_FnExactCountOfMultiple_ev n _ _ κ).trans hr0⟩
    · cases hr

end Go.Proofs.Ytnfpidnnmgedfaa
