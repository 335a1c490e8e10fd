/- The program's functions hold to their readings without memory: printed by a program of ours. -/
import Derived.Test.YtnfpidnnmgedfaaSe2XWidthFor
namespace Go.Proofs.Ytnfpidnnmgedfaa
open Go Go.Ev Go.Sh Go.Proofs

/-! loop.example/g01297/laws.FnExactWidthFor -/
def laws_FnExactWidthFor_sh : List SkD := [.sl 29 .pt, .agg [.int .i64, .int .i64]]
def laws_FnExactWidthFor_runG {α : Type} (F : Nat → (List (Int × Int)) → Int → Int → (Bool → Option α) → Option α) (n : Nat) (p : List P1) (κ : Res → Option α) : Option α := match p with
  | [.rows .pt aList, .int aU, .int aU1] => F n aList aU aU1 (fun v1 => κ ⟨[.bool v1], []⟩)
  | _ => none
def laws_FnExactWidthFor_run {α : Type} (n : Nat) (p : List P1) (κ : Res → Option α) : Option α := laws_FnExactWidthFor_runG laws_FnExactWidthFor n p κ
def laws_FnExactWidthFor_CG {α : Type} (F0 : Nat → (List (Int × Int)) → Int → (Int → Option α) → Option α) (F1 : Nat → (List (Int × Int)) → ((List (Int × Int)) → Option α) → Option α) (F2 : Nat → Int → Int → (Int → Int → Option α) → Option α) (F3 : Nat → (List (Int × Int)) → Int → Int → (Int → Int → Option α) → Option α) (F4 : Nat → (List (Int × Int)) → Int → Int → (Int → Int → Option α) → Option α) (F5 : Nat → (List (Int × Int)) → (List (Int × Int)) → (Bool → Option α) → Option α) (n : Nat) : FuncId → List D → (Res → Option α) → Option α := tabC [(24, (byShape laws_szPointS_sh (laws_szPointS_runG F0 n))), (26, (byShape laws_toPointS_sh (laws_toPointS_runG F1 n))), (19, (byShape laws_toPoint_sh (laws_toPoint_runG F2 n))), (49, (byShape spec_WidthFor_sh (spec_WidthFor_runG F3 n))), (50, (byShape impl_WidthFor_sh (impl_WidthFor_runG F4 n))), (21, (byShape laws_eqPointS_sh (laws_eqPointS_runG F5 n)))]
def laws_FnExactWidthFor_C {α : Type} (n : Nat) : FuncId → List D → (Res → Option α) → Option α := laws_FnExactWidthFor_CG laws_szPointS laws_toPointS laws_toPoint spec_WidthFor impl_WidthFor laws_eqPointS n
def laws_FnExactWidthFor_M : FuncId → List Nat := tabM []
def laws_FnExactWidthFor_lpsG {α : Type}  : List (LoopT α) := []
def laws_FnExactWidthFor_lps {α : Type} : List (LoopT α) := laws_FnExactWidthFor_lpsG
def laws_FnExactWidthFor_XG {α : Type} (F0 : Nat → (List (Int × Int)) → Int → (Int → Option α) → Option α) (F1 : Nat → (List (Int × Int)) → ((List (Int × Int)) → Option α) → Option α) (F2 : Nat → Int → Int → (Int → Int → Option α) → Option α) (F3 : Nat → (List (Int × Int)) → Int → Int → (Int → Int → Option α) → Option α) (F4 : Nat → (List (Int × Int)) → Int → Int → (Int → Int → Option α) → Option α) (F5 : Nat → (List (Int × Int)) → (List (Int × Int)) → (Bool → Option α) → Option α)  (n : Nat) : Ctx α := ⟨laws_FnExactWidthFor_CG F0 F1 F2 F3 F4 F5 n, laws_FnExactWidthFor_M, eqs, lpOf (laws_FnExactWidthFor_lpsG) n⟩
def laws_FnExactWidthFor_X {α : Type} (n : Nat) : Ctx α := laws_FnExactWidthFor_XG laws_szPointS laws_toPointS laws_toPoint spec_WidthFor impl_WidthFor laws_eqPointS n
def laws_FnExactWidthFor_Lt (np : Nat) (lent : List (Bool × Nat × Blk)) : Prop := np = 2 ∧ lent = []
def laws_FnExactWidthFor_body {α : Type} (F0 : Nat → (List (Int × Int)) → Int → (Int → Option α) → Option α) (F1 : Nat → (List (Int × Int)) → ((List (Int × Int)) → Option α) → Option α) (F2 : Nat → Int → Int → (Int → Int → Option α) → Option α) (F3 : Nat → (List (Int × Int)) → Int → Int → (Int → Int → Option α) → Option α) (F4 : Nat → (List (Int × Int)) → Int → Int → (Int → Int → Option α) → Option α) (F5 : Nat → (List (Int × Int)) → (List (Int × Int)) → (Bool → Option α) → Option α)  (k : Nat) (aList : List (Int × Int)) (aU : Int) (aU1 : Int) (r0 : Bool → Option α) : Option α :=
  F0 k aList 1048576 fun v =>
  bif decide (v < 0) then
    r0 true
  else
    F1 k aList fun v1 =>
    F2 k aU aU1 fun v2 v3 =>
    F3 k v1 v2 v3 fun v4 v5 =>
    F1 k aList fun v6 =>
    F2 k aU aU1 fun v7 v8 =>
    F4 k v6 v7 v8 fun v9 v10 =>
    bif (!decide (v9 = v4)) then
      r0 false
    else
    bif (!decide (v10 = v5)) then
      r0 false
    else
      F1 k aList fun v11 =>
      F5 k v6 v11 fun v12 =>
      bif (!v12) then
        r0 false
      else
        r0 true
theorem laws_FnExactWidthFor_gen {α : Type} (F0 : Nat → (List (Int × Int)) → Int → (Int → Option α) → Option α) (F1 : Nat → (List (Int × Int)) → ((List (Int × Int)) → Option α) → Option α) (F2 : Nat → Int → Int → (Int → Int → Option α) → Option α) (F3 : Nat → (List (Int × Int)) → Int → Int → (Int → Int → Option α) → Option α) (F4 : Nat → (List (Int × Int)) → Int → Int → (Int → Int → Option α) → Option α) (F5 : Nat → (List (Int × Int)) → (List (Int × Int)) → (Bool → Option α) → Option α)  (n : Nat) (aList : List (Int × Int)) (aU : Int) (aU1 : Int) (κ : Res → Option α) : evFn Try.prog (laws_FnExactWidthFor_XG F0 F1 F2 F3 F4 F5 n) Try.f14 (((buildDs laws_FnExactWidthFor_sh [.rows .pt aList, .int aU, .int aU1]).map Prod.fst).getD []) κ = laws_FnExactWidthFor_body F0 F1 F2 F3 F4 F5 n aList aU aU1 (fun v1 => κ ⟨[.bool v1], []⟩) := by kernel_rfl
theorem laws_FnExactWidthFor_ev {α : Type} (n : Nat) (aList : List (Int × Int)) (aU : Int) (aU1 : Int) (κ : Res → Option α) : evFn Try.prog (laws_FnExactWidthFor_X n) Try.f14 (((buildDs laws_FnExactWidthFor_sh [.rows .pt aList, .int aU, .int aU1]).map Prod.fst).getD []) κ = laws_FnExactWidthFor_run n [.rows .pt aList, .int aU, .int aU1] κ := (laws_FnExactWidthFor_gen laws_szPointS laws_toPointS laws_toPoint spec_WidthFor impl_WidthFor laws_eqPointS n aList aU aU1 κ).trans (by kernel_rfl)
theorem laws_FnExactWidthFor_en (aList : List (Int × Int)) (aU : Int) (aU1 : Int) : (entry 0 (((buildDs laws_FnExactWidthFor_sh [.rows .pt aList, .int aU, .int aU1]).map Prod.fst).getD [])).map (fun x => (x.1.length, x.2.lent)) = some (2, []) := by kernel_rfl
theorem laws_FnExactWidthFor_good {α : Type} : ∀ n, GoodFn (α := α) Try.prog 14 (byShape laws_FnExactWidthFor_sh (laws_FnExactWidthFor_run n)) := by
  refine fn_good' Try.func14 (c := (Try.f14.body.getD .skip)) (by kernel_rfl) (by kernel_rfl) (by kernel_rfl) laws_FnExactWidthFor_C laws_FnExactWidthFor_M eqs laws_FnExactWidthFor_lps (fun n => tabC_good (List.forall_mem_cons.2 ⟨(laws_szPointS_good n), (List.forall_mem_cons.2 ⟨(laws_toPointS_good n), (List.forall_mem_cons.2 ⟨(laws_toPoint_good n), (List.forall_mem_cons.2 ⟨(spec_WidthFor_good n), (List.forall_mem_cons.2 ⟨(impl_WidthFor_good n), (List.forall_mem_cons.2 ⟨(laws_eqPointS_good n), (fun _ h => absurd h List.not_mem_nil)⟩)⟩)⟩)⟩)⟩)⟩)) eqs_ok laws_FnExactWidthFor_Lt ?_ ?_ laws_FnExactWidthFor_sh laws_FnExactWidthFor_run ?_
  · exact (fun _ h => absurd h List.not_mem_nil)
  · exact (fun _ h => absurd h List.not_mem_nil)
  · intro n p κ r ds hd hr
    have hr0 := hr
    unfold laws_FnExactWidthFor_run laws_FnExactWidthFor_runG at hr
    split at hr
    · rw [← ds_of hd]
      exact ⟨en_of (laws_FnExactWidthFor_en _ _ _) ⟨rfl, rfl⟩, (laws_FnExactWidthFor_ev n _ _ _ κ).trans hr0⟩
    · cases hr

end Go.Proofs.Ytnfpidnnmgedfaa
