/- The program's functions hold to their readings without memory: printed by a program of ours. -/
import Derived.Test.YtnfpidnnmgedfaaSe2XWhereInPolygon
namespace Go.Proofs.Ytnfpidnnmgedfaa
open Go Go.Ev Go.Sh Go.Proofs

/-! loop.example/g01297/laws.FnExactWhereInPolygon -/
def laws_FnExactWhereInPolygon_sh : List SkD := [.sl 29 .pt, .agg [.int .i64, .int .i64]]
def laws_FnExactWhereInPolygon_runG {α : Type} (F : Nat → (List (Int × Int)) → Int → Int → (Bool → Option α) → Option α) (n : Nat) (p : List P1) (κ : Res → Option α) : Option α := match p with
  | [.rows .pt aList, .int aA, .int aA1] => F n aList aA aA1 (fun v1 => κ ⟨[.bool v1], []⟩)
  | _ => none
def laws_FnExactWhereInPolygon_run {α : Type} (n : Nat) (p : List P1) (κ : Res → Option α) : Option α := laws_FnExactWhereInPolygon_runG laws_FnExactWhereInPolygon n p κ
def laws_FnExactWhereInPolygon_CG {α : Type} (F0 : Nat → (List (Int × Int)) → Int → (Int → Option α) → Option α) (F1 : Nat → (List (Int × Int)) → ((List (Int × Int)) → Option α) → Option α) (F2 : Nat → Int → Int → (Int → Int → Option α) → Option α) (F3 : Nat → (List (Int × Int)) → Int → Int → (Int → Int → Option α) → Option α) (F4 : Nat → (List (Int × Int)) → Int → Int → (Int → Int → Option α) → Option α) (F5 : Nat → (List (Int × Int)) → (List (Int × Int)) → (Bool → Option α) → Option α) (n : Nat) : FuncId → List D → (Res → Option α) → Option α := tabC [(24, (byShape laws_szPointS_sh (laws_szPointS_runG F0 n))), (26, (byShape laws_toPointS_sh (laws_toPointS_runG F1 n))), (19, (byShape laws_toPoint_sh (laws_toPoint_runG F2 n))), (41, (byShape spec_WhereInPolygon_sh (spec_WhereInPolygon_runG F3 n))), (42, (byShape impl_WhereInPolygon_sh (impl_WhereInPolygon_runG F4 n))), (21, (byShape laws_eqPointS_sh (laws_eqPointS_runG F5 n)))]
def laws_FnExactWhereInPolygon_C {α : Type} (n : Nat) : FuncId → List D → (Res → Option α) → Option α := laws_FnExactWhereInPolygon_CG laws_szPointS laws_toPointS laws_toPoint spec_WhereInPolygon impl_WhereInPolygon laws_eqPointS n
def laws_FnExactWhereInPolygon_M : FuncId → List Nat := tabM []
def laws_FnExactWhereInPolygon_lpsG {α : Type}  : List (LoopT α) := []
def laws_FnExactWhereInPolygon_lps {α : Type} : List (LoopT α) := laws_FnExactWhereInPolygon_lpsG
def laws_FnExactWhereInPolygon_XG {α : Type} (F0 : Nat → (List (Int × Int)) → Int → (Int → Option α) → Option α) (F1 : Nat → (List (Int × Int)) → ((List (Int × Int)) → Option α) → Option α) (F2 : Nat → Int → Int → (Int → Int → Option α) → Option α) (F3 : Nat → (List (Int × Int)) → Int → Int → (Int → Int → Option α) → Option α) (F4 : Nat → (List (Int × Int)) → Int → Int → (Int → Int → Option α) → Option α) (F5 : Nat → (List (Int × Int)) → (List (Int × Int)) → (Bool → Option α) → Option α)  (n : Nat) : Ctx α := ⟨laws_FnExactWhereInPolygon_CG F0 F1 F2 F3 F4 F5 n, laws_FnExactWhereInPolygon_M, eqs, lpOf (laws_FnExactWhereInPolygon_lpsG) n⟩
def laws_FnExactWhereInPolygon_X {α : Type} (n : Nat) : Ctx α := laws_FnExactWhereInPolygon_XG laws_szPointS laws_toPointS laws_toPoint spec_WhereInPolygon impl_WhereInPolygon laws_eqPointS n
def laws_FnExactWhereInPolygon_Lt (np : Nat) (lent : List (Bool × Nat × Blk)) : Prop := np = 2 ∧ lent = []
def laws_FnExactWhereInPolygon_body {α : Type} (F0 : Nat → (List (Int × Int)) → Int → (Int → Option α) → Option α) (F1 : Nat → (List (Int × Int)) → ((List (Int × Int)) → Option α) → Option α) (F2 : Nat → Int → Int → (Int → Int → Option α) → Option α) (F3 : Nat → (List (Int × Int)) → Int → Int → (Int → Int → Option α) → Option α) (F4 : Nat → (List (Int × Int)) → Int → Int → (Int → Int → Option α) → Option α) (F5 : Nat → (List (Int × Int)) → (List (Int × Int)) → (Bool → Option α) → Option α)  (k : Nat) (aList : List (Int × Int)) (aA : Int) (aA1 : Int) (r0 : Bool → Option α) : Option α :=
  F0 k aList 1048576 fun v =>
  bif decide (v < 0) then
    r0 true
  else
    F1 k aList fun v1 =>
    F2 k aA aA1 fun v2 v3 =>
    F3 k v1 v2 v3 fun v4 v5 =>
    F1 k aList fun v6 =>
    F2 k aA aA1 fun v7 v8 =>
    F4 k v6 v7 v8 fun v9 v10 =>
    bif (!decide (v9 = v4)) then
      r0 false
    else
    bif (!decide (v10 = v5)) then
      r0 false
    else
      F1 k aList fun v11 =>
      F5 k v6 v11 fun v12 =>
      bif (!v12) then
        r0 false
      else
        r0 true
theorem laws_FnExactWhereInPolygon_gen {α : Type} (F0 : Nat → (List (Int × Int)) → Int → (Int → Option α) → Option α) (F1 : Nat → (List (Int × Int)) → ((List (Int × Int)) → Option α) → Option α) (F2 : Nat → Int → Int → (Int → Int → Option α) → Option α) (F3 : Nat → (List (Int × Int)) → Int → Int → (Int → Int → Option α) → Option α) (F4 : Nat → (List (Int × Int)) → Int → Int → (Int → Int → Option α) → Option α) (F5 : Nat → (List (Int × Int)) → (List (Int × Int)) → (Bool → Option α) → Option α)  (n : Nat) (aList : List (Int × Int)) (aA : Int) (aA1 : Int) (κ : Res → Option α) : evFn Try.prog (laws_FnExactWhereInPolygon_XG F0 F1 F2 F3 F4 F5 n) Try.f10 (((buildDs laws_FnExactWhereInPolygon_sh [.rows .pt aList, .int aA, .int aA1]).map Prod.fst).getD []) κ = laws_FnExactWhereInPolygon_body F0 F1 F2 F3 F4 F5 n aList aA aA1 (fun v1 => κ ⟨[.bool v1], []⟩) := by kernel_rfl
theorem laws_FnExactWhereInPolygon_ev {α : Type} (n : Nat) (aList : List (Int × Int)) (aA : Int) (aA1 : Int) (κ : Res → Option α) : evFn Try.prog (laws_FnExactWhereInPolygon_X n) Try.f10 (((buildDs laws_FnExactWhereInPolygon_sh [.rows .pt aList, .int aA, .int aA1]).map Prod.fst).getD []) κ = laws_FnExactWhereInPolygon_run n [.rows .pt aList, .int aA, .int aA1] κ := (laws_FnExactWhereInPolygon_gen laws_szPointS laws_toPointS laws_toPoint spec_WhereInPolygon impl_WhereInPolygon laws_eqPointS n aList aA aA1 κ).trans (by kernel_rfl)
theorem laws_FnExactWhereInPolygon_en (aList : List (Int × Int)) (aA : Int) (aA1 : Int) : (entry 0 (((buildDs laws_FnExactWhereInPolygon_sh [.rows .pt aList, .int aA, .int aA1]).map Prod.fst).getD [])).map (fun x => (x.1.length, x.2.lent)) = some (2, []) := by kernel_rfl
theorem laws_FnExactWhereInPolygon_good {α : Type} : ∀ n, GoodFn (α := α) Try.prog 10 (byShape laws_FnExactWhereInPolygon_sh (laws_FnExactWhereInPolygon_run n)) := by
  refine fn_good' Try.func10 (c := (Try.f10.body.getD .skip)) (by kernel_rfl) (by kernel_rfl) (by kernel_rfl) laws_FnExactWhereInPolygon_C laws_FnExactWhereInPolygon_M eqs laws_FnExactWhereInPolygon_lps (fun n => tabC_good (List.forall_mem_cons.2 ⟨(laws_szPointS_good n), (List.forall_mem_cons.2 ⟨(laws_toPointS_good n), (List.forall_mem_cons.2 ⟨(laws_toPoint_good n), (List.forall_mem_cons.2 ⟨(spec_WhereInPolygon_good n), (List.forall_mem_cons.2 ⟨(impl_WhereInPolygon_good n), (List.forall_mem_cons.2 ⟨(laws_eqPointS_good n), (fun _ h => absurd h List.not_mem_nil)⟩)⟩)⟩)⟩)⟩)⟩)) eqs_ok laws_FnExactWhereInPolygon_Lt ?_ ?_ laws_FnExactWhereInPolygon_sh laws_FnExactWhereInPolygon_run ?_
  · exact (fun _ h => absurd h List.not_mem_nil)
  · exact (fun _ h => absurd h List.not_mem_nil)
  · intro n p κ r ds hd hr
    have hr0 := hr
    unfold laws_FnExactWhereInPolygon_run laws_FnExactWhereInPolygon_runG at hr
    split at hr
    · rw [← ds_of hd]
      exact ⟨en_of (laws_FnExactWhereInPolygon_en _ _ _) ⟨rfl, rfl⟩, (laws_FnExactWhereInPolygon_ev n _ _ _ κ).trans hr0⟩
    · cases hr

end Go.Proofs.Ytnfpidnnmgedfaa
