/- The program's functions hold to their readings without memory: printed by a program of ours. -/
import Derived.Test.YtnfpidnnmgedfaaSe2XInnerNumber
namespace Go.Proofs.Ytnfpidnnmgedfaa
open Go Go.Ev Go.Sh Go.Proofs

/-! loop.example/g01297/laws.FnExactInnerNumber -/
def laws_FnExactInnerNumber_sh : List SkD := [.sl 29 .pt]
def laws_FnExactInnerNumber_runG {α : Type} (F : Nat → (List (Int × Int)) → (Bool → Option α) → Option α) (n : Nat) (p : List P1) (κ : Res → Option α) : Option α := match p with
  | [.rows .pt aList] => F n aList (fun v1 => κ ⟨[.bool v1], []⟩)
  | _ => none
def laws_FnExactInnerNumber_run {α : Type} (n : Nat) (p : List P1) (κ : Res → Option α) : Option α := laws_FnExactInnerNumber_runG laws_FnExactInnerNumber n p κ
def laws_FnExactInnerNumber_CG {α : Type} (F0 : Nat → (List (Int × Int)) → Int → (Int → Option α) → Option α) (F1 : Nat → (List (Int × Int)) → ((List (Int × Int)) → Option α) → Option α) (F2 : Nat → (List (Int × Int)) → (Int → Int → Option α) → Option α) (F3 : Nat → (List (Int × Int)) → (Int → Int → Option α) → Option α) (F4 : Nat → (List (Int × Int)) → (List (Int × Int)) → (Bool → Option α) → Option α) (n : Nat) : FuncId → List D → (Res → Option α) → Option α := tabC [(24, (byShape laws_szPointS_sh (laws_szPointS_runG F0 n))), (26, (byShape laws_toPointS_sh (laws_toPointS_runG F1 n))), (45, (byShape spec_InnerNumber_sh (spec_InnerNumber_runG F2 n))), (46, (byShape impl_InnerNumber_sh (impl_InnerNumber_runG F3 n))), (21, (byShape laws_eqPointS_sh (laws_eqPointS_runG F4 n)))]
def laws_FnExactInnerNumber_C {α : Type} (n : Nat) : FuncId → List D → (Res → Option α) → Option α := laws_FnExactInnerNumber_CG laws_szPointS laws_toPointS spec_InnerNumber impl_InnerNumber laws_eqPointS n
def laws_FnExactInnerNumber_M : FuncId → List Nat := tabM []
def laws_FnExactInnerNumber_lpsG {α : Type}  : List (LoopT α) := []
def laws_FnExactInnerNumber_lps {α : Type} : List (LoopT α) := laws_FnExactInnerNumber_lpsG
def laws_FnExactInnerNumber_XG {α : Type} (F0 : Nat → (List (Int × Int)) → Int → (Int → Option α) → Option α) (F1 : Nat → (List (Int × Int)) → ((List (Int × Int)) → Option α) → Option α) (F2 : Nat → (List (Int × Int)) → (Int → Int → Option α) → Option α) (F3 : Nat → (List (Int × Int)) → (Int → Int → Option α) → Option α) (F4 : Nat → (List (Int × Int)) → (List (Int × Int)) → (Bool → Option α) → Option α)  (n : Nat) : Ctx α := ⟨laws_FnExactInnerNumber_CG F0 F1 F2 F3 F4 n, laws_FnExactInnerNumber_M, eqs, lpOf (laws_FnExactInnerNumber_lpsG) n⟩
def laws_FnExactInnerNumber_X {α : Type} (n : Nat) : Ctx α := laws_FnExactInnerNumber_XG laws_szPointS laws_toPointS spec_InnerNumber impl_InnerNumber laws_eqPointS n
def laws_FnExactInnerNumber_Lt (np : Nat) (lent : List (Bool × Nat × Blk)) : Prop := np = 1 ∧ lent = []
def laws_FnExactInnerNumber_body {α : Type} (F0 : Nat → (List (Int × Int)) → Int → (Int → Option α) → Option α) (F1 : Nat → (List (Int × Int)) → ((List (Int × Int)) → Option α) → Option α) (F2 : Nat → (List (Int × Int)) → (Int → Int → Option α) → Option α) (F3 : Nat → (List (Int × Int)) → (Int → Int → Option α) → Option α) (F4 : Nat → (List (Int × Int)) → (List (Int × Int)) → (Bool → Option α) → Option α)  (k : Nat) (aList : List (Int × Int)) (r0 : Bool → Option α) : Option α :=
  F0 k aList 1048576 fun v =>
  bif decide (v < 0) then
    r0 true
  else
    F1 k aList fun v1 =>
    F2 k v1 fun v2 v3 =>
    F1 k aList fun v4 =>
    F3 k v4 fun v5 v6 =>
    bif (!decide (v5 = v2)) then
      r0 false
    else
    bif (!decide (v6 = v3)) then
      r0 false
    else
      F1 k aList fun v7 =>
      F4 k v4 v7 fun v8 =>
      bif (!v8) then
        r0 false
      else
        r0 true
theorem laws_FnExactInnerNumber_gen {α : Type} (F0 : Nat → (List (Int × Int)) → Int → (Int → Option α) → Option α) (F1 : Nat → (List (Int × Int)) → ((List (Int × Int)) → Option α) → Option α) (F2 : Nat → (List (Int × Int)) → (Int → Int → Option α) → Option α) (F3 : Nat → (List (Int × Int)) → (Int → Int → Option α) → Option α) (F4 : Nat → (List (Int × Int)) → (List (Int × Int)) → (Bool → Option α) → Option α)  (n : Nat) (aList : List (Int × Int)) (κ : Res → Option α) : evFn Try.prog (laws_FnExactInnerNumber_XG F0 F1 F2 F3 F4 n) Try.f12 (((buildDs laws_FnExactInnerNumber_sh [.rows .pt aList]).map Prod.fst).getD []) κ = laws_FnExactInnerNumber_body F0 F1 F2 F3 F4 n aList (fun v1 => κ ⟨[.bool v1], []⟩) := by kernel_rfl
theorem laws_FnExactInnerNumber_ev {α : Type} (n : Nat) (aList : List (Int × Int)) (κ : Res → Option α) : evFn Try.prog (laws_FnExactInnerNumber_X n) Try.f12 (((buildDs laws_FnExactInnerNumber_sh [.rows .pt aList]).map Prod.fst).getD []) κ = laws_FnExactInnerNumber_run n [.rows .pt aList] κ := (laws_FnExactInnerNumber_gen laws_szPointS laws_toPointS spec_InnerNumber impl_InnerNumber laws_eqPointS n aList κ).trans (by kernel_rfl)
theorem laws_FnExactInnerNumber_en (aList : List (Int × Int)) : (entry 0 (((buildDs laws_FnExactInnerNumber_sh [.rows .pt aList]).map Prod.fst).getD [])).map (fun x => (x.1.length, x.2.lent)) = some (1, []) := by kernel_rfl
theorem laws_FnExactInnerNumber_good {α : Type} : ∀ n, GoodFn (α := α) Try.prog 12 (byShape laws_FnExactInnerNumber_sh (laws_FnExactInnerNumber_run n)) := by
  refine fn_good' Try.func12 (c := (Try.f12.body.getD .skip)) (by kernel_rfl) (by kernel_rfl) (by kernel_rfl) laws_FnExactInnerNumber_C laws_FnExactInnerNumber_M eqs laws_FnExactInnerNumber_lps (fun n => tabC_good (List.forall_mem_cons.2 ⟨(laws_szPointS_good n), (List.forall_mem_cons.2 ⟨(laws_toPointS_good n), (List.forall_mem_cons.2 ⟨(spec_InnerNumber_good n), (List.forall_mem_cons.2 ⟨(impl_InnerNumber_good n), (List.forall_mem_cons.2 ⟨(laws_eqPointS_good n), (fun _ h => absurd h List.not_mem_nil)⟩)⟩)⟩)⟩)⟩)) eqs_ok laws_FnExactInnerNumber_Lt ?_ ?_ laws_FnExactInnerNumber_sh laws_FnExactInnerNumber_run ?_
  · exact (fun _ h => absurd h List.not_mem_nil)
  · exact (fun _ h => absurd h List.not_mem_nil)
  · intro n p κ r ds hd hr
    have hr0 := hr
    unfold laws_FnExactInnerNumber_run laws_FnExactInnerNumber_runG at hr
    split at hr
    · rw [← ds_of hd]
      exact ⟨en_of (laws_FnExactInnerNumber_en _) ⟨rfl, rfl⟩, (laws_FnExactInnerNumber_ev n _ κ).trans hr0⟩
    · cases hr

end Go.Proofs.Ytnfpidnnmgedfaa
