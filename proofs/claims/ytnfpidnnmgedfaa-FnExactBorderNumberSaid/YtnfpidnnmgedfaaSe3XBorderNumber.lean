/- The program's functions hold to their readings without memory: printed by a program of ours. -/
import Derived.Test.YtnfpidnnmgedfaaSe2XBorderNumber
namespace Go.Proofs.Ytnfpidnnmgedfaa
open Go Go.Ev Go.Sh Go.Proofs

/-! loop.example/g01297/laws.FnExactBorderNumber -/
def laws_FnExactBorderNumber_sh : List SkD := [.sl 29 .pt]
def laws_FnExactBorderNumber_runG {α : Type} (F : Nat → (List (Int × Int)) → (Bool → Option α) → Option α) (n : Nat) (p : List P1) (κ : Res → Option α) : Option α := match p with
  | [.rows .pt aList] => F n aList (fun v1 => κ ⟨[.bool v1], []⟩)
  | _ => none
def laws_FnExactBorderNumber_run {α : Type} (n : Nat) (p : List P1) (κ : Res → Option α) : Option α := laws_FnExactBorderNumber_runG laws_FnExactBorderNumber n p κ
def laws_FnExactBorderNumber_CG {α : Type} (F0 : Nat → (List (Int × Int)) → Int → (Int → Option α) → Option α) (F1 : Nat → (List (Int × Int)) → ((List (Int × Int)) → Option α) → Option α) (F2 : Nat → (List (Int × Int)) → (Int → Int → Option α) → Option α) (F3 : Nat → (List (Int × Int)) → (Int → Int → Option α) → Option α) (F4 : Nat → (List (Int × Int)) → (List (Int × Int)) → (Bool → Option α) → Option α) (n : Nat) : FuncId → List D → (Res → Option α) → Option α := tabC [(24, (byShape laws_szPointS_sh (laws_szPointS_runG F0 n))), (26, (byShape laws_toPointS_sh (laws_toPointS_runG F1 n))), (39, (byShape spec_BorderNumber_sh (spec_BorderNumber_runG F2 n))), (40, (byShape impl_BorderNumber_sh (impl_BorderNumber_runG F3 n))), (21, (byShape laws_eqPointS_sh (laws_eqPointS_runG F4 n)))]
def laws_FnExactBorderNumber_C {α : Type} (n : Nat) : FuncId → List D → (Res → Option α) → Option α := laws_FnExactBorderNumber_CG laws_szPointS laws_toPointS spec_BorderNumber impl_BorderNumber laws_eqPointS n
def laws_FnExactBorderNumber_M : FuncId → List Nat := tabM []
def laws_FnExactBorderNumber_lpsG {α : Type}  : List (LoopT α) := []
def laws_FnExactBorderNumber_lps {α : Type} : List (LoopT α) := laws_FnExactBorderNumber_lpsG
def laws_FnExactBorderNumber_XG {α : Type} (F0 : Nat → (List (Int × Int)) → Int → (Int → Option α) → Option α) (F1 : Nat → (List (Int × Int)) → ((List (Int × Int)) → Option α) → Option α) (F2 : Nat → (List (Int × Int)) → (Int → Int → Option α) → Option α) (F3 : Nat → (List (Int × Int)) → (Int → Int → Option α) → Option α) (F4 : Nat → (List (Int × Int)) → (List (Int × Int)) → (Bool → Option α) → Option α)  (n : Nat) : Ctx α := ⟨laws_FnExactBorderNumber_CG F0 F1 F2 F3 F4 n, laws_FnExactBorderNumber_M, eqs, lpOf (laws_FnExactBorderNumber_lpsG) n⟩
def laws_FnExactBorderNumber_X {α : Type} (n : Nat) : Ctx α := laws_FnExactBorderNumber_XG laws_szPointS laws_toPointS spec_BorderNumber impl_BorderNumber laws_eqPointS n
def laws_FnExactBorderNumber_Lt (np : Nat) (lent : List (Bool × Nat × Blk)) : Prop := np = 1 ∧ lent = []
def laws_FnExactBorderNumber_body {α : Type} (F0 : Nat → (List (Int × Int)) → Int → (Int → Option α) → Option α) (F1 : Nat → (List (Int × Int)) → ((List (Int × Int)) → Option α) → Option α) (F2 : Nat → (List (Int × Int)) → (Int → Int → Option α) → Option α) (F3 : Nat → (List (Int × Int)) → (Int → Int → Option α) → Option α) (F4 : Nat → (List (Int × Int)) → (List (Int × Int)) → (Bool → Option α) → Option α)  (k : Nat) (aList : List (Int × Int)) (r0 : Bool → Option α) : Option α :=
  F0 k aList 1048576 fun v =>
  bif decide (v < 0) then
    r0 true
  else
    F1 k aList fun v1 =>
    F2 k v1 fun v2 v3 =>
    F1 k aList fun v4 =>
    F3 k v4 fun v5 v6 =>
    bif (!decide (v5 = v2)) then
      r0 false
    else
    bif (!decide (v6 = v3)) then
      r0 false
    else
      F1 k aList fun v7 =>
      F4 k v4 v7 fun v8 =>
      bif (!v8) then
        r0 false
      else
        r0 true
theorem laws_FnExactBorderNumber_gen {α : Type} (F0 : Nat → (List (Int × Int)) → Int → (Int → Option α) → Option α) (F1 : Nat → (List (Int × Int)) → ((List (Int × Int)) → Option α) → Option α) (F2 : Nat → (List (Int × Int)) → (Int → Int → Option α) → Option α) (F3 : Nat → (List (Int × Int)) → (Int → Int → Option α) → Option α) (F4 : Nat → (List (Int × Int)) → (List (Int × Int)) → (Bool → Option α) → Option α)  (n : Nat) (aList : List (Int × Int)) (κ : Res → Option α) : evFn Try.prog (laws_FnExactBorderNumber_XG F0 F1 F2 F3 F4 n) Try.f9 (((buildDs laws_FnExactBorderNumber_sh [.rows .pt aList]).map Prod.fst).getD []) κ = laws_FnExactBorderNumber_body F0 F1 F2 F3 F4 n aList (fun v1 => κ ⟨[.bool v1], []⟩) := by kernel_rfl
theorem laws_FnExactBorderNumber_ev {α : Type} (n : Nat) (aList : List (Int × Int)) (κ : Res → Option α) : evFn Try.prog (laws_FnExactBorderNumber_X n) Try.f9 (((buildDs laws_FnExactBorderNumber_sh [.rows .pt aList]).map Prod.fst).getD []) κ = laws_FnExactBorderNumber_run n [.rows .pt aList] κ := (laws_FnExactBorderNumber_gen laws_szPointS laws_toPointS spec_BorderNumber impl_BorderNumber laws_eqPointS n aList κ).trans (by kernel_rfl)
theorem laws_FnExactBorderNumber_en (aList : List (Int × Int)) : (entry 0 (((buildDs laws_FnExactBorderNumber_sh [.rows .pt aList]).map Prod.fst).getD [])).map (fun x => (x.1.length, x.2.lent)) = some (1, []) := by kernel_rfl
theorem laws_FnExactBorderNumber_good {α : Type} : ∀ n, GoodFn (α := α) Try.prog 9 (byShape laws_FnExactBorderNumber_sh (laws_FnExactBorderNumber_run n)) := by
  refine fn_good' Try.func9 (c := (Try.f9.body.getD .skip)) (by kernel_rfl) (by kernel_rfl) (by kernel_rfl) laws_FnExactBorderNumber_C laws_FnExactBorderNumber_M eqs laws_FnExactBorderNumber_lps (fun n => tabC_good (List.forall_mem_cons.2 ⟨(laws_szPointS_good n), (List.forall_mem_cons.2 ⟨(laws_toPointS_good n), (List.forall_mem_cons.2 ⟨(spec_BorderNumber_good n), (List.forall_mem_cons.2 ⟨(impl_BorderNumber_good n), (List.forall_mem_cons.2 ⟨(laws_eqPointS_good n), (fun _ h => absurd h List.not_mem_nil)⟩)⟩)⟩)⟩)⟩)) eqs_ok laws_FnExactBorderNumber_Lt ?_ ?_ laws_FnExactBorderNumber_sh laws_FnExactBorderNumber_run ?_
  · exact (fun _ h => absurd h List.not_mem_nil)
  · exact (fun _ h => absurd h List.not_mem_nil)
  · intro n p κ r ds hd hr
    have hr0 := hr
    unfold laws_FnExactBorderNumber_run laws_FnExactBorderNumber_runG at hr
    split at hr
    · rw [← ds_of hd]
      exact ⟨en_of (laws_FnExactBorderNumber_en _) ⟨rfl, rfl⟩, (laws_FnExactBorderNumber_ev n _ κ).trans hr0⟩
    · cases hr

end Go.Proofs.Ytnfpidnnmgedfaa
