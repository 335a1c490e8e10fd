/- The program's functions hold to their readings without memory: printed by a program of ours. -/
import Derived.Test.YtegnnbhphgeocaaSe1XNearestFraction
namespace Go.Proofs.Ytegnnbhphgeocaa
open Go Go.Ev Go.Sh Go.Proofs

/-! loop.example/g01297/laws.FnExactNearestFraction -/
def laws_FnExactNearestFraction_sh : List SkD := [.int .i64, .int .i64, .int .i64]
def laws_FnExactNearestFraction_runG {α : Type} (F : Nat → Int → Int → Int → (Bool → Option α) → Option α) (n : Nat) (p : List P1) (κ : Res → Option α) : Option α := match p with
  | [.int aP, .int aQ, .int aN] => F n aP aQ aN (fun v1 => κ ⟨[.bool v1], []⟩)
  | _ => none
def laws_FnExactNearestFraction_run {α : Type} (n : Nat) (p : List P1) (κ : Res → Option α) : Option α := laws_FnExactNearestFraction_runG laws_FnExactNearestFraction n p κ
def laws_FnExactNearestFraction_CG {α : Type} (F0 : Nat → Int → Int → Int → (Int → Int → Int → Option α) → Option α) (F1 : Nat → Int → Int → Int → (Int → Int → Int → Option α) → Option α) (F2 : Nat → Int → Int → Int → Int → (Bool → Option α) → Option α) (n : Nat) : FuncId → List D → (Res → Option α) → Option α := tabC [(25, (byShape spec_NearestFraction_sh (spec_NearestFraction_runG F0 n))), (26, (byShape impl_NearestFraction_sh (impl_NearestFraction_runG F1 n))), (27, (byShape laws_eqPoint_sh (laws_eqPoint_runG F2 n)))]
def laws_FnExactNearestFraction_C {α : Type} (n : Nat) : FuncId → List D → (Res → Option α) → Option α := laws_FnExactNearestFraction_CG spec_NearestFraction impl_NearestFraction laws_eqPoint n
def laws_FnExactNearestFraction_M : FuncId → List Nat := tabM []
def laws_FnExactNearestFraction_lpsG {α : Type}  : List (LoopT α) := []
def laws_FnExactNearestFraction_lps {α : Type} : List (LoopT α) := laws_FnExactNearestFraction_lpsG
def laws_FnExactNearestFraction_XG {α : Type} (F0 : Nat → Int → Int → Int → (Int → Int → Int → Option α) → Option α) (F1 : Nat → Int → Int → Int → (Int → Int → Int → Option α) → Option α) (F2 : Nat → Int → Int → Int → Int → (Bool → Option α) → Option α)  (n : Nat) : Ctx α := ⟨laws_FnExactNearestFraction_CG F0 F1 F2 n, laws_FnExactNearestFraction_M, eqs, lpOf (laws_FnExactNearestFraction_lpsG) n⟩
def laws_FnExactNearestFraction_X {α : Type} (n : Nat) : Ctx α := laws_FnExactNearestFraction_XG spec_NearestFraction impl_NearestFraction laws_eqPoint n
def laws_FnExactNearestFraction_Lt (np : Nat) (lent : List (Bool × Nat × Blk)) : Prop := np = 3 ∧ lent = []
def laws_FnExactNearestFraction_body {α : Type} (F0 : Nat → Int → Int → Int → (Int → Int → Int → Option α) → Option α) (F1 : Nat → Int → Int → Int → (Int → Int → Int → Option α) → Option α) (F2 : Nat → Int → Int → Int → Int → (Bool → Option α) → Option α)  (k : Nat) (aP : Int) (aQ : Int) (aN : Int) (r0 : Bool → Option α) : Option α :=
  F0 k aP aQ aN fun v v1 v2 =>
  F1 k aP aQ aN fun v3 v4 v5 =>
  F2 k v3 v4 v v1 fun v6 =>
  bif (!v6) then
    r0 false
  else
  bif (!decide (v5 = v2)) then
    r0 false
  else
    r0 true
theorem laws_FnExactNearestFraction_gen {α : Type} (F0 : Nat → Int → Int → Int → (Int → Int → Int → Option α) → Option α) (F1 : Nat → Int → Int → Int → (Int → Int → Int → Option α) → Option α) (F2 : Nat → Int → Int → Int → Int → (Bool → Option α) → Option α)  (n : Nat) (aP : Int) (aQ : Int) (aN : Int) (κ : Res → Option α) : evFn Try.prog (laws_FnExactNearestFraction_XG F0 F1 F2 n) Try.f6 (((buildDs laws_FnExactNearestFraction_sh [.int aP, .int aQ, .int aN]).map Prod.fst).getD []) κ = laws_FnExactNearestFraction_body F0 F1 F2 n aP aQ aN (fun v1 => κ ⟨[.bool v1], []⟩) := by kernel_rfl
theorem laws_FnExactNearestFraction_ev {α : Type} (n : Nat) (aP : Int) (aQ : Int) (aN : Int) (κ : Res → Option α) : evFn Try.prog (laws_FnExactNearestFraction_X n) Try.f6 (((buildDs laws_FnExactNearestFraction_sh [.int aP, .int aQ, .int aN]).map Prod.fst).getD []) κ = laws_FnExactNearestFraction_run n [.int aP, .int aQ, .int aN] κ := (laws_FnExactNearestFraction_gen spec_NearestFraction impl_NearestFraction laws_eqPoint n aP aQ aN κ).trans (by kernel_rfl)
theorem laws_FnExactNearestFraction_en (aP : Int) (aQ : Int) (aN : Int) : (entry 0 (((buildDs laws_FnExactNearestFraction_sh [.int aP, .int aQ, .int aN]).map Prod.fst).getD [])).map (fun x => (x.1.length, x.2.lent)) = some (3, []) := by kernel_rfl
theorem laws_FnExactNearestFraction_good {α : Type} : ∀ n, GoodFn (α := α) Try.prog 6 (byShape laws_FnExactNearestFraction_sh (laws_FnExactNearestFraction_run n)) := by
  refine fn_good' Try.func6 (c := (Try.f6.body.getD .skip)) (by kernel_rfl) (by kernel_rfl) (by kernel_rfl) laws_FnExactNearestFraction_C laws_FnExactNearestFraction_M eqs laws_FnExactNearestFraction_lps (fun n => tabC_good (List.forall_mem_cons.2 ⟨(spec_NearestFraction_good n), (List.forall_mem_cons.2 ⟨(impl_NearestFraction_good n), (List.forall_mem_cons.2 ⟨(laws_eqPoint_good n), (fun _ h => absurd h List.not_mem_nil)⟩)⟩)⟩)) eqs_ok laws_FnExactNearestFraction_Lt ?_ ?_ laws_FnExactNearestFraction_sh laws_FnExactNearestFraction_run ?_
  · exact (fun _ h => absurd h List.not_mem_nil)
  · exact (fun _ h => absurd h List.not_mem_nil)
  · intro n p κ r ds hd hr
    have hr0 := hr
    unfold laws_FnExactNearestFraction_run laws_FnExactNearestFraction_runG at hr
    split at hr
    · rw [← ds_of hd]
      exact ⟨en_of (laws_FnExactNearestFraction_en _ _ _) ⟨rfl, rfl⟩, (laws_FnExactNearestFraction_ev n _ _ _ κ).trans hr0⟩
    · cases hr

end Go.Proofs.Ytegnnbhphgeocaa
