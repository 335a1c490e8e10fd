/- The program's functions hold to their readings without memory: printed by a program of ours. -/
import Derived.Test.YtnfpidnnmgedfaaSe1XAreEquivalentForms
namespace Go.Proofs.Ytnfpidnnmgedfaa
open Go Go.Ev Go.Sh Go.Proofs

/-! loop.example/g01297/laws.FnExactAreEquivalentForms -/
def laws_FnExactAreEquivalentForms_sh : List SkD := [.agg [.int .i64, .int .i64, .int .i64], .agg [.int .i64, .int .i64, .int .i64]]
def laws_FnExactAreEquivalentForms_runG {α : Type} (F : Nat → Int → Int → Int → Int → Int → Int → (Bool → Option α) → Option α) (n : Nat) (p : List P1) (κ : Res → Option α) : Option α := match p with
  | [.int aX, .int aX1, .int aX2, .int aY, .int aY1, .int aY2] => F n aX aX1 aX2 aY aY1 aY2 (fun v1 => κ ⟨[.bool v1], []⟩)
  | _ => none
def laws_FnExactAreEquivalentForms_run {α : Type} (n : Nat) (p : List P1) (κ : Res → Option α) : Option α := laws_FnExactAreEquivalentForms_runG laws_FnExactAreEquivalentForms n p κ
def laws_FnExactAreEquivalentForms_CG {α : Type} (F0 : Nat → Int → Int → Int → (Int → Int → Int → Option α) → Option α) (F1 : Nat → Int → Int → Int → Int → Int → Int → (Bool → Int → Option α) → Option α) (F2 : Nat → Int → Int → Int → Int → Int → Int → (Bool → Int → Option α) → Option α) (n : Nat) : FuncId → List D → (Res → Option α) → Option α := tabC [(16, (byShape laws_toForm_sh (laws_toForm_runG F0 n))), (15, (byShape spec_AreEquivalentForms_sh (spec_AreEquivalentForms_runG F1 n))), (17, (byShape impl_AreEquivalentForms_sh (impl_AreEquivalentForms_runG F2 n)))]
def laws_FnExactAreEquivalentForms_C {α : Type} (n : Nat) : FuncId → List D → (Res → Option α) → Option α := laws_FnExactAreEquivalentForms_CG laws_toForm spec_AreEquivalentForms impl_AreEquivalentForms n
def laws_FnExactAreEquivalentForms_M : FuncId → List Nat := tabM []
def laws_FnExactAreEquivalentForms_lpsG {α : Type}  : List (LoopT α) := []
def laws_FnExactAreEquivalentForms_lps {α : Type} : List (LoopT α) := laws_FnExactAreEquivalentForms_lpsG
def laws_FnExactAreEquivalentForms_XG {α : Type} (F0 : Nat → Int → Int → Int → (Int → Int → Int → Option α) → Option α) (F1 : Nat → Int → Int → Int → Int → Int → Int → (Bool → Int → Option α) → Option α) (F2 : Nat → Int → Int → Int → Int → Int → Int → (Bool → Int → Option α) → Option α)  (n : Nat) : Ctx α := ⟨laws_FnExactAreEquivalentForms_CG F0 F1 F2 n, laws_FnExactAreEquivalentForms_M, eqs, lpOf (laws_FnExactAreEquivalentForms_lpsG) n⟩
def laws_FnExactAreEquivalentForms_X {α : Type} (n : Nat) : Ctx α := laws_FnExactAreEquivalentForms_XG laws_toForm spec_AreEquivalentForms impl_AreEquivalentForms n
def laws_FnExactAreEquivalentForms_Lt (np : Nat) (lent : List (Bool × Nat × Blk)) : Prop := np = 2 ∧ lent = []
def laws_FnExactAreEquivalentForms_body {α : Type} (F0 : Nat → Int → Int → Int → (Int → Int → Int → Option α) → Option α) (F1 : Nat → Int → Int → Int → Int → Int → Int → (Bool → Int → Option α) → Option α) (F2 : Nat → Int → Int → Int → Int → Int → Int → (Bool → Int → Option α) → Option α)  (k : Nat) (aX : Int) (aX1 : Int) (aX2 : Int) (aY : Int) (aY1 : Int) (aY2 : Int) (r0 : Bool → Option α) : Option α :=
  F0 k aX aX1 aX2 fun v v1 v2 =>
  F0 k aY aY1 aY2 fun v3 v4 v5 =>
  F1 k v v1 v2 v3 v4 v5 fun v6 v7 =>
  F0 k aX aX1 aX2 fun v8 v9 v10 =>
  F0 k aY aY1 aY2 fun v11 v12 v13 =>
  F2 k v8 v9 v10 v11 v12 v13 fun v14 v15 =>
  bif (!(v14 == v6)) then
    r0 false
  else
  bif (!decide (v15 = v7)) then
    r0 false
  else
    r0 true
theorem laws_FnExactAreEquivalentForms_gen {α : Type} (F0 : Nat → Int → Int → Int → (Int → Int → Int → Option α) → Option α) (F1 : Nat → Int → Int → Int → Int → Int → Int → (Bool → Int → Option α) → Option α) (F2 : Nat → Int → Int → Int → Int → Int → Int → (Bool → Int → Option α) → Option α)  (n : Nat) (aX : Int) (aX1 : Int) (aX2 : Int) (aY : Int) (aY1 : Int) (aY2 : Int) (κ : Res → Option α) : evFn Try.prog (laws_FnExactAreEquivalentForms_XG F0 F1 F2 n) Try.f3 (((buildDs laws_FnExactAreEquivalentForms_sh [.int aX, .int aX1, .int aX2, .int aY, .int aY1, .int aY2]).map Prod.fst).getD []) κ = laws_FnExactAreEquivalentForms_body F0 F1 F2 n aX aX1 aX2 aY aY1 aY2 (fun v1 => κ ⟨[.bool v1], []⟩) := by kernel_rfl
theorem laws_FnExactAreEquivalentForms_ev {α : Type} (n : Nat) (aX : Int) (aX1 : Int) (aX2 : Int) (aY : Int) (aY1 : Int) (aY2 : Int) (κ : Res → Option α) : evFn Try.prog (laws_FnExactAreEquivalentForms_X n) Try.f3 (((buildDs laws_FnExactAreEquivalentForms_sh [.int aX, .int aX1, .int aX2, .int aY, .int aY1, .int aY2]).map Prod.fst).getD []) κ = laws_FnExactAreEquivalentForms_run n [.int aX, .int aX1, .int aX2, .int aY, .int aY1, .int aY2] κ := (laws_FnExactAreEquivalentForms_gen laws_toForm spec_AreEquivalentForms impl_AreEquivalentForms n aX aX1 aX2 aY aY1 aY2 κ).trans (by kernel_rfl)
theorem laws_FnExactAreEquivalentForms_en (aX : Int) (aX1 : Int) (aX2 : Int) (aY : Int) (aY1 : Int) (aY2 : Int) : (entry 0 (((buildDs laws_FnExactAreEquivalentForms_sh [.int aX, .int aX1, .int aX2, .int aY, .int aY1, .int aY2]).map Prod.fst).getD [])).map (fun x => (x.1.length, x.2.lent)) = some (2, []) := by kernel_rfl
theorem laws_FnExactAreEquivalentForms_good {α : Type} : ∀ n, GoodFn (α := α) Try.prog 3 (byShape laws_FnExactAreEquivalentForms_sh (laws_FnExactAreEquivalentForms_run n)) := by
  refine fn_good' Try.func3 (c := (Try.f3.body.getD .skip)) (by kernel_rfl) (by kernel_rfl) (by kernel_rfl) laws_FnExactAreEquivalentForms_C laws_FnExactAreEquivalentForms_M eqs laws_FnExactAreEquivalentForms_lps (fun n => tabC_good (List.forall_mem_cons.2 ⟨(laws_toForm_good n), (List.forall_mem_cons.2 ⟨(spec_AreEquivalentForms_good n), (List.forall_mem_cons.2 ⟨(impl_AreEquivalentForms_good n), (fun _ h => absurd h List.not_mem_nil)⟩)⟩)⟩)) eqs_ok laws_FnExactAreEquivalentForms_Lt ?_ ?_ laws_FnExactAreEquivalentForms_sh laws_FnExactAreEquivalentForms_run ?_
  · exact (fun _ h => absurd h List.not_mem_nil)
  · exact (fun _ h => absurd h List.not_mem_nil)
  · intro n p κ r ds hd hr
    have hr0 := hr
    unfold laws_FnExactAreEquivalentForms_run laws_FnExactAreEquivalentForms_runG at hr
    split at hr
    · rw [← ds_of hd]
      exact ⟨en_of (laws_FnExactAreEquivalentForms_en _ _ _ _ _ _) ⟨rfl, rfl⟩, (laws_FnExactAreEquivalentForms_ev n _ _ _ _ _ _ κ).trans hr0⟩
    · cases hr

end Go.Proofs.Ytnfpidnnmgedfaa
