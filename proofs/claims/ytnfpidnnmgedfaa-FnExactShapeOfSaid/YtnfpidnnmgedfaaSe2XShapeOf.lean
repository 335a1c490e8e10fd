/- The program's functions hold to their readings without memory: printed by a program of ours. -/
import Derived.Test.YtnfpidnnmgedfaaSe1XShapeOf
namespace Go.Proofs.Ytnfpidnnmgedfaa
open Go Go.Ev Go.Sh Go.Proofs

/-! loop.example/g01297/laws.FnExactShapeOf -/
def laws_FnExactShapeOf_sh : List SkD := [.agg [.int .i64, .int .i64, .int .i64, .int .i64, .int .i64, .int .i64], .int .i64, .int .i64]
def laws_FnExactShapeOf_runG {α : Type} (F : Nat → Int → Int → Int → Int → Int → Int → Int → Int → (Bool → Option α) → Option α) (n : Nat) (p : List P1) (κ : Res → Option α) : Option α := match p with
  | [.int aT, .int aT1, .int aT2, .int aT3, .int aT4, .int aT5, .int aI, .int aJ] => F n aT aT1 aT2 aT3 aT4 aT5 aI aJ (fun v1 => κ ⟨[.bool v1], []⟩)
  | _ => none
def laws_FnExactShapeOf_run {α : Type} (n : Nat) (p : List P1) (κ : Res → Option α) : Option α := laws_FnExactShapeOf_runG laws_FnExactShapeOf n p κ
def laws_FnExactShapeOf_CG {α : Type} (F0 : Nat → Int → Int → Int → Int → Int → Int → (Int → Int → Int → Int → Int → Int → Option α) → Option α) (F1 : Nat → Int → Int → Int → Int → Int → Int → Int → Int → (Int → Int → Int → Int → Option α) → Option α) (F2 : Nat → Int → Int → Int → Int → Int → Int → Int → Int → (Int → Int → Int → Int → Option α) → Option α) (F3 : Nat → Int → Int → Int → Int → Int → Int → (Bool → Option α) → Option α) (n : Nat) : FuncId → List D → (Res → Option α) → Option α := tabC [(29, (byShape laws_toTriangle_sh (laws_toTriangle_runG F0 n))), (28, (byShape spec_ShapeOf_sh (spec_ShapeOf_runG F1 n))), (30, (byShape impl_ShapeOf_sh (impl_ShapeOf_runG F2 n))), (31, (byShape laws_eqShape_sh (laws_eqShape_runG F3 n)))]
def laws_FnExactShapeOf_C {α : Type} (n : Nat) : FuncId → List D → (Res → Option α) → Option α := laws_FnExactShapeOf_CG laws_toTriangle spec_ShapeOf impl_ShapeOf laws_eqShape n
def laws_FnExactShapeOf_M : FuncId → List Nat := tabM []
def laws_FnExactShapeOf_lpsG {α : Type}  : List (LoopT α) := []
def laws_FnExactShapeOf_lps {α : Type} : List (LoopT α) := laws_FnExactShapeOf_lpsG
def laws_FnExactShapeOf_XG {α : Type} (F0 : Nat → Int → Int → Int → Int → Int → Int → (Int → Int → Int → Int → Int → Int → Option α) → Option α) (F1 : Nat → Int → Int → Int → Int → Int → Int → Int → Int → (Int → Int → Int → Int → Option α) → Option α) (F2 : Nat → Int → Int → Int → Int → Int → Int → Int → Int → (Int → Int → Int → Int → Option α) → Option α) (F3 : Nat → Int → Int → Int → Int → Int → Int → (Bool → Option α) → Option α)  (n : Nat) : Ctx α := ⟨laws_FnExactShapeOf_CG F0 F1 F2 F3 n, laws_FnExactShapeOf_M, eqs, lpOf (laws_FnExactShapeOf_lpsG) n⟩
def laws_FnExactShapeOf_X {α : Type} (n : Nat) : Ctx α := laws_FnExactShapeOf_XG laws_toTriangle spec_ShapeOf impl_ShapeOf laws_eqShape n
def laws_FnExactShapeOf_Lt (np : Nat) (lent : List (Bool × Nat × Blk)) : Prop := np = 3 ∧ lent = []
def laws_FnExactShapeOf_body {α : Type} (F0 : Nat → Int → Int → Int → Int → Int → Int → (Int → Int → Int → Int → Int → Int → Option α) → Option α) (F1 : Nat → Int → Int → Int → Int → Int → Int → Int → Int → (Int → Int → Int → Int → Option α) → Option α) (F2 : Nat → Int → Int → Int → Int → Int → Int → Int → Int → (Int → Int → Int → Int → Option α) → Option α) (F3 : Nat → Int → Int → Int → Int → Int → Int → (Bool → Option α) → Option α)  (k : Nat) (aT : Int) (aT1 : Int) (aT2 : Int) (aT3 : Int) (aT4 : Int) (aT5 : Int) (aI : Int) (aJ : Int) (r0 : Bool → Option α) : Option α :=
  F0 k aT aT1 aT2 aT3 aT4 aT5 fun v v1 v2 v3 v4 v5 =>
  F1 k v v1 v2 v3 v4 v5 aI aJ fun v6 v7 v8 v9 =>
  F0 k aT aT1 aT2 aT3 aT4 aT5 fun v10 v11 v12 v13 v14 v15 =>
  F2 k v10 v11 v12 v13 v14 v15 aI aJ fun v16 v17 v18 v19 =>
  F3 k v16 v17 v18 v6 v7 v8 fun v20 =>
  bif (!v20) then
    r0 false
  else
  bif (!decide (v19 = v9)) then
    r0 false
  else
    r0 true
theorem laws_FnExactShapeOf_gen {α : Type} (F0 : Nat → Int → Int → Int → Int → Int → Int → (Int → Int → Int → Int → Int → Int → Option α) → Option α) (F1 : Nat → Int → Int → Int → Int → Int → Int → Int → Int → (Int → Int → Int → Int → Option α) → Option α) (F2 : Nat → Int → Int → Int → Int → Int → Int → Int → Int → (Int → Int → Int → Int → Option α) → Option α) (F3 : Nat → Int → Int → Int → Int → Int → Int → (Bool → Option α) → Option α)  (n : Nat) (aT : Int) (aT1 : Int) (aT2 : Int) (aT3 : Int) (aT4 : Int) (aT5 : Int) (aI : Int) (aJ : Int) (κ : Res → Option α) : evFn Try.prog (laws_FnExactShapeOf_XG F0 F1 F2 F3 n) Try.f6 (((buildDs laws_FnExactShapeOf_sh [.int aT, .int aT1, .int aT2, .int aT3, .int aT4, .int aT5, .int aI, .int aJ]).map Prod.fst).getD []) κ = laws_FnExactShapeOf_body F0 F1 F2 F3 n aT aT1 aT2 aT3 aT4 aT5 aI aJ (fun v1 => κ ⟨[.bool v1], []⟩) := by kernel_rfl
theorem laws_FnExactShapeOf_eq {α : Type} (n : Nat) (aT : Int) (aT1 : Int) (aT2 : Int) (aT3 : Int) (aT4 : Int) (aT5 : Int) (aI : Int) (aJ : Int) (r0 : Bool → Option α) : laws_FnExactShapeOf_body laws_toTriangle spec_ShapeOf impl_ShapeOf laws_eqShape n aT aT1 aT2 aT3 aT4 aT5 aI aJ r0 = laws_FnExactShapeOf n aT aT1 aT2 aT3 aT4 aT5 aI aJ r0 := (laws_FnExactShapeOf_body.eq_1 laws_toTriangle spec_ShapeOf impl_ShapeOf laws_eqShape n aT aT1 aT2 aT3 aT4 aT5 aI aJ r0).trans (laws_FnExactShapeOf.eq_1 n aT aT1 aT2 aT3 aT4 aT5 aI aJ r0).symm
theorem laws_FnExactShapeOf_rn {α : Type} (F : Nat → Int → Int → Int → Int → Int → Int → Int → Int → (Bool → Option α) → Option α) (n : Nat) (aT : Int) (aT1 : Int) (aT2 : Int) (aT3 : Int) (aT4 : Int) (aT5 : Int) (aI : Int) (aJ : Int) (κ : Res → Option α) : laws_FnExactShapeOf_runG F n [.int aT, .int aT1, .int aT2, .int aT3, .int aT4, .int aT5, .int aI, .int aJ] κ = F n aT aT1 aT2 aT3 aT4 aT5 aI aJ (fun v1 => κ ⟨[.bool v1], []⟩) := rfl
theorem laws_FnExactShapeOf_ev {α : Type} (n : Nat) (aT : Int) (aT1 : Int) (aT2 : Int) (aT3 : Int) (aT4 : Int) (aT5 : Int) (aI : Int) (aJ : Int) (κ : Res → Option α) : evFn Try.prog (laws_FnExactShapeOf_X n) Try.f6 (((buildDs laws_FnExactShapeOf_sh [.int aT, .int aT1, .int aT2, .int aT3, .int aT4, .int aT5, .int aI, .int aJ]).map Prod.fst).getD []) κ = laws_FnExactShapeOf_run n [.int aT, .int aT1, .int aT2, .int aT3, .int aT4, .int aT5, .int aI, .int aJ] κ := (laws_FnExactShapeOf_gen laws_toTriangle spec_ShapeOf impl_ShapeOf laws_eqShape n aT aT1 aT2 aT3 aT4 aT5 aI aJ κ).trans ((laws_FnExactShapeOf_eq n aT aT1 aT2 aT3 aT4 aT5 aI aJ (fun v1 => κ ⟨[.bool v1], []⟩)).trans ((laws_FnExactShapeOf_run.eq_1 n [.int aT, .int aT1, .int aT2, .int aT3, .int aT4, .int aT5, .int aI, .int aJ] κ).trans (laws_FnExactShapeOf_rn laws_FnExactShapeOf n aT aT1 aT2 aT3 aT4 aT5 aI aJ κ)).symm)
theorem laws_FnExactShapeOf_en (aT : Int) (aT1 : Int) (aT2 : Int) (aT3 : Int) (aT4 : Int) (aT5 : Int) (aI : Int) (aJ : Int) : (entry 0 (((buildDs laws_FnExactShapeOf_sh [.int aT, .int aT1, .int aT2, .int aT3, .int aT4, .int aT5, .int aI, .int aJ]).map Prod.fst).getD [])).map (fun x => (x.1.length, x.2.lent)) = some (3, []) := by kernel_rfl
theorem laws_FnExactShapeOf_good {α : Type} : ∀ n, GoodFn (α := α) Try.prog 6 (byShape laws_FnExactShapeOf_sh (laws_FnExactShapeOf_run n)) := by
  refine fn_good' Try.func6 (c := (Try.f6.body.getD .skip)) (by kernel_rfl) (by kernel_rfl) (by kernel_rfl) laws_FnExactShapeOf_C laws_FnExactShapeOf_M eqs laws_FnExactShapeOf_lps (fun n => tabC_good (List.forall_mem_cons.2 ⟨(laws_toTriangle_good n), (List.forall_mem_cons.2 ⟨(spec_ShapeOf_good n), (List.forall_mem_cons.2 ⟨(impl_ShapeOf_good n), (List.forall_mem_cons.2 ⟨(laws_eqShape_good n), (fun _ h => absurd h List.not_mem_nil)⟩)⟩)⟩)⟩)) eqs_ok laws_FnExactShapeOf_Lt ?_ ?_ laws_FnExactShapeOf_sh laws_FnExactShapeOf_run ?_
  · exact (fun _ h => absurd h List.not_mem_nil)
  · exact (fun _ h => absurd h List.not_mem_nil)
  · intro n p κ r ds hd hr
    have hr0 := hr
    unfold laws_FnExactShapeOf_run laws_FnExactShapeOf_runG at hr
    split at hr
    · rw [← ds_of hd]
      exact ⟨en_of (laws_FnExactShapeOf_en _ _ _ _ _ _ _ _) ⟨rfl, rfl⟩, (laws_FnExactShapeOf_ev n _ _ _ _ _ _ _ _ κ).trans hr0⟩
    · cases hr

end Go.Proofs.Ytnfpidnnmgedfaa
