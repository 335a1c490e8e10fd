/- The program's functions hold to their readings without memory: printed by a program of ours. -/
import Derived.Test.YtjekmhinmcniaaaSe2XNormalShape
namespace Go.Proofs.Ytjekmhinmcniaaa
open Go Go.Ev Go.Sh Go.Proofs

/-! loop.example/g01297/laws.FnExactNormalShape -/
def laws_FnExactNormalShape_sh : List SkD := [.agg [.int .i64, .int .i64, .int .i64, .int .i64, .int .i64, .int .i64]]
def laws_FnExactNormalShape_runG {α : Type} (F : Nat → Int → Int → Int → Int → Int → Int → (Bool → Option α) → Option α) (n : Nat) (p : List P1) (κ : Res → Option α) : Option α := match p with
  | [.int aT, .int aT1, .int aT2, .int aT3, .int aT4, .int aT5] => F n aT aT1 aT2 aT3 aT4 aT5 (fun v1 => κ ⟨[.bool v1], []⟩)
  | _ => none
def laws_FnExactNormalShape_run {α : Type} (n : Nat) (p : List P1) (κ : Res → Option α) : Option α := laws_FnExactNormalShape_runG laws_FnExactNormalShape n p κ
def laws_FnExactNormalShape_CG {α : Type} (F0 : Nat → Int → Int → Int → Int → Int → Int → (Int → Int → Int → Int → Int → Int → Option α) → Option α) (F1 : Nat → Int → Int → Int → Int → Int → Int → (Int → Int → Int → Int → Option α) → Option α) (F2 : Nat → Int → Int → Int → Int → Int → Int → (Int → Int → Int → Int → Option α) → Option α) (F3 : Nat → Int → Int → Int → Int → Int → Int → (Bool → Option α) → Option α) (n : Nat) : FuncId → List D → (Res → Option α) → Option α := tabC [(16, (byShape laws_toTriangle_sh (laws_toTriangle_runG F0 n))), (34, (byShape spec_NormalShape_sh (spec_NormalShape_runG F1 n))), (35, (byShape impl_NormalShape_sh (impl_NormalShape_runG F2 n))), (36, (byShape laws_eqShape_sh (laws_eqShape_runG F3 n)))]
def laws_FnExactNormalShape_C {α : Type} (n : Nat) : FuncId → List D → (Res → Option α) → Option α := laws_FnExactNormalShape_CG laws_toTriangle spec_NormalShape impl_NormalShape laws_eqShape n
def laws_FnExactNormalShape_M : FuncId → List Nat := tabM []
def laws_FnExactNormalShape_lpsG {α : Type}  : List (LoopT α) := []
def laws_FnExactNormalShape_lps {α : Type} : List (LoopT α) := laws_FnExactNormalShape_lpsG
def laws_FnExactNormalShape_XG {α : Type} (F0 : Nat → Int → Int → Int → Int → Int → Int → (Int → Int → Int → Int → Int → Int → Option α) → Option α) (F1 : Nat → Int → Int → Int → Int → Int → Int → (Int → Int → Int → Int → Option α) → Option α) (F2 : Nat → Int → Int → Int → Int → Int → Int → (Int → Int → Int → Int → Option α) → Option α) (F3 : Nat → Int → Int → Int → Int → Int → Int → (Bool → Option α) → Option α)  (n : Nat) : Ctx α := ⟨laws_FnExactNormalShape_CG F0 F1 F2 F3 n, laws_FnExactNormalShape_M, eqs, lpOf (laws_FnExactNormalShape_lpsG) n⟩
def laws_FnExactNormalShape_X {α : Type} (n : Nat) : Ctx α := laws_FnExactNormalShape_XG laws_toTriangle spec_NormalShape impl_NormalShape laws_eqShape n
def laws_FnExactNormalShape_Lt (np : Nat) (lent : List (Bool × Nat × Blk)) : Prop := np = 1 ∧ lent = []
def laws_FnExactNormalShape_body {α : Type} (F0 : Nat → Int → Int → Int → Int → Int → Int → (Int → Int → Int → Int → Int → Int → Option α) → Option α) (F1 : Nat → Int → Int → Int → Int → Int → Int → (Int → Int → Int → Int → Option α) → Option α) (F2 : Nat → Int → Int → Int → Int → Int → Int → (Int → Int → Int → Int → Option α) → Option α) (F3 : Nat → Int → Int → Int → Int → Int → Int → (Bool → Option α) → Option α)  (k : Nat) (aT : Int) (aT1 : Int) (aT2 : Int) (aT3 : Int) (aT4 : Int) (aT5 : Int) (r0 : Bool → Option α) : Option α :=
  F0 k aT aT1 aT2 aT3 aT4 aT5 fun v v1 v2 v3 v4 v5 =>
  F1 k v v1 v2 v3 v4 v5 fun v6 v7 v8 v9 =>
  F0 k aT aT1 aT2 aT3 aT4 aT5 fun v10 v11 v12 v13 v14 v15 =>
  F2 k v10 v11 v12 v13 v14 v15 fun v16 v17 v18 v19 =>
  F3 k v16 v17 v18 v6 v7 v8 fun v20 =>
  bif (!v20) then
    r0 false
  else
  bif (!decide (v19 = v9)) then
    r0 false
  else
    r0 true
theorem laws_FnExactNormalShape_gen {α : Type} (F0 : Nat → Int → Int → Int → Int → Int → Int → (Int → Int → Int → Int → Int → Int → Option α) → Option α) (F1 : Nat → Int → Int → Int → Int → Int → Int → (Int → Int → Int → Int → Option α) → Option α) (F2 : Nat → Int → Int → Int → Int → Int → Int → (Int → Int → Int → Int → Option α) → Option α) (F3 : Nat → Int → Int → Int → Int → Int → Int → (Bool → Option α) → Option α)  (n : Nat) (aT : Int) (aT1 : Int) (aT2 : Int) (aT3 : Int) (aT4 : Int) (aT5 : Int) (κ : Res → Option α) : evFn Try.prog (laws_FnExactNormalShape_XG F0 F1 F2 F3 n) Try.f5 (((buildDs laws_FnExactNormalShape_sh [.int aT, .int aT1, .int aT2, .int aT3, .int aT4, .int aT5]).map Prod.fst).getD []) κ = laws_FnExactNormalShape_body F0 F1 F2 F3 n aT aT1 aT2 aT3 aT4 aT5 (fun v1 => κ ⟨[.bool v1], []⟩) := by kernel_rfl
theorem laws_FnExactNormalShape_eq {α : Type} (n : Nat) (aT : Int) (aT1 : Int) (aT2 : Int) (aT3 : Int) (aT4 : Int) (aT5 : Int) (r0 : Bool → Option α) : laws_FnExactNormalShape_body laws_toTriangle spec_NormalShape impl_NormalShape laws_eqShape n aT aT1 aT2 aT3 aT4 aT5 r0 = laws_FnExactNormalShape n aT aT1 aT2 aT3 aT4 aT5 r0 := (laws_FnExactNormalShape_body.eq_1 laws_toTriangle spec_NormalShape impl_NormalShape laws_eqShape n aT aT1 aT2 aT3 aT4 aT5 r0).trans (laws_FnExactNormalShape.eq_1 n aT aT1 aT2 aT3 aT4 aT5 r0).symm
theorem laws_FnExactNormalShape_rn {α : Type} (F : Nat → Int → Int → Int → Int → Int → Int → (Bool → Option α) → Option α) (n : Nat) (aT : Int) (aT1 : Int) (aT2 : Int) (aT3 : Int) (aT4 : Int) (aT5 : Int) (κ : Res → Option α) : laws_FnExactNormalShape_runG F n [.int aT, .int aT1, .int aT2, .int aT3, .int aT4, .int aT5] κ = F n aT aT1 aT2 aT3 aT4 aT5 (fun v1 => κ ⟨[.bool v1], []⟩) := rfl
theorem laws_FnExactNormalShape_ev {α : Type} (n : Nat) (aT : Int) (aT1 : Int) (aT2 : Int) (aT3 : Int) (aT4 : Int) (aT5 : Int) (κ : Res → Option α) : evFn Try.prog (laws_FnExactNormalShape_X n) Try.f5 (((buildDs laws_FnExactNormalShape_sh [.int aT, .int aT1, .int aT2, .int aT3, .int aT4, .int aT5]).map Prod.fst).getD []) κ = laws_FnExactNormalShape_run n [.int aT, .int aT1, .int aT2, .int aT3, .int aT4, .int aT5] κ := (laws_FnExactNormalShape_gen laws_toTriangle spec_NormalShape impl_NormalShape laws_eqShape n aT aT1 aT2 aT3 aT4 aT5 κ).trans ((laws_FnExactNormalShape_eq n aT aT1 aT2 aT3 aT4 aT5 (fun v1 => κ ⟨[.bool v1], []⟩)).trans ((laws_FnExactNormalShape_run.eq_1 n [.int aT, .int aT1, .int aT2, .int aT3, .int aT4, .int aT5] κ).trans (laws_FnExactNormalShape_rn laws_FnExactNormalShape n aT aT1 aT2 aT3 aT4 aT5 κ)).symm)
theorem laws_FnExactNormalShape_en (aT : Int) (aT1 : Int) (aT2 : Int) (aT3 : Int) (aT4 : Int) (aT5 : Int) : (entry 0 (((buildDs laws_FnExactNormalShape_sh [.int aT, .int aT1, .int aT2, .int aT3, .int aT4, .int aT5]).map Prod.fst).getD [])).map (fun x => (x.1.length, x.2.lent)) = some (1, []) := by kernel_rfl
theorem laws_FnExactNormalShape_good {α : Type} : ∀ n, GoodFn (α := α) Try.prog 5 (byShape laws_FnExactNormalShape_sh (laws_FnExactNormalShape_run n)) := by
  refine fn_good' Try.func5 (c := (Try.f5.body.getD .skip)) (by kernel_rfl) (by kernel_rfl) (by kernel_rfl) laws_FnExactNormalShape_C laws_FnExactNormalShape_M eqs laws_FnExactNormalShape_lps (fun n => tabC_good (List.forall_mem_cons.2 ⟨(laws_toTriangle_good n), (List.forall_mem_cons.2 ⟨(spec_NormalShape_good n), (List.forall_mem_cons.2 ⟨(impl_NormalShape_good n), (List.forall_mem_cons.2 ⟨(laws_eqShape_good n), (fun _ h => absurd h List.not_mem_nil)⟩)⟩)⟩)⟩)) eqs_ok laws_FnExactNormalShape_Lt ?_ ?_ laws_FnExactNormalShape_sh laws_FnExactNormalShape_run ?_
  · exact (fun _ h => absurd h List.not_mem_nil)
  · exact (fun _ h => absurd h List.not_mem_nil)
  · intro n p κ r ds hd hr
    have hr0 := hr
    unfold laws_FnExactNormalShape_run laws_FnExactNormalShape_runG at hr
    split at hr
    · rw [← ds_of hd]
      exact ⟨en_of (laws_FnExactNormalShape_en _ _ _ _ _ _) ⟨rfl, rfl⟩, (laws_FnExactNormalShape_ev n _ _ _ _ _ _ κ).trans hr0⟩
    · cases hr

end Go.Proofs.Ytjekmhinmcniaaa
