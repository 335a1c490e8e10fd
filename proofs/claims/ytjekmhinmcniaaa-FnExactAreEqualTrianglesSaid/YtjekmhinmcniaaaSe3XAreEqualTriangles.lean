/- The program's functions hold to their readings without memory: printed by a program of ours. -/
import Derived.Test.YtjekmhinmcniaaaSe2XAreEqualTriangles
namespace Go.Proofs.Ytjekmhinmcniaaa
open Go Go.Ev Go.Sh Go.Proofs

/-! loop.example/g01297/laws.FnExactAreEqualTriangles -/
def laws_FnExactAreEqualTriangles_sh : List SkD := [.agg [.int .i64, .int .i64, .int .i64, .int .i64, .int .i64, .int .i64], .agg [.int .i64, .int .i64, .int .i64, .int .i64, .int .i64, .int .i64]]
def laws_FnExactAreEqualTriangles_runG {α : Type} (F : Nat → Int → Int → Int → Int → Int → Int → Int → Int → Int → Int → Int → Int → (Bool → Option α) → Option α) (n : Nat) (p : List P1) (κ : Res → Option α) : Option α := match p with
  | [.int aT, .int aT1, .int aT2, .int aT3, .int aT4, .int aT5, .int aU, .int aU1, .int aU2, .int aU3, .int aU4, .int aU5] => F n aT aT1 aT2 aT3 aT4 aT5 aU aU1 aU2 aU3 aU4 aU5 (fun v1 => κ ⟨[.bool v1], []⟩)
  | _ => none
def laws_FnExactAreEqualTriangles_run {α : Type} (n : Nat) (p : List P1) (κ : Res → Option α) : Option α := laws_FnExactAreEqualTriangles_runG laws_FnExactAreEqualTriangles n p κ
def laws_FnExactAreEqualTriangles_CG {α : Type} (F0 : Nat → Int → Int → Int → Int → Int → Int → (Int → Int → Int → Int → Int → Int → Option α) → Option α) (F1 : Nat → Int → Int → Int → Int → Int → Int → Int → Int → Int → Int → Int → Int → (Bool → Int → Option α) → Option α) (F2 : Nat → Int → Int → Int → Int → Int → Int → Int → Int → Int → Int → Int → Int → (Bool → Int → Option α) → Option α) (n : Nat) : FuncId → List D → (Res → Option α) → Option α := tabC [(16, (byShape laws_toTriangle_sh (laws_toTriangle_runG F0 n))), (15, (byShape spec_AreEqualTriangles_sh (spec_AreEqualTriangles_runG F1 n))), (17, (byShape impl_AreEqualTriangles_sh (impl_AreEqualTriangles_runG F2 n)))]
def laws_FnExactAreEqualTriangles_C {α : Type} (n : Nat) : FuncId → List D → (Res → Option α) → Option α := laws_FnExactAreEqualTriangles_CG laws_toTriangle spec_AreEqualTriangles impl_AreEqualTriangles n
def laws_FnExactAreEqualTriangles_M : FuncId → List Nat := tabM []
def laws_FnExactAreEqualTriangles_lpsG {α : Type}  : List (LoopT α) := []
def laws_FnExactAreEqualTriangles_lps {α : Type} : List (LoopT α) := laws_FnExactAreEqualTriangles_lpsG
def laws_FnExactAreEqualTriangles_XG {α : Type} (F0 : Nat → Int → Int → Int → Int → Int → Int → (Int → Int → Int → Int → Int → Int → Option α) → Option α) (F1 : Nat → Int → Int → Int → Int → Int → Int → Int → Int → Int → Int → Int → Int → (Bool → Int → Option α) → Option α) (F2 : Nat → Int → Int → Int → Int → Int → Int → Int → Int → Int → Int → Int → Int → (Bool → Int → Option α) → Option α)  (n : Nat) : Ctx α := ⟨laws_FnExactAreEqualTriangles_CG F0 F1 F2 n, laws_FnExactAreEqualTriangles_M, eqs, lpOf (laws_FnExactAreEqualTriangles_lpsG) n⟩
def laws_FnExactAreEqualTriangles_X {α : Type} (n : Nat) : Ctx α := laws_FnExactAreEqualTriangles_XG laws_toTriangle spec_AreEqualTriangles impl_AreEqualTriangles n
def laws_FnExactAreEqualTriangles_Lt (np : Nat) (lent : List (Bool × Nat × Blk)) : Prop := np = 2 ∧ lent = []
def laws_FnExactAreEqualTriangles_body {α : Type} (F0 : Nat → Int → Int → Int → Int → Int → Int → (Int → Int → Int → Int → Int → Int → Option α) → Option α) (F1 : Nat → Int → Int → Int → Int → Int → Int → Int → Int → Int → Int → Int → Int → (Bool → Int → Option α) → Option α) (F2 : Nat → Int → Int → Int → Int → Int → Int → Int → Int → Int → Int → Int → Int → (Bool → Int → Option α) → Option α)  (k : Nat) (aT : Int) (aT1 : Int) (aT2 : Int) (aT3 : Int) (aT4 : Int) (aT5 : Int) (aU : Int) (aU1 : Int) (aU2 : Int) (aU3 : Int) (aU4 : Int) (aU5 : Int) (r0 : Bool → Option α) : Option α :=
  F0 k aT aT1 aT2 aT3 aT4 aT5 fun v v1 v2 v3 v4 v5 =>
  F0 k aU aU1 aU2 aU3 aU4 aU5 fun v6 v7 v8 v9 v10 v11 =>
  F1 k v v1 v2 v3 v4 v5 v6 v7 v8 v9 v10 v11 fun v12 v13 =>
  F0 k aT aT1 aT2 aT3 aT4 aT5 fun v14 v15 v16 v17 v18 v19 =>
  F0 k aU aU1 aU2 aU3 aU4 aU5 fun v20 v21 v22 v23 v24 v25 =>
  F2 k v14 v15 v16 v17 v18 v19 v20 v21 v22 v23 v24 v25 fun v26 v27 =>
  bif (!(v26 == v12)) then
    r0 false
  else
  bif (!decide (v27 = v13)) then
    r0 false
  else
    r0 true
theorem laws_FnExactAreEqualTriangles_gen {α : Type} (F0 : Nat → Int → Int → Int → Int → Int → Int → (Int → Int → Int → Int → Int → Int → Option α) → Option α) (F1 : Nat → Int → Int → Int → Int → Int → Int → Int → Int → Int → Int → Int → Int → (Bool → Int → Option α) → Option α) (F2 : Nat → Int → Int → Int → Int → Int → Int → Int → Int → Int → Int → Int → Int → (Bool → Int → Option α) → Option α)  (n : Nat) (aT : Int) (aT1 : Int) (aT2 : Int) (aT3 : Int) (aT4 : Int) (aT5 : Int) (aU : Int) (aU1 : Int) (aU2 : Int) (aU3 : Int) (aU4 : Int) (aU5 : Int) (κ : Res → Option α) : evFn Try.prog (laws_FnExactAreEqualTriangles_XG F0 F1 F2 n) Try.f3 (((buildDs laws_FnExactAreEqualTriangles_sh [.int aT, .int aT1, .int aT2, .int aT3, .int aT4, .int aT5, .int aU, .int aU1, .int aU2, .int aU3, .int aU4, .int aU5]).map Prod.fst).getD []) κ = laws_FnExactAreEqualTriangles_body F0 F1 F2 n aT aT1 aT2 aT3 aT4 aT5 aU aU1 aU2 aU3 aU4 aU5 (fun v1 => κ ⟨[.bool v1], []⟩) := by kernel_rfl
theorem laws_FnExactAreEqualTriangles_eq {α : Type} (n : Nat) (aT : Int) (aT1 : Int) (aT2 : Int) (aT3 : Int) (aT4 : Int) (aT5 : Int) (aU : Int) (aU1 : Int) (aU2 : Int) (aU3 : Int) (aU4 : Int) (aU5 : Int) (r0 : Bool → Option α) : laws_FnExactAreEqualTriangles_body laws_toTriangle spec_AreEqualTriangles impl_AreEqualTriangles n aT aT1 aT2 aT3 aT4 aT5 aU aU1 aU2 aU3 aU4 aU5 r0 = laws_FnExactAreEqualTriangles n aT aT1 aT2 aT3 aT4 aT5 aU aU1 aU2 aU3 aU4 aU5 r0 := (laws_FnExactAreEqualTriangles_body.eq_1 laws_toTriangle spec_AreEqualTriangles impl_AreEqualTriangles n aT aT1 aT2 aT3 aT4 aT5 aU aU1 aU2 aU3 aU4 aU5 r0).trans (laws_FnExactAreEqualTriangles.eq_1 n aT aT1 aT2 aT3 aT4 aT5 aU aU1 aU2 aU3 aU4 aU5 r0).symm
theorem laws_FnExactAreEqualTriangles_rn {α : Type} (F : Nat → Int → Int → Int → Int → Int → Int → Int → Int → Int → Int → Int → Int → (Bool → Option α) → Option α) (n : Nat) (aT : Int) (aT1 : Int) (aT2 : Int) (aT3 : Int) (aT4 : Int) (aT5 : Int) (aU : Int) (aU1 : Int) (aU2 : Int) (aU3 : Int) (aU4 : Int) (aU5 : Int) (κ : Res → Option α) : laws_FnExactAreEqualTriangles_runG F n [.int aT, .int aT1, .int aT2, .int aT3, .int aT4, .int aT5, .int aU, .int aU1, .int aU2, .int aU3, .int aU4, .int aU5] κ = F n aT aT1 aT2 aT3 aT4 aT5 aU aU1 aU2 aU3 aU4 aU5 (fun v1 => κ ⟨[.bool v1], []⟩) := rfl
theorem laws_FnExactAreEqualTriangles_ev {α : Type} (n : Nat) (aT : Int) (aT1 : Int) (aT2 : Int) (aT3 : Int) (aT4 : Int) (aT5 : Int) (aU : Int) (aU1 : Int) (aU2 : Int) (aU3 : Int) (aU4 : Int) (aU5 : Int) (κ : Res → Option α) : evFn Try.prog (laws_FnExactAreEqualTriangles_X n) Try.f3 (((buildDs laws_FnExactAreEqualTriangles_sh [.int aT, .int aT1, .int aT2, .int aT3, .int aT4, .int aT5, .int aU, .int aU1, .int aU2, .int aU3, .int aU4, .int aU5]).map Prod.fst).getD []) κ = laws_FnExactAreEqualTriangles_run n [.int aT, .int aT1, .int aT2, .int aT3, .int aT4, .int aT5, .int aU, .int aU1, .int aU2, .int aU3, .int aU4, .int aU5] κ := (laws_FnExactAreEqualTriangles_gen laws_toTriangle spec_AreEqualTriangles impl_AreEqualTriangles n aT aT1 aT2 aT3 aT4 aT5 aU aU1 aU2 aU3 aU4 aU5 κ).trans ((laws_FnExactAreEqualTriangles_eq n aT aT1 aT2 aT3 aT4 aT5 aU aU1 aU2 aU3 aU4 aU5 (fun v1 => κ ⟨[.bool v1], []⟩)).trans ((laws_FnExactAreEqualTriangles_run.eq_1 n [.int aT, .int aT1, .int aT2, .int aT3, .int aT4, .int aT5, .int aU, .int aU1, .int aU2, .int aU3, .int aU4, .int aU5] κ).trans (laws_FnExactAreEqualTriangles_rn laws_FnExactAreEqualTriangles n aT aT1 aT2 aT3 aT4 aT5 aU aU1 aU2 aU3 aU4 aU5 κ)).symm)
theorem laws_FnExactAreEqualTriangles_en (aT : Int) (aT1 : Int) (aT2 : Int) (aT3 : Int) (aT4 : Int) (aT5 : Int) (aU : Int) (aU1 : Int) (aU2 : Int) (aU3 : Int) (aU4 : Int) (aU5 : Int) : (entry 0 (((buildDs laws_FnExactAreEqualTriangles_sh [.int aT, .int aT1, .int aT2, .int aT3, .int aT4, .int aT5, .int aU, .int aU1, .int aU2, .int aU3, .int aU4, .int aU5]).map Prod.fst).getD [])).map (fun x => (x.1.length, x.2.lent)) = some (2, []) := by kernel_rfl
theorem laws_FnExactAreEqualTriangles_good {α : Type} : ∀ n, GoodFn (α := α) Try.prog 3 (byShape laws_FnExactAreEqualTriangles_sh (laws_FnExactAreEqualTriangles_run n)) := by
  refine fn_good' Try.func3 (c := (Try.f3.body.getD .skip)) (by kernel_rfl) (by kernel_rfl) (by kernel_rfl) laws_FnExactAreEqualTriangles_C laws_FnExactAreEqualTriangles_M eqs laws_FnExactAreEqualTriangles_lps (fun n => tabC_good (List.forall_mem_cons.2 ⟨(laws_toTriangle_good n), (List.forall_mem_cons.2 ⟨(spec_AreEqualTriangles_good n), (List.forall_mem_cons.2 ⟨(impl_AreEqualTriangles_good n), (fun _ h => absurd h List.not_mem_nil)⟩)⟩)⟩)) eqs_ok laws_FnExactAreEqualTriangles_Lt ?_ ?_ laws_FnExactAreEqualTriangles_sh laws_FnExactAreEqualTriangles_run ?_
  · exact (fun _ h => absurd h List.not_mem_nil)
  · exact (fun _ h => absurd h List.not_mem_nil)
  · intro n p κ r ds hd hr
    have hr0 := hr
    unfold laws_FnExactAreEqualTriangles_run laws_FnExactAreEqualTriangles_runG at hr
    split at hr
    · rw [← ds_of hd]
      exact ⟨en_of (laws_FnExactAreEqualTriangles_en _ _ _ _ _ _ _ _ _ _ _ _) ⟨rfl, rfl⟩, (laws_FnExactAreEqualTriangles_ev n _ _ _ _ _ _ _ _ _ _ _ _ κ).trans hr0⟩
    · cases hr

end Go.Proofs.Ytjekmhinmcniaaa
