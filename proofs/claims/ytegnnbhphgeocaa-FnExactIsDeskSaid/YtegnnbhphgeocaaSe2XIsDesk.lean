/- The program's functions hold to their readings without memory: printed by a program of ours. -/
import Derived.Test.YtegnnbhphgeocaaSe1XIsDesk
namespace Go.Proofs.Ytegnnbhphgeocaa
open Go Go.Ev Go.Sh Go.Proofs

/-! loop.example/g01297/laws.FnExactIsDesk -/
def laws_FnExactIsDesk_sh : List SkD := [.agg [.int .i64, .int .i64, .int .i64, .int .i64, .int .i64, .int .i64, .int .i64, .int .i64, .int .i64, .int .i64, .int .i64]]
def laws_FnExactIsDesk_runG {α : Type} (F : Nat → Int → Int → Int → Int → Int → Int → Int → Int → Int → Int → Int → (Bool → Option α) → Option α) (n : Nat) (p : List P1) (κ : Res → Option α) : Option α := match p with
  | [.int aD, .int aD1, .int aD2, .int aD3, .int aD4, .int aD5, .int aD6, .int aD7, .int aD8, .int aD9, .int aD10] => F n aD aD1 aD2 aD3 aD4 aD5 aD6 aD7 aD8 aD9 aD10 (fun v1 => κ ⟨[.bool v1], []⟩)
  | _ => none
def laws_FnExactIsDesk_run {α : Type} (n : Nat) (p : List P1) (κ : Res → Option α) : Option α := laws_FnExactIsDesk_runG laws_FnExactIsDesk n p κ
def laws_FnExactIsDesk_CG {α : Type} (F0 : Nat → Int → Int → Int → Int → Int → Int → Int → Int → Int → Int → Int → (Int → Int → Int → Int → Int → Int → Int → Int → Int → Int → Int → Option α) → Option α) (F1 : Nat → Int → Int → Int → Int → Int → Int → Int → Int → Int → Int → Int → (Bool → Option α) → Option α) (F2 : Nat → Int → Int → Int → Int → Int → Int → Int → Int → Int → Int → Int → (Bool → Option α) → Option α) (n : Nat) : FuncId → List D → (Res → Option α) → Option α := tabC [(29, (byShape laws_toDesk_sh (laws_toDesk_runG F0 n))), (28, (byShape spec_IsDesk_sh (spec_IsDesk_runG F1 n))), (30, (byShape impl_IsDesk_sh (impl_IsDesk_runG F2 n)))]
def laws_FnExactIsDesk_C {α : Type} (n : Nat) : FuncId → List D → (Res → Option α) → Option α := laws_FnExactIsDesk_CG laws_toDesk spec_IsDesk impl_IsDesk n
def laws_FnExactIsDesk_M : FuncId → List Nat := tabM []
def laws_FnExactIsDesk_lpsG {α : Type}  : List (LoopT α) := []
def laws_FnExactIsDesk_lps {α : Type} : List (LoopT α) := laws_FnExactIsDesk_lpsG
def laws_FnExactIsDesk_XG {α : Type} (F0 : Nat → Int → Int → Int → Int → Int → Int → Int → Int → Int → Int → Int → (Int → Int → Int → Int → Int → Int → Int → Int → Int → Int → Int → Option α) → Option α) (F1 : Nat → Int → Int → Int → Int → Int → Int → Int → Int → Int → Int → Int → (Bool → Option α) → Option α) (F2 : Nat → Int → Int → Int → Int → Int → Int → Int → Int → Int → Int → Int → (Bool → Option α) → Option α)  (n : Nat) : Ctx α := ⟨laws_FnExactIsDesk_CG F0 F1 F2 n, laws_FnExactIsDesk_M, eqs, lpOf (laws_FnExactIsDesk_lpsG) n⟩
def laws_FnExactIsDesk_X {α : Type} (n : Nat) : Ctx α := laws_FnExactIsDesk_XG laws_toDesk spec_IsDesk impl_IsDesk n
def laws_FnExactIsDesk_Lt (np : Nat) (lent : List (Bool × Nat × Blk)) : Prop := np = 1 ∧ lent = []
def laws_FnExactIsDesk_body {α : Type} (F0 : Nat → Int → Int → Int → Int → Int → Int → Int → Int → Int → Int → Int → (Int → Int → Int → Int → Int → Int → Int → Int → Int → Int → Int → Option α) → Option α) (F1 : Nat → Int → Int → Int → Int → Int → Int → Int → Int → Int → Int → Int → (Bool → Option α) → Option α) (F2 : Nat → Int → Int → Int → Int → Int → Int → Int → Int → Int → Int → Int → (Bool → Option α) → Option α)  (k : Nat) (aD : Int) (aD1 : Int) (aD2 : Int) (aD3 : Int) (aD4 : Int) (aD5 : Int) (aD6 : Int) (aD7 : Int) (aD8 : Int) (aD9 : Int) (aD10 : Int) (r0 : Bool → Option α) : Option α :=
  F0 k aD aD1 aD2 aD3 aD4 aD5 aD6 aD7 aD8 aD9 aD10 fun v v1 v2 v3 v4 v5 v6 v7 v8 v9 v10 =>
  F1 k v v1 v2 v3 v4 v5 v6 v7 v8 v9 v10 fun v11 =>
  F0 k aD aD1 aD2 aD3 aD4 aD5 aD6 aD7 aD8 aD9 aD10 fun v12 v13 v14 v15 v16 v17 v18 v19 v20 v21 v22 =>
  F2 k v12 v13 v14 v15 v16 v17 v18 v19 v20 v21 v22 fun v23 =>
  bif (!(v23 == v11)) then
    r0 false
  else
    r0 true
theorem laws_FnExactIsDesk_gen {α : Type} (F0 : Nat → Int → Int → Int → Int → Int → Int → Int → Int → Int → Int → Int → (Int → Int → Int → Int → Int → Int → Int → Int → Int → Int → Int → Option α) → Option α) (F1 : Nat → Int → Int → Int → Int → Int → Int → Int → Int → Int → Int → Int → (Bool → Option α) → Option α) (F2 : Nat → Int → Int → Int → Int → Int → Int → Int → Int → Int → Int → Int → (Bool → Option α) → Option α)  (n : Nat) (aD : Int) (aD1 : Int) (aD2 : Int) (aD3 : Int) (aD4 : Int) (aD5 : Int) (aD6 : Int) (aD7 : Int) (aD8 : Int) (aD9 : Int) (aD10 : Int) (κ : Res → Option α) : evFn Try.prog (laws_FnExactIsDesk_XG F0 F1 F2 n) Try.f7 (((buildDs laws_FnExactIsDesk_sh [.int aD, .int aD1, .int aD2, .int aD3, .int aD4, .int aD5, .int aD6, .int aD7, .int aD8, .int aD9, .int aD10]).map Prod.fst).getD []) κ = laws_FnExactIsDesk_body F0 F1 F2 n aD aD1 aD2 aD3 aD4 aD5 aD6 aD7 aD8 aD9 aD10 (fun v1 => κ ⟨[.bool v1], []⟩) := by kernel_rfl
theorem laws_FnExactIsDesk_ev {α : Type} (n : Nat) (aD : Int) (aD1 : Int) (aD2 : Int) (aD3 : Int) (aD4 : Int) (aD5 : Int) (aD6 : Int) (aD7 : Int) (aD8 : Int) (aD9 : Int) (aD10 : Int) (κ : Res → Option α) : evFn Try.prog (laws_FnExactIsDesk_X n) Try.f7 (((buildDs laws_FnExactIsDesk_sh [.int aD, .int aD1, .int aD2, .int aD3, .int aD4, .int aD5, .int aD6, .int aD7, .int aD8, .int aD9, .int aD10]).map Prod.fst).getD []) κ = laws_FnExactIsDesk_run n [.int aD, .int aD1, .int aD2, .int aD3, .int aD4, .int aD5, .int aD6, .int aD7, .int aD8, .int aD9, .int aD10] κ := (laws_FnExactIsDesk_gen laws_toDesk spec_IsDesk impl_IsDesk n aD aD1 aD2 aD3 aD4 aD5 aD6 aD7 aD8 aD9 aD10 κ).trans (by kernel_rfl)
theorem laws_FnExactIsDesk_en (aD : Int) (aD1 : Int) (aD2 : Int) (aD3 : Int) (aD4 : Int) (aD5 : Int) (aD6 : Int) (aD7 : Int) (aD8 : Int) (aD9 : Int) (aD10 : Int) : (entry 0 (((buildDs laws_FnExactIsDesk_sh [.int aD, .int aD1, .int aD2, .int aD3, .int aD4, .int aD5, .int aD6, .int aD7, .int aD8, .int aD9, .int aD10]).map Prod.fst).getD [])).map (fun x => (x.1.length, x.2.lent)) = some (1, []) := by kernel_rfl
theorem laws_FnExactIsDesk_good {α : Type} : ∀ n, GoodFn (α := α) Try.prog 7 (byShape laws_FnExactIsDesk_sh (laws_FnExactIsDesk_run n)) := by
  refine fn_good' Try.func7 (c := (Try.f7.body.getD .skip)) (by kernel_rfl) (by kernel_rfl) (by kernel_rfl) laws_FnExactIsDesk_C laws_FnExactIsDesk_M eqs laws_FnExactIsDesk_lps (fun n => tabC_good (List.forall_mem_cons.2 ⟨(laws_toDesk_good n), (List.forall_mem_cons.2 ⟨(spec_IsDesk_good n), (List.forall_mem_cons.2 ⟨(impl_IsDesk_good n), (fun _ h => absurd h List.not_mem_nil)⟩)⟩)⟩)) eqs_ok laws_FnExactIsDesk_Lt ?_ ?_ laws_FnExactIsDesk_sh laws_FnExactIsDesk_run ?_
  · exact (fun _ h => absurd h List.not_mem_nil)
  · exact (fun _ h => absurd h List.not_mem_nil)
  · intro n p κ r ds hd hr
    have hr0 := hr
    unfold laws_FnExactIsDesk_run laws_FnExactIsDesk_runG at hr
    split at hr
    · rw [← ds_of hd]
      exact ⟨en_of (laws_FnExactIsDesk_en _ _ _ _ _ _ _ _ _ _ _) ⟨rfl, rfl⟩, (laws_FnExactIsDesk_ev n _ _ _ _ _ _ _ _ _ _ _ κ).trans hr0⟩
    · cases hr

end Go.Proofs.Ytegnnbhphgeocaa
