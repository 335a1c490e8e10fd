/- The program's functions hold to their readings without memory: printed by a program of ours. -/
import Derived.Test.YtglpddfibcikgaaSe3LPointMaps
namespace Go.Proofs.Ytglpddfibcikgaa
open Go Go.Ev Go.Sh Go.Proofs

/-! loop.example/g01297/spec.LengthOf -/
def spec_LengthOf_sh : List SkD := [.agg [.int .i64, .int .i64], .agg [.int .i64, .int .i64]]
def spec_LengthOf_runG {α : Type} (F : T23 α) (n : Nat) (p : List P1) (κ : Res → Option α) : Option α := match p with
  | [.int a, .int a1, .int b_, .int b_1] => F n a a1 b_ b_1 (fun v1 v2 => κ ⟨[.int .i64 v1, .int .i64 v2], []⟩)
  | _ => none
def spec_LengthOf_run {α : Type} (n : Nat) (p : List P1) (κ : Res → Option α) : Option α := spec_LengthOf_runG spec_LengthOf n p κ
def spec_LengthOf_CG {α : Type} (F0 : T12 α) (F1 : T15 α) (n : Nat) : FuncId → List D → (Res → Option α) → Option α := tabC [(46, (byShape spec_l01Code_sh (spec_l01Code_runG F0 n))), (64, (byShape spec_l01Length_sh (spec_l01Length_runG F1 n)))]
def spec_LengthOf_C {α : Type} (n : Nat) : FuncId → List D → (Res → Option α) → Option α := spec_LengthOf_CG spec_l01Code spec_l01Length n
def spec_LengthOf_M : FuncId → List Nat := tabM []
def spec_LengthOf_lpsG {α : Type}  : List (LoopT α) := []
def spec_LengthOf_lps {α : Type} : List (LoopT α) := spec_LengthOf_lpsG
def spec_LengthOf_jt : Nat → Option Tpl := jtOf []
def spec_LengthOf_XG {α : Type} (F0 : T12 α) (F1 : T15 α)  (n : Nat) : Ctx α := ⟨spec_LengthOf_CG F0 F1 n, spec_LengthOf_M, eqs, lpOf (spec_LengthOf_lpsG) n, spec_LengthOf_jt⟩
def spec_LengthOf_X {α : Type} (n : Nat) : Ctx α := spec_LengthOf_XG spec_l01Code spec_l01Length n
def spec_LengthOf_Lt (np : Nat) (lent : List (Bool × Nat × Blk)) : Prop := np = 2 ∧ lent = []
def spec_LengthOf_body {α : Type} (F0 : T12 α) (F1 : T15 α)  (k : Nat) (a : Int) (a1 : Int) (b_ : Int) (b_1 : Int) (r0 : Int → Int → Option α) : Option α :=
  F0 k [(a, a1), (b_, b_1)] fun v =>
  bif (!decide (v = 0)) then
    r0 0 v
  else
    F1 k a a1 b_ b_1 fun v1 =>
    r0 v1 0
theorem spec_LengthOf_gen {α : Type} (F0 : T12 α) (F1 : T15 α)  (n : Nat) (a : Int) (a1 : Int) (b_ : Int) (b_1 : Int) (κ : Res → Option α) : evFn Try.prog (spec_LengthOf_XG F0 F1 n) Try.f34 (((buildDs spec_LengthOf_sh [.int a, .int a1, .int b_, .int b_1]).map Prod.fst).getD []) κ = spec_LengthOf_body F0 F1 n a a1 b_ b_1 (fun v1 v2 => κ ⟨[.int .i64 v1, .int .i64 v2], []⟩) := by kernel_rfl
theorem spec_LengthOf_eq {α : Type} (n : Nat) (a : Int) (a1 : Int) (b_ : Int) (b_1 : Int) (r0 : Int → Int → Option α) : spec_LengthOf_body spec_l01Code spec_l01Length n a a1 b_ b_1 r0 = spec_LengthOf n a a1 b_ b_1 r0 := (spec_LengthOf_body.eq_1 spec_l01Code spec_l01Length n a a1 b_ b_1 r0).trans (spec_LengthOf.eq_1 n a a1 b_ b_1 r0).symm
theorem spec_LengthOf_rn {α : Type} (F : T23 α) (n : Nat) (a : Int) (a1 : Int) (b_ : Int) (b_1 : Int) (κ : Res → Option α) : spec_LengthOf_runG F n [.int a, .int a1, .int b_, .int b_1] κ = F n a a1 b_ b_1 (fun v1 v2 => κ ⟨[.int .i64 v1, .int .i64 v2], []⟩) := rfl
theorem spec_LengthOf_ev {α : Type} (n : Nat) (a : Int) (a1 : Int) (b_ : Int) (b_1 : Int) (κ : Res → Option α) : evFn Try.prog (spec_LengthOf_X n) Try.f34 (((buildDs spec_LengthOf_sh [.int a, .int a1, .int b_, .int b_1]).map Prod.fst).getD []) κ = spec_LengthOf_run n [.int a, .int a1, .int b_, .int b_1] κ := (spec_LengthOf_gen spec_l01Code spec_l01Length n a a1 b_ b_1 κ).trans ((spec_LengthOf_eq n a a1 b_ b_1 (fun v1 v2 => κ ⟨[.int .i64 v1, .int .i64 v2], []⟩)).trans ((spec_LengthOf_run.eq_1 n [.int a, .int a1, .int b_, .int b_1] κ).trans (spec_LengthOf_rn spec_LengthOf n a a1 b_ b_1 κ)).symm)
theorem spec_LengthOf_en (a : Int) (a1 : Int) (b_ : Int) (b_1 : Int) : (entry 0 (((buildDs spec_LengthOf_sh [.int a, .int a1, .int b_, .int b_1]).map Prod.fst).getD [])).map (fun x => (x.1.length, x.2.lent)) = some (2, []) := by kernel_rfl
theorem spec_LengthOf_good {α : Type} : ∀ n, GoodFn (α := α) Try.prog 34 (byShape spec_LengthOf_sh (spec_LengthOf_run n)) := by
  refine fn_good' Try.func34 (c := (Try.f34.body.getD .skip)) (by kernel_rfl) (by kernel_rfl) (by kernel_rfl) spec_LengthOf_C spec_LengthOf_M eqs spec_LengthOf_lps spec_LengthOf_jt (fun n => tabC_good (List.forall_mem_cons.2 ⟨(spec_l01Code_good n), (List.forall_mem_cons.2 ⟨(spec_l01Length_good n), (fun _ h => absurd h List.not_mem_nil)⟩)⟩)) eqs_ok spec_LengthOf_Lt ?_ ?_ spec_LengthOf_sh spec_LengthOf_run ?_
  · exact (fun _ h => absurd h List.not_mem_nil)
  · exact (fun _ h => absurd h List.not_mem_nil)
  · intro n p κ r ds hd hr
    have hr0 := hr
    unfold spec_LengthOf_run spec_LengthOf_runG at hr
    split at hr
    · rw [← ds_of hd]
      exact ⟨en_of (spec_LengthOf_en _ _ _ _) ⟨rfl, rfl⟩, (spec_LengthOf_ev n _ _ _ _ κ).trans hr0⟩
    · cases hr

end Go.Proofs.Ytglpddfibcikgaa
