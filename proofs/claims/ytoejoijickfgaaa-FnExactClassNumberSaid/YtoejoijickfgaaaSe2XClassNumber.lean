/- The program's functions hold to their readings without memory: printed by a program of ours. -/
import Derived.Test.YtoejoijickfgaaaSe1XClassNumber
namespace Go.Proofs.Ytoejoijickfgaaa
open Go Go.Ev Go.Sh Go.Proofs

/-! loop.example/g01297/laws.FnExactClassNumber -/
abbrev h3_x {α : Type} (F0 : T25 α) (F1 : T25 α) : Nat → Ctx α := ctxS false M eqs jt0 [⟨4, S9, F0⟩, ⟨5, S9, F1⟩] []
def h3_b {α : Type} (F0 : T25 α) (F1 : T25 α) (k : Nat) (aD : Int) (r0 : Bool → Option α) : Option α :=
  F0 k aD fun v v1 =>
  F1 k aD fun v2 v3 =>
  bif (!decide (v2 = v)) then
    r0 false
  else
  bif (!decide (v3 = v1)) then
    r0 false
  else
    r0 true
theorem h3_g {α : Type} (F0 : T25 α) (F1 : T25 α) (n : Nat) : GenF (α := α) Try.prog Try.f3 S10 (h3_x F0 F1 n) n (h3_b F0 F1) := by intro _ _; kernel_rfl
theorem h3_good {α : Type} : ∀ n, GoodFn (α := α) Try.prog 3 (byShape S10.sh (callS S10 laws_FnExactClassNumber n)) := good_of Try.func3 (by kernel_rfl) (by kernel_rfl) (by kernel_rfl) eqs_ok (fun n => h3_g spec_ClassNumber impl_ClassNumber n) (by delta h3_b laws_FnExactClassNumber; rfl) (allC h4_good (allC h5_good allN)) allN

end Go.Proofs.Ytoejoijickfgaaa
