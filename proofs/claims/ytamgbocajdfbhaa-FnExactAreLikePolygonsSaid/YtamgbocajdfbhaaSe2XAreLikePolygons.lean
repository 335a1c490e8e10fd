/- The program's functions hold to their readings without memory: printed by a program of ours. -/
import Derived.Test.YtamgbocajdfbhaaSe1XAreLikePolygons
namespace Go.Proofs.Ytamgbocajdfbhaa
open Go Go.Ev Go.Sh Go.Proofs

/-! loop.example/g01297/laws.FnExactAreLikePolygons -/
abbrev h3_x {α : Type} (F0 : T48 α) (F1 : T19 α) (F2 : T49 α) (F3 : T49 α) (F4 : T20 α) : Nat → Ctx α := ctxS M eqs jt0 [⟨4, S0, F0⟩, ⟨6, S2, F1⟩, ⟨5, S20, F2⟩, ⟨7, S20, F3⟩, ⟨8, S17, F4⟩] []
def h3_b {α : Type} (F0 : T48 α) (F1 : T19 α) (F2 : T49 α) (F3 : T49 α) (F4 : T20 α) (k : Nat) (aA : List (Int × Int)) (aB : List (Int × Int)) (r0 : Bool → Option α) : Option α :=
  F0 k aA 1048576 fun v =>
  bif decide (v < 0) then
    r0 true
  else
    F0 k aB v fun v1 =>
    bif decide (v1 < 0) then
      r0 true
    else
      F1 k aA fun v2 =>
      F1 k aB fun v3 =>
      F2 k v2 v3 fun v4 v5 =>
      F1 k aA fun v6 =>
      F1 k aB fun v7 =>
      F3 k v6 v7 fun v8 v9 =>
      bif (!(v8 == v4)) then
        r0 false
      else
      bif (!decide (v9 = v5)) then
        r0 false
      else
        F1 k aA fun v10 =>
        F4 k v6 v10 fun v11 =>
        bif (!v11) then
          r0 false
        else
          F1 k aB fun v12 =>
          F4 k v7 v12 fun v13 =>
          bif (!v13) then
            r0 false
          else
            r0 true
theorem h3_g {α : Type} (F0 : T48 α) (F1 : T19 α) (F2 : T49 α) (F3 : T49 α) (F4 : T20 α) (n : Nat) : GenF (α := α) Try.prog Try.f3 S41 (h3_x F0 F1 F2 F3 F4 n) n (h3_b F0 F1 F2 F3 F4) := by intro _ _ _; kernel_rfl
theorem h3_good {α : Type} : ∀ n, GoodFn (α := α) Try.prog 3 (byShape S41.sh (callS S41 laws_FnExactAreLikePolygons n)) := good_of Try.func3 (by kernel_rfl) (by kernel_rfl) (by kernel_rfl) eqs_ok (fun n => h3_g laws_szPointS laws_toPointS spec_AreLikePolygons impl_AreLikePolygons laws_eqPointS n) (by delta h3_b laws_FnExactAreLikePolygons; rfl) (allC h4_good (allC h6_good (allC h5_good (allC h7_good (allC h8_good allN))))) allN

end Go.Proofs.Ytamgbocajdfbhaa
