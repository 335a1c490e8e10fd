/- The program's functions hold to their readings without memory: printed by a program of ours. -/
import Derived.Test.YtbhejffnpemdhaaSe1XOrderOfMultiples
namespace Go.Proofs.Ytbhejffnpemdhaa
open Go Go.Ev Go.Sh Go.Proofs

/-! loop.example/g01297/laws.FnExactOrderOfMultiples -/
abbrev h3_x {α : Type} (F0 : T22 α) (F1 : T22 α) (F2 : T23 α) (F3 : T24 α) (F4 : T24 α) (F5 : T25 α) (F6 : T26 α) (F7 : T27 α) (F8 : T25 α) (F9 : T28 α) : Nat → Ctx α := ctxS false M eqs jt0 [⟨4, S5, F0⟩, ⟨5, S5, F1⟩, ⟨6, S12, F2⟩, ⟨7, S13, F3⟩, ⟨8, S13, F4⟩, ⟨6, S14, F5⟩, ⟨7, S15, F6⟩, ⟨8, S16, F7⟩, ⟨6, S17, F8⟩, ⟨6, S18, F9⟩] []
def h3_b {α : Type} (F0 : T22 α) (F1 : T22 α) (F2 : T23 α) (F3 : T24 α) (F4 : T24 α) (F5 : T25 α) (F6 : T26 α) (F7 : T27 α) (F8 : T25 α) (F9 : T28 α) (k : Nat) (aP : Int) (aQ : Int) (aN : Int) (r0 : Bool → Option α) : Option α :=
  F0 k aP aQ aN
    (fun v =>
      F1 k aP aQ aN
        (fun v1 =>
          F2 k fun v2 =>
          bif (!v2) then
            r0 false
          else
          bif (!decide (v1 = v)) then
            r0 false
          else
            F3 k 1 fun v3 =>
            F4 k 1 fun v4 =>
            bif decide (v4 < 0) then
              r0 false
            else
            bif (!decide (v4 = v3)) then
              r0 false
            else
              F1 k aP aQ aN
                (fun v5 =>
                  F2 k fun v6 =>
                  bif (!v6) then
                    r0 false
                  else
                  bif (!decide (v5 = v)) then
                    r0 false
                  else
                    F4 k 1 fun v7 =>
                    bif decide (v7 < 0) then
                      r0 false
                    else
                    bif (!decide (v7 = v3)) then
                      r0 false
                    else
                      r0 true)
                (fun v8 v9 =>
                  F5 k v8 fun v10 =>
                  bif (!v10) then
                    r0 false
                  else
                  bif (!decide (v9 = v)) then
                    r0 false
                  else
                    F4 k 1 fun v11 =>
                    bif decide (v11 < 0) then
                      r0 false
                    else
                    bif (!decide (v11 = v3)) then
                      r0 false
                    else
                      r0 true))
        (fun v12 v13 =>
          F5 k v12 fun v14 =>
          bif (!v14) then
            r0 false
          else
          bif (!decide (v13 = v)) then
            r0 false
          else
            F6 k v12 1 fun v15 v16 =>
            F7 k v16 1 fun v17 =>
            bif decide (v17 < 0) then
              r0 false
            else
            bif (!decide (v17 = v15)) then
              r0 false
            else
              F1 k aP aQ aN
                (fun v18 =>
                  F2 k fun v19 =>
                  bif (!v19) then
                    r0 false
                  else
                  bif (!decide (v18 = v)) then
                    r0 false
                  else
                    F7 k v16 1 fun v20 =>
                    bif decide (v20 < 0) then
                      r0 false
                    else
                    bif (!decide (v20 = v15)) then
                      r0 false
                    else
                      r0 true)
                (fun v21 v22 =>
                  F5 k v21 fun v23 =>
                  bif (!v23) then
                    r0 false
                  else
                  bif (!decide (v22 = v)) then
                    r0 false
                  else
                    F7 k v16 1 fun v24 =>
                    bif decide (v24 < 0) then
                      r0 false
                    else
                    bif (!decide (v24 = v15)) then
                      r0 false
                    else
                      r0 true)))
    (fun v25 v26 =>
      F1 k aP aQ aN
        (fun v27 =>
          F8 k v25 fun v28 =>
          bif (!v28) then
            r0 false
          else
          bif (!decide (v27 = v26)) then
            r0 false
          else
            F3 k 1 fun v29 =>
            F4 k 1 fun v30 =>
            bif decide (v30 < 0) then
              r0 false
            else
            bif (!decide (v30 = v29)) then
              r0 false
            else
              F1 k aP aQ aN
                (fun v31 =>
                  F8 k v25 fun v32 =>
                  bif (!v32) then
                    r0 false
                  else
                  bif (!decide (v31 = v26)) then
                    r0 false
                  else
                    F4 k 1 fun v33 =>
                    bif decide (v33 < 0) then
                      r0 false
                    else
                    bif (!decide (v33 = v29)) then
                      r0 false
                    else
                      r0 true)
                (fun v34 v35 =>
                  F9 k v34 v25 fun v36 =>
                  bif (!v36) then
                    r0 false
                  else
                  bif (!decide (v35 = v26)) then
                    r0 false
                  else
                    F4 k 1 fun v37 =>
                    bif decide (v37 < 0) then
                      r0 false
                    else
                    bif (!decide (v37 = v29)) then
                      r0 false
                    else
                      r0 true))
        (fun v38 v39 =>
          F9 k v38 v25 fun v40 =>
          bif (!v40) then
            r0 false
          else
          bif (!decide (v39 = v26)) then
            r0 false
          else
            F6 k v38 1 fun v41 v42 =>
            F7 k v42 1 fun v43 =>
            bif decide (v43 < 0) then
              r0 false
            else
            bif (!decide (v43 = v41)) then
              r0 false
            else
              F1 k aP aQ aN
                (fun v44 =>
                  F8 k v25 fun v45 =>
                  bif (!v45) then
                    r0 false
                  else
                  bif (!decide (v44 = v26)) then
                    r0 false
                  else
                    F7 k v42 1 fun v46 =>
                    bif decide (v46 < 0) then
                      r0 false
                    else
                    bif (!decide (v46 = v41)) then
                      r0 false
                    else
                      r0 true)
                (fun v47 v48 =>
                  F9 k v47 v25 fun v49 =>
                  bif (!v49) then
                    r0 false
                  else
                  bif (!decide (v48 = v26)) then
                    r0 false
                  else
                    F7 k v42 1 fun v50 =>
                    bif decide (v50 < 0) then
                      r0 false
                    else
                    bif (!decide (v50 = v41)) then
                      r0 false
                    else
                      r0 true)))
theorem h3_g {α : Type} (F0 : T22 α) (F1 : T22 α) (F2 : T23 α) (F3 : T24 α) (F4 : T24 α) (F5 : T25 α) (F6 : T26 α) (F7 : T27 α) (F8 : T25 α) (F9 : T28 α) (n : Nat) : GenF (α := α) Try.prog Try.f3 S0 (h3_x F0 F1 F2 F3 F4 F5 F6 F7 F8 F9 n) n (h3_b F0 F1 F2 F3 F4 F5 F6 F7 F8 F9) := by intro _ _ _ _; kernel_rfl
theorem h3_good {α : Type} : ∀ n, GoodFn (α := α) Try.prog 3 (byShape S0.sh (callS S0 laws_FnExactOrderOfMultiples n)) := good_of Try.func3 (by kernel_rfl) (by kernel_rfl) (by kernel_rfl) eqs_ok (fun n => h3_g spec_OrderOfMultiples impl_OrderOfMultiples laws_eqInt64S_0N_1N laws_markInt64S_0N laws_heldInt64S_0N laws_eqInt64S_1N laws_markInt64S laws_heldInt64S laws_eqInt64S_0N laws_eqInt64S n) (by delta h3_b laws_FnExactOrderOfMultiples; rfl) (allC h4_good (allC h5_good (allC h6_good (allC h7_good (allC h8_good (allC h6a_good (allC h7a_good (allC h8a_good (allC h6b_good (allC h6c_good allN)))))))))) allN

end Go.Proofs.Ytbhejffnpemdhaa
