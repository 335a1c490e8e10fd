/- The program's functions hold to their readings without memory: printed by a program of ours. -/
import Derived.Test.YtfoblndfgolncaaSe1XHullOf
namespace Go.Proofs.Ytfoblndfgolncaa
open Go Go.Ev Go.Sh Go.Proofs

/-! loop.example/g01297/laws.FnExactHullOf -/
abbrev h3_x {α : Type} (F0 : T39 α) (F1 : T16 α) (F2 : T18 α) (F3 : T18 α) (F4 : T40 α) (F5 : T41 α) (F6 : T42 α) (F7 : T43 α) (F8 : T43 α) (F9 : T17 α) (F10 : T39 α) (F11 : T17 α) : Nat → Ctx α := ctxS false M eqs jt0 [⟨4, S0, F0⟩, ⟨6, S2, F1⟩, ⟨5, S14, F2⟩, ⟨7, S14, F3⟩, ⟨8, S33, F4⟩, ⟨8, S34, F5⟩, ⟨9, S35, F6⟩, ⟨9, S36, F7⟩, ⟨10, S36, F8⟩, ⟨8, S37, F9⟩, ⟨10, S38, F10⟩, ⟨8, S39, F11⟩] []
def h3_b {α : Type} (F0 : T39 α) (F1 : T16 α) (F2 : T18 α) (F3 : T18 α) (F4 : T40 α) (F5 : T41 α) (F6 : T42 α) (F7 : T43 α) (F8 : T43 α) (F9 : T17 α) (F10 : T39 α) (F11 : T17 α) (k : Nat) (aList : List (Int × Int)) (r0 : Bool → Option α) : Option α :=
  F0 k aList 1048576 fun v =>
  bif decide (v < 0) then
    r0 true
  else
    F1 k aList fun v1 =>
    F2 k v1
      (fun v2 =>
        F1 k aList fun v3 =>
        F3 k v3
          (fun v4 =>
            F4 k fun v5 =>
            bif (!v5) then
              r0 false
            else
            bif (!decide (v4 = v2)) then
              r0 false
            else
              F1 k aList fun v6 =>
              F5 k v3 v6 fun v7 =>
              bif (!v7) then
                r0 false
              else
                F6 k v3 1 fun v8 _ =>
                bif decide (v8 < 0) then
                  r0 false
                else
                  F4 k fun v10 =>
                  bif (!v10) then
                    r0 false
                  else
                  bif (!decide (v4 = v2)) then
                    r0 false
                  else
                    F7 k 1 fun v11 =>
                    F8 k 1 fun v12 =>
                    bif decide (v12 < 0) then
                      r0 false
                    else
                    bif (!decide (v12 = v11)) then
                      r0 false
                    else
                      F1 k aList fun v13 =>
                      F3 k v13
                        (fun v14 =>
                          F4 k fun v15 =>
                          bif (!v15) then
                            r0 false
                          else
                          bif (!decide (v14 = v2)) then
                            r0 false
                          else
                            F8 k 1 fun v16 =>
                            bif decide (v16 < 0) then
                              r0 false
                            else
                            bif (!decide (v16 = v11)) then
                              r0 false
                            else
                              r0 true)
                        (fun v17 v18 =>
                          F9 k v17 fun v19 =>
                          bif (!v19) then
                            r0 false
                          else
                          bif (!decide (v18 = v2)) then
                            r0 false
                          else
                            F8 k 1 fun v20 =>
                            bif decide (v20 < 0) then
                              r0 false
                            else
                            bif (!decide (v20 = v11)) then
                              r0 false
                            else
                              r0 true))
          (fun v21 v22 =>
            F9 k v21 fun v23 =>
            bif (!v23) then
              r0 false
            else
            bif (!decide (v22 = v2)) then
              r0 false
            else
              F1 k aList fun v24 =>
              F5 k v3 v24 fun v25 =>
              bif (!v25) then
                r0 false
              else
                F6 k v3 1 fun v26 _ =>
                bif decide (v26 < 0) then
                  r0 false
                else
                  F9 k v21 fun v28 =>
                  bif (!v28) then
                    r0 false
                  else
                  bif (!decide (v22 = v2)) then
                    r0 false
                  else
                    F6 k v21 1 fun v29 v30 =>
                    F10 k v30 1 fun v31 =>
                    bif decide (v31 < 0) then
                      r0 false
                    else
                    bif (!decide (v31 = v29)) then
                      r0 false
                    else
                      F1 k aList fun v32 =>
                      F3 k v32
                        (fun v33 =>
                          F4 k fun v34 =>
                          bif (!v34) then
                            r0 false
                          else
                          bif (!decide (v33 = v2)) then
                            r0 false
                          else
                            F10 k v30 1 fun v35 =>
                            bif decide (v35 < 0) then
                              r0 false
                            else
                            bif (!decide (v35 = v29)) then
                              r0 false
                            else
                              r0 true)
                        (fun v36 v37 =>
                          F9 k v36 fun v38 =>
                          bif (!v38) then
                            r0 false
                          else
                          bif (!decide (v37 = v2)) then
                            r0 false
                          else
                            F10 k v30 1 fun v39 =>
                            bif decide (v39 < 0) then
                              r0 false
                            else
                            bif (!decide (v39 = v29)) then
                              r0 false
                            else
                              r0 true)))
      (fun v40 v41 =>
        F1 k aList fun v42 =>
        F3 k v42
          (fun v43 =>
            F11 k v40 fun v44 =>
            bif (!v44) then
              r0 false
            else
            bif (!decide (v43 = v41)) then
              r0 false
            else
              F1 k aList fun v45 =>
              F5 k v42 v45 fun v46 =>
              bif (!v46) then
                r0 false
              else
                F6 k v42 1 fun v47 _ =>
                bif decide (v47 < 0) then
                  r0 false
                else
                  F11 k v40 fun v49 =>
                  bif (!v49) then
                    r0 false
                  else
                  bif (!decide (v43 = v41)) then
                    r0 false
                  else
                    F7 k 1 fun v50 =>
                    F8 k 1 fun v51 =>
                    bif decide (v51 < 0) then
                      r0 false
                    else
                    bif (!decide (v51 = v50)) then
                      r0 false
                    else
                      F1 k aList fun v52 =>
                      F3 k v52
                        (fun v53 =>
                          F11 k v40 fun v54 =>
                          bif (!v54) then
                            r0 false
                          else
                          bif (!decide (v53 = v41)) then
                            r0 false
                          else
                            F8 k 1 fun v55 =>
                            bif decide (v55 < 0) then
                              r0 false
                            else
                            bif (!decide (v55 = v50)) then
                              r0 false
                            else
                              r0 true)
                        (fun v56 v57 =>
                          F5 k v56 v40 fun v58 =>
                          bif (!v58) then
                            r0 false
                          else
                          bif (!decide (v57 = v41)) then
                            r0 false
                          else
                            F8 k 1 fun v59 =>
                            bif decide (v59 < 0) then
                              r0 false
                            else
                            bif (!decide (v59 = v50)) then
                              r0 false
                            else
                              r0 true))
          (fun v60 v61 =>
            F5 k v60 v40 fun v62 =>
            bif (!v62) then
              r0 false
            else
            bif (!decide (v61 = v41)) then
              r0 false
            else
              F1 k aList fun v63 =>
              F5 k v42 v63 fun v64 =>
              bif (!v64) then
                r0 false
              else
                F6 k v42 1 fun v65 _ =>
                bif decide (v65 < 0) then
                  r0 false
                else
                  F5 k v60 v40 fun v67 =>
                  bif (!v67) then
                    r0 false
                  else
                  bif (!decide (v61 = v41)) then
                    r0 false
                  else
                    F6 k v60 1 fun v68 v69 =>
                    F10 k v69 1 fun v70 =>
                    bif decide (v70 < 0) then
                      r0 false
                    else
                    bif (!decide (v70 = v68)) then
                      r0 false
                    else
                      F1 k aList fun v71 =>
                      F3 k v71
                        (fun v72 =>
                          F11 k v40 fun v73 =>
                          bif (!v73) then
                            r0 false
                          else
                          bif (!decide (v72 = v41)) then
                            r0 false
                          else
                            F10 k v69 1 fun v74 =>
                            bif decide (v74 < 0) then
                              r0 false
                            else
                            bif (!decide (v74 = v68)) then
                              r0 false
                            else
                              r0 true)
                        (fun v75 v76 =>
                          F5 k v75 v40 fun v77 =>
                          bif (!v77) then
                            r0 false
                          else
                          bif (!decide (v76 = v41)) then
                            r0 false
                          else
                            F10 k v69 1 fun v78 =>
                            bif decide (v78 < 0) then
                              r0 false
                            else
                            bif (!decide (v78 = v68)) then
                              r0 false
                            else
                              r0 true)))
theorem h3_g {α : Type} (F0 : T39 α) (F1 : T16 α) (F2 : T18 α) (F3 : T18 α) (F4 : T40 α) (F5 : T41 α) (F6 : T42 α) (F7 : T43 α) (F8 : T43 α) (F9 : T17 α) (F10 : T39 α) (F11 : T17 α) (n : Nat) : GenF (α := α) Try.prog Try.f3 S40 (h3_x F0 F1 F2 F3 F4 F5 F6 F7 F8 F9 F10 F11 n) n (h3_b F0 F1 F2 F3 F4 F5 F6 F7 F8 F9 F10 F11) := by intro _ _; kernel_rfl
theorem h3_good {α : Type} : ∀ n, GoodFn (α := α) Try.prog 3 (byShape S40.sh (callS S40 laws_FnExactHullOf n)) := good_of Try.func3 (by kernel_rfl) (by kernel_rfl) (by kernel_rfl) eqs_ok (fun n => h3_g laws_szPointS laws_toPointS spec_HullOf impl_HullOf laws_eqPointS_0N_1N laws_eqPointS laws_markPointS laws_markPointS_0N laws_heldPointS_0N laws_eqPointS_1N laws_heldPointS laws_eqPointS_0N n) (by delta h3_b laws_FnExactHullOf; rfl) (allC h4_good (allC h6_good (allC h5_good (allC h7_good (allC h8_good (allC h8a_good (allC h9_good (allC h9a_good (allC h10_good (allC h8b_good (allC h10a_good (allC h8c_good allN)))))))))))) allN

end Go.Proofs.Ytfoblndfgolncaa
