/- The program's functions hold to their readings without memory: printed by a program of ours. -/
import Derived.Test.YthogaiiaplmbfaaSe1XAddPolygons
namespace Go.Proofs.Ythogaiiaplmbfaa
open Go Go.Ev Go.Sh Go.Proofs

/-! loop.example/g01297/laws.FnExactAddPolygons -/
abbrev h3_x {α : Type} (F0 : T42 α) (F1 : T15 α) (F2 : T43 α) (F3 : T43 α) (F4 : T44 α) (F5 : T45 α) (F6 : T46 α) (F7 : T47 α) (F8 : T47 α) (F9 : T10 α) (F10 : T42 α) (F11 : T10 α) : Nat → Ctx α := ctxS false M eqs jt0 [⟨4, S0, F0⟩, ⟨6, S2, F1⟩, ⟨5, S15, F2⟩, ⟨7, S15, F3⟩, ⟨8, S32, F4⟩, ⟨8, S33, F5⟩, ⟨9, S34, F6⟩, ⟨9, S35, F7⟩, ⟨10, S35, F8⟩, ⟨8, S36, F9⟩, ⟨10, S37, F10⟩, ⟨8, S38, F11⟩] []
def h3_b {α : Type} (F0 : T42 α) (F1 : T15 α) (F2 : T43 α) (F3 : T43 α) (F4 : T44 α) (F5 : T45 α) (F6 : T46 α) (F7 : T47 α) (F8 : T47 α) (F9 : T10 α) (F10 : T42 α) (F11 : T10 α) (k : Nat) (aA : List (Int × Int)) (aB : List (Int × Int)) (r0 : Bool → Option α) : Option α :=
  F0 k aA 1048576 fun v =>
  bif decide (v < 0) then
    r0 true
  else
    F0 k aB v fun v1 =>
    bif decide (v1 < 0) then
      r0 true
    else
      F1 k aA fun v2 =>
      F1 k aB fun v3 =>
      F2 k v2 v3
        (fun v4 =>
          F1 k aA fun v5 =>
          F1 k aB fun v6 =>
          F3 k v5 v6
            (fun v7 =>
              F4 k fun v8 =>
              bif (!v8) then
                r0 false
              else
              bif (!decide (v7 = v4)) then
                r0 false
              else
                F1 k aA fun v9 =>
                F5 k v5 v9 fun v10 =>
                bif (!v10) then
                  r0 false
                else
                  F1 k aB fun v11 =>
                  F5 k v6 v11 fun v12 =>
                  bif (!v12) then
                    r0 false
                  else
                    F6 k v5 1 fun v13 _ =>
                    F6 k v6 v13 fun v15 _ =>
                    bif decide (v15 < 0) then
                      r0 false
                    else
                      F4 k fun v17 =>
                      bif (!v17) then
                        r0 false
                      else
                      bif (!decide (v7 = v4)) then
                        r0 false
                      else
                        F7 k 1 fun v18 =>
                        F8 k 1 fun v19 =>
                        bif decide (v19 < 0) then
                          r0 false
                        else
                        bif (!decide (v19 = v18)) then
                          r0 false
                        else
                          F1 k aA fun v20 =>
                          F1 k aB fun v21 =>
                          F3 k v20 v21
                            (fun v22 =>
                              F4 k fun v23 =>
                              bif (!v23) then
                                r0 false
                              else
                              bif (!decide (v22 = v4)) then
                                r0 false
                              else
                                F8 k 1 fun v24 =>
                                bif decide (v24 < 0) then
                                  r0 false
                                else
                                bif (!decide (v24 = v18)) then
                                  r0 false
                                else
                                  r0 true)
                            (fun v25 v26 =>
                              F9 k v25 fun v27 =>
                              bif (!v27) then
                                r0 false
                              else
                              bif (!decide (v26 = v4)) then
                                r0 false
                              else
                                F8 k 1 fun v28 =>
                                bif decide (v28 < 0) then
                                  r0 false
                                else
                                bif (!decide (v28 = v18)) then
                                  r0 false
                                else
                                  r0 true))
            (fun v29 v30 =>
              F9 k v29 fun v31 =>
              bif (!v31) then
                r0 false
              else
              bif (!decide (v30 = v4)) then
                r0 false
              else
                F1 k aA fun v32 =>
                F5 k v5 v32 fun v33 =>
                bif (!v33) then
                  r0 false
                else
                  F1 k aB fun v34 =>
                  F5 k v6 v34 fun v35 =>
                  bif (!v35) then
                    r0 false
                  else
                    F6 k v5 1 fun v36 _ =>
                    F6 k v6 v36 fun v38 _ =>
                    bif decide (v38 < 0) then
                      r0 false
                    else
                      F9 k v29 fun v40 =>
                      bif (!v40) then
                        r0 false
                      else
                      bif (!decide (v30 = v4)) then
                        r0 false
                      else
                        F6 k v29 1 fun v41 v42 =>
                        F10 k v42 1 fun v43 =>
                        bif decide (v43 < 0) then
                          r0 false
                        else
                        bif (!decide (v43 = v41)) then
                          r0 false
                        else
                          F1 k aA fun v44 =>
                          F1 k aB fun v45 =>
                          F3 k v44 v45
                            (fun v46 =>
                              F4 k fun v47 =>
                              bif (!v47) then
                                r0 false
                              else
                              bif (!decide (v46 = v4)) then
                                r0 false
                              else
                                F10 k v42 1 fun v48 =>
                                bif decide (v48 < 0) then
                                  r0 false
                                else
                                bif (!decide (v48 = v41)) then
                                  r0 false
                                else
                                  r0 true)
                            (fun v49 v50 =>
                              F9 k v49 fun v51 =>
                              bif (!v51) then
                                r0 false
                              else
                              bif (!decide (v50 = v4)) then
                                r0 false
                              else
                                F10 k v42 1 fun v52 =>
                                bif decide (v52 < 0) then
                                  r0 false
                                else
                                bif (!decide (v52 = v41)) then
                                  r0 false
                                else
                                  r0 true)))
        (fun v53 v54 =>
          F1 k aA fun v55 =>
          F1 k aB fun v56 =>
          F3 k v55 v56
            (fun v57 =>
              F11 k v53 fun v58 =>
              bif (!v58) then
                r0 false
              else
              bif (!decide (v57 = v54)) then
                r0 false
              else
                F1 k aA fun v59 =>
                F5 k v55 v59 fun v60 =>
                bif (!v60) then
                  r0 false
                else
                  F1 k aB fun v61 =>
                  F5 k v56 v61 fun v62 =>
                  bif (!v62) then
                    r0 false
                  else
                    F6 k v55 1 fun v63 _ =>
                    F6 k v56 v63 fun v65 _ =>
                    bif decide (v65 < 0) then
                      r0 false
                    else
                      F11 k v53 fun v67 =>
                      bif (!v67) then
                        r0 false
                      else
                      bif (!decide (v57 = v54)) then
                        r0 false
                      else
                        F7 k 1 fun v68 =>
                        F8 k 1 fun v69 =>
                        bif decide (v69 < 0) then
                          r0 false
                        else
                        bif (!decide (v69 = v68)) then
                          r0 false
                        else
                          F1 k aA fun v70 =>
                          F1 k aB fun v71 =>
                          F3 k v70 v71
                            (fun v72 =>
                              F11 k v53 fun v73 =>
                              bif (!v73) then
                                r0 false
                              else
                              bif (!decide (v72 = v54)) then
                                r0 false
                              else
                                F8 k 1 fun v74 =>
                                bif decide (v74 < 0) then
                                  r0 false
                                else
                                bif (!decide (v74 = v68)) then
                                  r0 false
                                else
                                  r0 true)
                            (fun v75 v76 =>
                              F5 k v75 v53 fun v77 =>
                              bif (!v77) then
                                r0 false
                              else
                              bif (!decide (v76 = v54)) then
                                r0 false
                              else
                                F8 k 1 fun v78 =>
                                bif decide (v78 < 0) then
                                  r0 false
                                else
                                bif (!decide (v78 = v68)) then
                                  r0 false
                                else
                                  r0 true))
            (fun v79 v80 =>
              F5 k v79 v53 fun v81 =>
              bif (!v81) then
                r0 false
              else
              bif (!decide (v80 = v54)) then
                r0 false
              else
                F1 k aA fun v82 =>
                F5 k v55 v82 fun v83 =>
                bif (!v83) then
                  r0 false
                else
                  F1 k aB fun v84 =>
                  F5 k v56 v84 fun v85 =>
                  bif (!v85) then
                    r0 false
                  else
                    F6 k v55 1 fun v86 _ =>
                    F6 k v56 v86 fun v88 _ =>
                    bif decide (v88 < 0) then
                      r0 false
                    else
                      F5 k v79 v53 fun v90 =>
                      bif (!v90) then
                        r0 false
                      else
                      bif (!decide (v80 = v54)) then
                        r0 false
                      else
                        F6 k v79 1 fun v91 v92 =>
                        F10 k v92 1 fun v93 =>
                        bif decide (v93 < 0) then
                          r0 false
                        else
                        bif (!decide (v93 = v91)) then
                          r0 false
                        else
                          F1 k aA fun v94 =>
                          F1 k aB fun v95 =>
                          F3 k v94 v95
                            (fun v96 =>
                              F11 k v53 fun v97 =>
                              bif (!v97) then
                                r0 false
                              else
                              bif (!decide (v96 = v54)) then
                                r0 false
                              else
                                F10 k v92 1 fun v98 =>
                                bif decide (v98 < 0) then
                                  r0 false
                                else
                                bif (!decide (v98 = v91)) then
                                  r0 false
                                else
                                  r0 true)
                            (fun v99 v100 =>
                              F5 k v99 v53 fun v101 =>
                              bif (!v101) then
                                r0 false
                              else
                              bif (!decide (v100 = v54)) then
                                r0 false
                              else
                                F10 k v92 1 fun v102 =>
                                bif decide (v102 < 0) then
                                  r0 false
                                else
                                bif (!decide (v102 = v91)) then
                                  r0 false
                                else
                                  r0 true)))
theorem h3_g {α : Type} (F0 : T42 α) (F1 : T15 α) (F2 : T43 α) (F3 : T43 α) (F4 : T44 α) (F5 : T45 α) (F6 : T46 α) (F7 : T47 α) (F8 : T47 α) (F9 : T10 α) (F10 : T42 α) (F11 : T10 α) (n : Nat) : GenF (α := α) Try.prog Try.f3 S39 (h3_x F0 F1 F2 F3 F4 F5 F6 F7 F8 F9 F10 F11 n) n (h3_b F0 F1 F2 F3 F4 F5 F6 F7 F8 F9 F10 F11) := by intro _ _ _; kernel_rfl
theorem h3_good {α : Type} : ∀ n, GoodFn (α := α) Try.prog 3 (byShape S39.sh (callS S39 laws_FnExactAddPolygons n)) := good_of Try.func3 (by kernel_rfl) (by kernel_rfl) (by kernel_rfl) eqs_ok (fun n => h3_g laws_szPointS laws_toPointS spec_AddPolygons impl_AddPolygons laws_eqPointS_0N_1N laws_eqPointS laws_markPointS laws_markPointS_0N laws_heldPointS_0N laws_eqPointS_1N laws_heldPointS laws_eqPointS_0N n) (by delta h3_b laws_FnExactAddPolygons; rfl) (allC h4_good (allC h6_good (allC h5_good (allC h7_good (allC h8_good (allC h8a_good (allC h9_good (allC h9a_good (allC h10_good (allC h8b_good (allC h10a_good (allC h8c_good allN)))))))))))) allN

end Go.Proofs.Ythogaiiaplmbfaa
