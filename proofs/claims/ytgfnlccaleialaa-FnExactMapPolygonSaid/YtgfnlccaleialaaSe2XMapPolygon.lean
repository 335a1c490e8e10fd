/- The program's functions hold to their readings without memory: printed by a program of ours. -/
import Derived.Test.YtgfnlccaleialaaSe1XMapPolygon
namespace Go.Proofs.Ytgfnlccaleialaa
open Go Go.Ev Go.Sh Go.Proofs

/-! loop.example/g01297/laws.FnExactMapPolygon -/
abbrev h3_x {α : Type} (F0 : T42 α) (F1 : T43 α) (F2 : T16 α) (F3 : T0 α) (F4 : T44 α) (F5 : T44 α) (F6 : T45 α) (F7 : T46 α) (F8 : T47 α) (F9 : T24 α) (F10 : T24 α) (F11 : T14 α) (F12 : T42 α) (F13 : T14 α) : Nat → Ctx α := ctxS false M eqs jt0 [⟨4, S0, F0⟩, ⟨6, S2, F1⟩, ⟨7, S3, F2⟩, ⟨8, S1, F3⟩, ⟨5, S17, F4⟩, ⟨9, S17, F5⟩, ⟨10, S40, F6⟩, ⟨10, S41, F7⟩, ⟨11, S42, F8⟩, ⟨11, S43, F9⟩, ⟨12, S43, F10⟩, ⟨10, S44, F11⟩, ⟨12, S45, F12⟩, ⟨10, S46, F13⟩] []
def h3_b {α : Type} (F0 : T42 α) (F1 : T43 α) (F2 : T16 α) (F3 : T0 α) (F4 : T44 α) (F5 : T44 α) (F6 : T45 α) (F7 : T46 α) (F8 : T47 α) (F9 : T24 α) (F10 : T24 α) (F11 : T14 α) (F12 : T42 α) (F13 : T14 α) (k : Nat) (aM : Int) (aM1 : Int) (aM2 : Int) (aM3 : Int) (aList : List (Int × Int)) (aB : Int) (aB1 : Int) (r0 : Bool → Option α) : Option α :=
  F0 k aList 1048576 fun v =>
  bif decide (v < 0) then
    r0 true
  else
    F1 k aM aM1 aM2 aM3 fun v1 v2 v3 v4 =>
    F2 k aList fun v5 =>
    F3 k aB aB1 fun v6 v7 =>
    F4 k v1 v2 v3 v4 v5 v6 v7
      (fun v8 =>
        F2 k aList fun v9 =>
        F1 k aM aM1 aM2 aM3 fun v10 v11 v12 v13 =>
        F3 k aB aB1 fun v14 v15 =>
        F5 k v10 v11 v12 v13 v9 v14 v15
          (fun v16 =>
            F6 k fun v17 =>
            bif (!v17) then
              r0 false
            else
            bif (!decide (v16 = v8)) then
              r0 false
            else
              F2 k aList fun v18 =>
              F7 k v9 v18 fun v19 =>
              bif (!v19) then
                r0 false
              else
                F8 k v9 1 fun v20 _ =>
                bif decide (v20 < 0) then
                  r0 false
                else
                  F6 k fun v22 =>
                  bif (!v22) then
                    r0 false
                  else
                  bif (!decide (v16 = v8)) then
                    r0 false
                  else
                    F9 k 1 fun v23 =>
                    F10 k 1 fun v24 =>
                    bif decide (v24 < 0) then
                      r0 false
                    else
                    bif (!decide (v24 = v23)) then
                      r0 false
                    else
                      F1 k aM aM1 aM2 aM3 fun v25 v26 v27 v28 =>
                      F2 k aList fun v29 =>
                      F3 k aB aB1 fun v30 v31 =>
                      F5 k v25 v26 v27 v28 v29 v30 v31
                        (fun v32 =>
                          F6 k fun v33 =>
                          bif (!v33) then
                            r0 false
                          else
                          bif (!decide (v32 = v8)) then
                            r0 false
                          else
                            F10 k 1 fun v34 =>
                            bif decide (v34 < 0) then
                              r0 false
                            else
                            bif (!decide (v34 = v23)) then
                              r0 false
                            else
                              r0 true)
                        (fun v35 v36 =>
                          F11 k v35 fun v37 =>
                          bif (!v37) then
                            r0 false
                          else
                          bif (!decide (v36 = v8)) then
                            r0 false
                          else
                            F10 k 1 fun v38 =>
                            bif decide (v38 < 0) then
                              r0 false
                            else
                            bif (!decide (v38 = v23)) then
                              r0 false
                            else
                              r0 true))
          (fun v39 v40 =>
            F11 k v39 fun v41 =>
            bif (!v41) then
              r0 false
            else
            bif (!decide (v40 = v8)) then
              r0 false
            else
              F2 k aList fun v42 =>
              F7 k v9 v42 fun v43 =>
              bif (!v43) then
                r0 false
              else
                F8 k v9 1 fun v44 _ =>
                bif decide (v44 < 0) then
                  r0 false
                else
                  F11 k v39 fun v46 =>
                  bif (!v46) then
                    r0 false
                  else
                  bif (!decide (v40 = v8)) then
                    r0 false
                  else
                    F8 k v39 1 fun v47 v48 =>
                    F12 k v48 1 fun v49 =>
                    bif decide (v49 < 0) then
                      r0 false
                    else
                    bif (!decide (v49 = v47)) then
                      r0 false
                    else
                      F1 k aM aM1 aM2 aM3 fun v50 v51 v52 v53 =>
                      F2 k aList fun v54 =>
                      F3 k aB aB1 fun v55 v56 =>
                      F5 k v50 v51 v52 v53 v54 v55 v56
                        (fun v57 =>
                          F6 k fun v58 =>
                          bif (!v58) then
                            r0 false
                          else
                          bif (!decide (v57 = v8)) then
                            r0 false
                          else
                            F12 k v48 1 fun v59 =>
                            bif decide (v59 < 0) then
                              r0 false
                            else
                            bif (!decide (v59 = v47)) then
                              r0 false
                            else
                              r0 true)
                        (fun v60 v61 =>
                          F11 k v60 fun v62 =>
                          bif (!v62) then
                            r0 false
                          else
                          bif (!decide (v61 = v8)) then
                            r0 false
                          else
                            F12 k v48 1 fun v63 =>
                            bif decide (v63 < 0) then
                              r0 false
                            else
                            bif (!decide (v63 = v47)) then
                              r0 false
                            else
                              r0 true)))
      (fun v64 v65 =>
        F2 k aList fun v66 =>
        F1 k aM aM1 aM2 aM3 fun v67 v68 v69 v70 =>
        F3 k aB aB1 fun v71 v72 =>
        F5 k v67 v68 v69 v70 v66 v71 v72
          (fun v73 =>
            F13 k v64 fun v74 =>
            bif (!v74) then
              r0 false
            else
            bif (!decide (v73 = v65)) then
              r0 false
            else
              F2 k aList fun v75 =>
              F7 k v66 v75 fun v76 =>
              bif (!v76) then
                r0 false
              else
                F8 k v66 1 fun v77 _ =>
                bif decide (v77 < 0) then
                  r0 false
                else
                  F13 k v64 fun v79 =>
                  bif (!v79) then
                    r0 false
                  else
                  bif (!decide (v73 = v65)) then
                    r0 false
                  else
                    F9 k 1 fun v80 =>
                    F10 k 1 fun v81 =>
                    bif decide (v81 < 0) then
                      r0 false
                    else
                    bif (!decide (v81 = v80)) then
                      r0 false
                    else
                      F1 k aM aM1 aM2 aM3 fun v82 v83 v84 v85 =>
                      F2 k aList fun v86 =>
                      F3 k aB aB1 fun v87 v88 =>
                      F5 k v82 v83 v84 v85 v86 v87 v88
                        (fun v89 =>
                          F13 k v64 fun v90 =>
                          bif (!v90) then
                            r0 false
                          else
                          bif (!decide (v89 = v65)) then
                            r0 false
                          else
                            F10 k 1 fun v91 =>
                            bif decide (v91 < 0) then
                              r0 false
                            else
                            bif (!decide (v91 = v80)) then
                              r0 false
                            else
                              r0 true)
                        (fun v92 v93 =>
                          F7 k v92 v64 fun v94 =>
                          bif (!v94) then
                            r0 false
                          else
                          bif (!decide (v93 = v65)) then
                            r0 false
                          else
                            F10 k 1 fun v95 =>
                            bif decide (v95 < 0) then
                              r0 false
                            else
                            bif (!decide (v95 = v80)) then
                              r0 false
                            else
                              r0 true))
          (fun v96 v97 =>
            F7 k v96 v64 fun v98 =>
            bif (!v98) then
              r0 false
            else
            bif (!decide (v97 = v65)) then
              r0 false
            else
              F2 k aList fun v99 =>
              F7 k v66 v99 fun v100 =>
              bif (!v100) then
                r0 false
              else
                F8 k v66 1 fun v101 _ =>
                bif decide (v101 < 0) then
                  r0 false
                else
                  F7 k v96 v64 fun v103 =>
                  bif (!v103) then
                    r0 false
                  else
                  bif (!decide (v97 = v65)) then
                    r0 false
                  else
                    F8 k v96 1 fun v104 v105 =>
                    F12 k v105 1 fun v106 =>
                    bif decide (v106 < 0) then
                      r0 false
                    else
                    bif (!decide (v106 = v104)) then
                      r0 false
                    else
                      F1 k aM aM1 aM2 aM3 fun v107 v108 v109 v110 =>
                      F2 k aList fun v111 =>
                      F3 k aB aB1 fun v112 v113 =>
                      F5 k v107 v108 v109 v110 v111 v112 v113
                        (fun v114 =>
                          F13 k v64 fun v115 =>
                          bif (!v115) then
                            r0 false
                          else
                          bif (!decide (v114 = v65)) then
                            r0 false
                          else
                            F12 k v105 1 fun v116 =>
                            bif decide (v116 < 0) then
                              r0 false
                            else
                            bif (!decide (v116 = v104)) then
                              r0 false
                            else
                              r0 true)
                        (fun v117 v118 =>
                          F7 k v117 v64 fun v119 =>
                          bif (!v119) then
                            r0 false
                          else
                          bif (!decide (v118 = v65)) then
                            r0 false
                          else
                            F12 k v105 1 fun v120 =>
                            bif decide (v120 < 0) then
                              r0 false
                            else
                            bif (!decide (v120 = v104)) then
                              r0 false
                            else
                              r0 true)))
theorem h3_g {α : Type} (F0 : T42 α) (F1 : T43 α) (F2 : T16 α) (F3 : T0 α) (F4 : T44 α) (F5 : T44 α) (F6 : T45 α) (F7 : T46 α) (F8 : T47 α) (F9 : T24 α) (F10 : T24 α) (F11 : T14 α) (F12 : T42 α) (F13 : T14 α) (n : Nat) : GenF (α := α) Try.prog Try.f3 S47 (h3_x F0 F1 F2 F3 F4 F5 F6 F7 F8 F9 F10 F11 F12 F13 n) n (h3_b F0 F1 F2 F3 F4 F5 F6 F7 F8 F9 F10 F11 F12 F13) := by intro _ _ _ _ _ _ _ _; kernel_rfl
theorem h3_good {α : Type} : ∀ n, GoodFn (α := α) Try.prog 3 (byShape S47.sh (callS S47 laws_FnExactMapPolygon n)) := good_of Try.func3 (by kernel_rfl) (by kernel_rfl) (by kernel_rfl) eqs_ok (fun n => h3_g laws_szPointS laws_toMatrix laws_toPointS laws_toPoint spec_MapPolygon impl_MapPolygon laws_eqPointS_0N_1N laws_eqPointS laws_markPointS laws_markPointS_0N laws_heldPointS_0N laws_eqPointS_1N laws_heldPointS laws_eqPointS_0N n) (by delta h3_b laws_FnExactMapPolygon; rfl) (allC h4_good (allC h6_good (allC h7_good (allC h8_good (allC h5_good (allC h9_good (allC h10_good (allC h10a_good (allC h11_good (allC h11a_good (allC h12_good (allC h10b_good (allC h12a_good (allC h10c_good allN)))))))))))))) allN

end Go.Proofs.Ytgfnlccaleialaa
