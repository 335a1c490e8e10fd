/- The program's functions hold to their readings without memory: printed by a program of ours. -/
import Derived.Test.YtjekmhinmcniaaaSe2LPairs
namespace Go.Proofs.Ytjekmhinmcniaaa
open Go Go.Ev Go.Sh Go.Proofs

/-! loop.example/g01297/laws.FnPairs -/
def laws_FnPairs_sh : List SkD := [.sl 5 (.int .u8)]
def laws_FnPairs_runG {α : Type} (F : Nat → List Int → (Bool → Option α) → Option α) (n : Nat) (p : List P1) (κ : Res → Option α) : Option α := match p with
  | [.rows (.int .u8) code] => F n code (fun v1 => κ ⟨[.bool v1], []⟩)
  | _ => none
def laws_FnPairs_run {α : Type} (n : Nat) (p : List P1) (κ : Res → Option α) : Option α := laws_FnPairs_runG laws_FnPairs n p κ
def laws_FnPairs_CG {α : Type} (F0 : Nat → List Int → (Bool → Option α) → Option α) (F1 : Nat → List Int → (Int → Int → Int → Int → Option α) → Option α) (F2 : Nat → Int → Int → Int → Int → (Int → Option α) → ((List (Int × Int)) → Int → Option α) → Option α) (F3 : Nat → Int → Int → Int → Int → (Int → Option α) → ((List (Int × Int)) → Int → Option α) → Option α) (F4 : Nat → (Bool → Option α) → Option α) (F5 : Nat → List Int → (Int → Int → Int → Int → Option α) → Option α) (F6 : Nat → Int → Int → Int → Int → (Bool → Int → Option α) → Option α) (F7 : Nat → Int → Int → Int → Int → (Bool → Int → Option α) → Option α) (F8 : Nat → List Int → (Int → Int → Int → Int → Option α) → Option α) (F9 : Nat → Int → Int → Int → Int → (Int → Int → Option α) → Option α) (F10 : Nat → Int → Int → Int → Int → (Int → Int → Option α) → Option α) (F11 : Nat → List Int → (Int → Int → Option α) → Option α) (F12 : Nat → Int → Int → (Int → Int → Option α) → Option α) (F13 : Nat → Int → Int → (Int → Int → Option α) → Option α) (F14 : Nat → Int → Int → Int → Int → (Int → Int → Option α) → Option α) (F15 : Nat → (List (Int × Int)) → (Bool → Option α) → Option α) (F16 : Nat → (List (Int × Int)) → (Bool → Option α) → Option α) (F17 : Nat → Int → Int → (Bool → Option α) → Option α) (F18 : Nat → (List (Int × Int)) → (List (Int × Int)) → (Bool → Option α) → Option α) (n : Nat) : FuncId → List D → (Res → Option α) → Option α := tabC [(18, (byShape laws_big_sh (laws_big_runG F0 n))), (19, (byShape spec_DrawReducePair_sh (spec_DrawReducePair_runG F1 n))), (20, (byShape impl_ReducePair_sh (impl_ReducePair_runG F2 n))), (21, (byShape spec_ReducePair_sh (spec_ReducePair_runG F3 n))), (22, (orShape laws_points9_0N_1N_sh (laws_points9_0N_1N_runG F4 n) (orShape laws_points9_0N_sh (laws_points9_0N_runG F15 n) (orShape laws_points9_1N_sh (laws_points9_1N_runG F16 n) (byShape laws_points9_sh (laws_points9_runG F18 n)))))), (23, (byShape spec_DrawIsReducedPair_sh (spec_DrawIsReducedPair_runG F5 n))), (24, (byShape impl_IsReducedPair_sh (impl_IsReducedPair_runG F6 n))), (25, (byShape spec_IsReducedPair_sh (spec_IsReducedPair_runG F7 n))), (26, (byShape spec_DrawShortestNorm_sh (spec_DrawShortestNorm_runG F8 n))), (27, (byShape impl_ShortestNorm_sh (impl_ShortestNorm_runG F9 n))), (28, (byShape spec_ShortestNorm_sh (spec_ShortestNorm_runG F10 n))), (29, (byShape spec_DrawNormOf_sh (spec_DrawNormOf_runG F11 n))), (30, (byShape impl_NormOf_sh (impl_NormOf_runG F12 n))), (31, (byShape spec_NormOf_sh (spec_NormOf_runG F13 n))), (32, (byShape impl_DeterminantOf_sh (impl_DeterminantOf_runG F14 n))), (33, (byShape impl_IsPoint_sh (impl_IsPoint_runG F17 n)))]
def laws_FnPairs_C {α : Type} (n : Nat) : FuncId → List D → (Res → Option α) → Option α := laws_FnPairs_CG laws_big spec_DrawReducePair impl_ReducePair spec_ReducePair laws_points9_0N_1N spec_DrawIsReducedPair impl_IsReducedPair spec_IsReducedPair spec_DrawShortestNorm impl_ShortestNorm spec_ShortestNorm spec_DrawNormOf impl_NormOf spec_NormOf impl_DeterminantOf laws_points9_0N laws_points9_1N impl_IsPoint laws_points9 n
def laws_FnPairs_M : FuncId → List Nat := tabM []
def laws_FnPairs_lpsG {α : Type}  : List (LoopT α) := []
def laws_FnPairs_lps {α : Type} : List (LoopT α) := laws_FnPairs_lpsG
def laws_FnPairs_XG {α : Type} (F0 : Nat → List Int → (Bool → Option α) → Option α) (F1 : Nat → List Int → (Int → Int → Int → Int → Option α) → Option α) (F2 : Nat → Int → Int → Int → Int → (Int → Option α) → ((List (Int × Int)) → Int → Option α) → Option α) (F3 : Nat → Int → Int → Int → Int → (Int → Option α) → ((List (Int × Int)) → Int → Option α) → Option α) (F4 : Nat → (Bool → Option α) → Option α) (F5 : Nat → List Int → (Int → Int → Int → Int → Option α) → Option α) (F6 : Nat → Int → Int → Int → Int → (Bool → Int → Option α) → Option α) (F7 : Nat → Int → Int → Int → Int → (Bool → Int → Option α) → Option α) (F8 : Nat → List Int → (Int → Int → Int → Int → Option α) → Option α) (F9 : Nat → Int → Int → Int → Int → (Int → Int → Option α) → Option α) (F10 : Nat → Int → Int → Int → Int → (Int → Int → Option α) → Option α) (F11 : Nat → List Int → (Int → Int → Option α) → Option α) (F12 : Nat → Int → Int → (Int → Int → Option α) → Option α) (F13 : Nat → Int → Int → (Int → Int → Option α) → Option α) (F14 : Nat → Int → Int → Int → Int → (Int → Int → Option α) → Option α) (F15 : Nat → (List (Int × Int)) → (Bool → Option α) → Option α) (F16 : Nat → (List (Int × Int)) → (Bool → Option α) → Option α) (F17 : Nat → Int → Int → (Bool → Option α) → Option α) (F18 : Nat → (List (Int × Int)) → (List (Int × Int)) → (Bool → Option α) → Option α)  (n : Nat) : Ctx α := ⟨laws_FnPairs_CG F0 F1 F2 F3 F4 F5 F6 F7 F8 F9 F10 F11 F12 F13 F14 F15 F16 F17 F18 n, laws_FnPairs_M, eqs, lpOf (laws_FnPairs_lpsG) n⟩
def laws_FnPairs_X {α : Type} (n : Nat) : Ctx α := laws_FnPairs_XG laws_big spec_DrawReducePair impl_ReducePair spec_ReducePair laws_points9_0N_1N spec_DrawIsReducedPair impl_IsReducedPair spec_IsReducedPair spec_DrawShortestNorm impl_ShortestNorm spec_ShortestNorm spec_DrawNormOf impl_NormOf spec_NormOf impl_DeterminantOf laws_points9_0N laws_points9_1N impl_IsPoint laws_points9 n
def laws_FnPairs_Lt (np : Nat) (lent : List (Bool × Nat × Blk)) : Prop := np = 1 ∧ lent = []
def laws_FnPairs_body {α : Type} (F0 : Nat → List Int → (Bool → Option α) → Option α) (F1 : Nat → List Int → (Int → Int → Int → Int → Option α) → Option α) (F2 : Nat → Int → Int → Int → Int → (Int → Option α) → ((List (Int × Int)) → Int → Option α) → Option α) (F3 : Nat → Int → Int → Int → Int → (Int → Option α) → ((List (Int × Int)) → Int → Option α) → Option α) (F4 : Nat → (Bool → Option α) → Option α) (F5 : Nat → List Int → (Int → Int → Int → Int → Option α) → Option α) (F6 : Nat → Int → Int → Int → Int → (Bool → Int → Option α) → Option α) (F7 : Nat → Int → Int → Int → Int → (Bool → Int → Option α) → Option α) (F8 : Nat → List Int → (Int → Int → Int → Int → Option α) → Option α) (F9 : Nat → Int → Int → Int → Int → (Int → Int → Option α) → Option α) (F10 : Nat → Int → Int → Int → Int → (Int → Int → Option α) → Option α) (F11 : Nat → List Int → (Int → Int → Option α) → Option α) (F12 : Nat → Int → Int → (Int → Int → Option α) → Option α) (F13 : Nat → Int → Int → (Int → Int → Option α) → Option α) (F14 : Nat → Int → Int → Int → Int → (Int → Int → Option α) → Option α) (F15 : Nat → (List (Int × Int)) → (Bool → Option α) → Option α) (F16 : Nat → (List (Int × Int)) → (Bool → Option α) → Option α) (F17 : Nat → Int → Int → (Bool → Option α) → Option α) (F18 : Nat → (List (Int × Int)) → (List (Int × Int)) → (Bool → Option α) → Option α)  (k : Nat) (code : List Int) (r0 : Bool → Option α) : Option α :=
  F0 k code fun v =>
  bif v then
    r0 true
  else
    F1 k code fun v1 v2 v3 v4 =>
    F2 k v1 v2 v3 v4
      (fun v5 =>
        F3 k v1 v2 v3 v4
          (fun v6 =>
            bif (!decide (v5 = v6)) then
              r0 false
            else
              F4 k fun v7 =>
              bif (!v7) then
                r0 false
              else
                F5 k code fun v8 v9 v10 v11 =>
                F6 k v8 v9 v10 v11 fun v12 v13 =>
                F7 k v8 v9 v10 v11 fun v14 v15 =>
                bif (!decide (v13 = v15)) then
                  r0 false
                else
                bif (!(v12 == v14)) then
                  r0 false
                else
                  F8 k code fun v16 v17 v18 v19 =>
                  F9 k v16 v17 v18 v19 fun v20 v21 =>
                  F10 k v16 v17 v18 v19 fun v22 v23 =>
                  bif (!decide (v21 = v23)) then
                    r0 false
                  else
                  bif (!decide (v20 = v22)) then
                    r0 false
                  else
                    F11 k code fun v24 v25 =>
                    F12 k v24 v25 fun v26 v27 =>
                    F13 k v24 v25 fun v28 v29 =>
                    bif (!decide (v27 = v29)) then
                      r0 false
                    else
                    bif (!decide (v26 = v28)) then
                      r0 false
                    else
                    bif decide (v21 = 0) then
                      F12 k v16 v17 fun v30 v31 =>
                      F12 k v18 v19 fun v32 v33 =>
                      bif (!decide (v31 = 0)) then
                        r0 false
                      else
                      bif (!decide (v33 = 0)) then
                        r0 false
                      else
                      bif decide (v20 < 1) then
                        r0 false
                      else
                      bif decide (v30 < v20) then
                        r0 false
                      else
                      bif decide (v32 < v20) then
                        r0 false
                      else
                      bif (!decide (v5 = 0)) then
                        r0 true
                      else
                        F14 k v1 v2 v3 v4 fun v34 v35 =>
                        none
                    else
                    bif (!decide (v5 = 0)) then
                      r0 true
                    else
                      F14 k v1 v2 v3 v4 fun v36 v37 =>
                      none)
          (fun v38 v39 =>
            bif (!decide (v5 = v39)) then
              r0 false
            else
              F15 k v38 fun v40 =>
              bif (!v40) then
                r0 false
              else
                F5 k code fun v41 v42 v43 v44 =>
                F6 k v41 v42 v43 v44 fun v45 v46 =>
                F7 k v41 v42 v43 v44 fun v47 v48 =>
                bif (!decide (v46 = v48)) then
                  r0 false
                else
                bif (!(v45 == v47)) then
                  r0 false
                else
                  F8 k code fun v49 v50 v51 v52 =>
                  F9 k v49 v50 v51 v52 fun v53 v54 =>
                  F10 k v49 v50 v51 v52 fun v55 v56 =>
                  bif (!decide (v54 = v56)) then
                    r0 false
                  else
                  bif (!decide (v53 = v55)) then
                    r0 false
                  else
                    F11 k code fun v57 v58 =>
                    F12 k v57 v58 fun v59 v60 =>
                    F13 k v57 v58 fun v61 v62 =>
                    bif (!decide (v60 = v62)) then
                      r0 false
                    else
                    bif (!decide (v59 = v61)) then
                      r0 false
                    else
                    bif decide (v54 = 0) then
                      F12 k v49 v50 fun v63 v64 =>
                      F12 k v51 v52 fun v65 v66 =>
                      bif (!decide (v64 = 0)) then
                        r0 false
                      else
                      bif (!decide (v66 = 0)) then
                        r0 false
                      else
                      bif decide (v53 < 1) then
                        r0 false
                      else
                      bif decide (v63 < v53) then
                        r0 false
                      else
                      bif decide (v65 < v53) then
                        r0 false
                      else
                      bif (!decide (v5 = 0)) then
                        r0 true
                      else
                        F14 k v1 v2 v3 v4 fun v67 v68 =>
                        none
                    else
                    bif (!decide (v5 = 0)) then
                      r0 true
                    else
                      F14 k v1 v2 v3 v4 fun v69 v70 =>
                      none))
      (fun v71 v72 =>
        F3 k v1 v2 v3 v4
          (fun v73 =>
            bif (!decide (v72 = v73)) then
              r0 false
            else
              F16 k v71 fun v74 =>
              bif (!v74) then
                r0 false
              else
                F5 k code fun v75 v76 v77 v78 =>
                F6 k v75 v76 v77 v78 fun v79 v80 =>
                F7 k v75 v76 v77 v78 fun v81 v82 =>
                bif (!decide (v80 = v82)) then
                  r0 false
                else
                bif (!(v79 == v81)) then
                  r0 false
                else
                  F8 k code fun v83 v84 v85 v86 =>
                  F9 k v83 v84 v85 v86 fun v87 v88 =>
                  F10 k v83 v84 v85 v86 fun v89 v90 =>
                  bif (!decide (v88 = v90)) then
                    r0 false
                  else
                  bif (!decide (v87 = v89)) then
                    r0 false
                  else
                    F11 k code fun v91 v92 =>
                    F12 k v91 v92 fun v93 v94 =>
                    F13 k v91 v92 fun v95 v96 =>
                    bif (!decide (v94 = v96)) then
                      r0 false
                    else
                    bif (!decide (v93 = v95)) then
                      r0 false
                    else
                    bif decide (v88 = 0) then
                      F12 k v83 v84 fun v97 v98 =>
                      F12 k v85 v86 fun v99 v100 =>
                      bif (!decide (v98 = 0)) then
                        r0 false
                      else
                      bif (!decide (v100 = 0)) then
                        r0 false
                      else
                      bif decide (v87 < 1) then
                        r0 false
                      else
                      bif decide (v97 < v87) then
                        r0 false
                      else
                      bif decide (v99 < v87) then
                        r0 false
                      else
                      bif (!decide (v72 = 0)) then
                        r0 (decide ((((List.length v71) : Nat) : Int) = 0))
                      else
                        F14 k v1 v2 v3 v4 fun v101 v102 =>
                        bif (true && decide (0 < (((List.length v71) : Nat) : Int))) then
                          (v71[0]?).bind fun e_ =>
                          bif (true && decide (1 < (((List.length v71) : Nat) : Int))) then
                            (v71[1]?).bind fun e_1 =>
                            F14 k e_.1 e_.2 e_1.1 e_1.2 fun v103 v104 =>
                            bif (true && decide (0 < (((List.length v71) : Nat) : Int))) then
                              (v71[0]?).bind fun e_2 =>
                              bif (true && decide (1 < (((List.length v71) : Nat) : Int))) then
                                (v71[1]?).bind fun e_3 =>
                                F6 k e_2.1 e_2.2 e_3.1 e_3.2 fun v105 v106 =>
                                bif (true && decide (0 < (((List.length v71) : Nat) : Int))) then
                                  (v71[0]?).bind fun e_4 =>
                                  F17 k e_4.1 e_4.2 fun v107 =>
                                  bif (!v107) then
                                    bif decide (v102 = 0) then
                                      bif decide (v104 = 1) then
                                        r0 (decide (v106 = 1))
                                      else
                                        r0 false
                                    else
                                      r0 false
                                  else
                                  bif (true && decide (1 < (((List.length v71) : Nat) : Int))) then
                                    (v71[1]?).bind fun e_5 =>
                                    F17 k e_5.1 e_5.2 fun v108 =>
                                    bif (!v108) then
                                      bif decide (v102 = 0) then
                                        bif decide (v104 = 1) then
                                          r0 (decide (v106 = 1))
                                        else
                                          r0 false
                                      else
                                        r0 false
                                    else
                                    bif decide (v102 = 0) then
                                      bif decide (v104 = 0) then
                                        bif decide ((max v101 (w64 (0 - v101))) = (max v103 (w64 (0 - v103)))) then
                                          bif decide (v106 = 0) then
                                            r0 v105
                                          else
                                            r0 false
                                        else
                                          r0 false
                                      else
                                        r0 false
                                    else
                                      r0 false
                                  else
                                    none
                                else
                                  none
                              else
                                none
                            else
                              none
                          else
                            none
                        else
                          none
                    else
                    bif (!decide (v72 = 0)) then
                      r0 (decide ((((List.length v71) : Nat) : Int) = 0))
                    else
                      F14 k v1 v2 v3 v4 fun v109 v110 =>
                      bif (true && decide (0 < (((List.length v71) : Nat) : Int))) then
                        (v71[0]?).bind fun e_6 =>
                        bif (true && decide (1 < (((List.length v71) : Nat) : Int))) then
                          (v71[1]?).bind fun e_7 =>
                          F14 k e_6.1 e_6.2 e_7.1 e_7.2 fun v111 v112 =>
                          bif (true && decide (0 < (((List.length v71) : Nat) : Int))) then
                            (v71[0]?).bind fun e_8 =>
                            bif (true && decide (1 < (((List.length v71) : Nat) : Int))) then
                              (v71[1]?).bind fun e_9 =>
                              F6 k e_8.1 e_8.2 e_9.1 e_9.2 fun v113 v114 =>
                              bif (true && decide (0 < (((List.length v71) : Nat) : Int))) then
                                (v71[0]?).bind fun e_10 =>
                                F17 k e_10.1 e_10.2 fun v115 =>
                                bif (!v115) then
                                  bif decide (v110 = 0) then
                                    bif decide (v112 = 1) then
                                      r0 (decide (v114 = 1))
                                    else
                                      r0 false
                                  else
                                    r0 false
                                else
                                bif (true && decide (1 < (((List.length v71) : Nat) : Int))) then
                                  (v71[1]?).bind fun e_11 =>
                                  F17 k e_11.1 e_11.2 fun v116 =>
                                  bif (!v116) then
                                    bif decide (v110 = 0) then
                                      bif decide (v112 = 1) then
                                        r0 (decide (v114 = 1))
                                      else
                                        r0 false
                                    else
                                      r0 false
                                  else
                                  bif decide (v110 = 0) then
                                    bif decide (v112 = 0) then
                                      bif decide ((max v109 (w64 (0 - v109))) = (max v111 (w64 (0 - v111)))) then
                                        bif decide (v114 = 0) then
                                          r0 v113
                                        else
                                          r0 false
                                      else
                                        r0 false
                                    else
                                      r0 false
                                  else
                                    r0 false
                                else
                                  none
                              else
                                none
                            else
                              none
                          else
                            none
                        else
                          none
                      else
                        none)
          (fun v117 v118 =>
            bif (!decide (v72 = v118)) then
              r0 false
            else
              F18 k v71 v117 fun v119 =>
              bif (!v119) then
                r0 false
              else
                F5 k code fun v120 v121 v122 v123 =>
                F6 k v120 v121 v122 v123 fun v124 v125 =>
                F7 k v120 v121 v122 v123 fun v126 v127 =>
                bif (!decide (v125 = v127)) then
                  r0 false
                else
                bif (!(v124 == v126)) then
                  r0 false
                else
                  F8 k code fun v128 v129 v130 v131 =>
                  F9 k v128 v129 v130 v131 fun v132 v133 =>
                  F10 k v128 v129 v130 v131 fun v134 v135 =>
                  bif (!decide (v133 = v135)) then
                    r0 false
                  else
                  bif (!decide (v132 = v134)) then
                    r0 false
                  else
                    F11 k code fun v136 v137 =>
                    F12 k v136 v137 fun v138 v139 =>
                    F13 k v136 v137 fun v140 v141 =>
                    bif (!decide (v139 = v141)) then
                      r0 false
                    else
                    bif (!decide (v138 = v140)) then
                      r0 false
                    else
                    bif decide (v133 = 0) then
                      F12 k v128 v129 fun v142 v143 =>
                      F12 k v130 v131 fun v144 v145 =>
                      bif (!decide (v143 = 0)) then
                        r0 false
                      else
                      bif (!decide (v145 = 0)) then
                        r0 false
                      else
                      bif decide (v132 < 1) then
                        r0 false
                      else
                      bif decide (v142 < v132) then
                        r0 false
                      else
                      bif decide (v144 < v132) then
                        r0 false
                      else
                      bif (!decide (v72 = 0)) then
                        r0 (decide ((((List.length v71) : Nat) : Int) = 0))
                      else
                        F14 k v1 v2 v3 v4 fun v146 v147 =>
                        bif (true && decide (0 < (((List.length v71) : Nat) : Int))) then
                          (v71[0]?).bind fun e_12 =>
                          bif (true && decide (1 < (((List.length v71) : Nat) : Int))) then
                            (v71[1]?).bind fun e_13 =>
                            F14 k e_12.1 e_12.2 e_13.1 e_13.2 fun v148 v149 =>
                            bif (true && decide (0 < (((List.length v71) : Nat) : Int))) then
                              (v71[0]?).bind fun e_14 =>
                              bif (true && decide (1 < (((List.length v71) : Nat) : Int))) then
                                (v71[1]?).bind fun e_15 =>
                                F6 k e_14.1 e_14.2 e_15.1 e_15.2 fun v150 v151 =>
                                bif (true && decide (0 < (((List.length v71) : Nat) : Int))) then
                                  (v71[0]?).bind fun e_16 =>
                                  F17 k e_16.1 e_16.2 fun v152 =>
                                  bif (!v152) then
                                    bif decide (v147 = 0) then
                                      bif decide (v149 = 1) then
                                        r0 (decide (v151 = 1))
                                      else
                                        r0 false
                                    else
                                      r0 false
                                  else
                                  bif (true && decide (1 < (((List.length v71) : Nat) : Int))) then
                                    (v71[1]?).bind fun e_17 =>
                                    F17 k e_17.1 e_17.2 fun v153 =>
                                    bif (!v153) then
                                      bif decide (v147 = 0) then
                                        bif decide (v149 = 1) then
                                          r0 (decide (v151 = 1))
                                        else
                                          r0 false
                                      else
                                        r0 false
                                    else
                                    bif decide (v147 = 0) then
                                      bif decide (v149 = 0) then
                                        bif decide ((max v146 (w64 (0 - v146))) = (max v148 (w64 (0 - v148)))) then
                                          bif decide (v151 = 0) then
                                            r0 v150
                                          else
                                            r0 false
                                        else
                                          r0 false
                                      else
                                        r0 false
                                    else
                                      r0 false
                                  else
                                    none
                                else
                                  none
                              else
                                none
                            else
                              none
                          else
                            none
                        else
                          none
                    else
                    bif (!decide (v72 = 0)) then
                      r0 (decide ((((List.length v71) : Nat) : Int) = 0))
                    else
                      F14 k v1 v2 v3 v4 fun v154 v155 =>
                      bif (true && decide (0 < (((List.length v71) : Nat) : Int))) then
                        (v71[0]?).bind fun e_18 =>
                        bif (true && decide (1 < (((List.length v71) : Nat) : Int))) then
                          (v71[1]?).bind fun e_19 =>
                          F14 k e_18.1 e_18.2 e_19.1 e_19.2 fun v156 v157 =>
                          bif (true && decide (0 < (((List.length v71) : Nat) : Int))) then
                            (v71[0]?).bind fun e_20 =>
                            bif (true && decide (1 < (((List.length v71) : Nat) : Int))) then
                              (v71[1]?).bind fun e_21 =>
                              F6 k e_20.1 e_20.2 e_21.1 e_21.2 fun v158 v159 =>
                              bif (true && decide (0 < (((List.length v71) : Nat) : Int))) then
                                (v71[0]?).bind fun e_22 =>
                                F17 k e_22.1 e_22.2 fun v160 =>
                                bif (!v160) then
                                  bif decide (v155 = 0) then
                                    bif decide (v157 = 1) then
                                      r0 (decide (v159 = 1))
                                    else
                                      r0 false
                                  else
                                    r0 false
                                else
                                bif (true && decide (1 < (((List.length v71) : Nat) : Int))) then
                                  (v71[1]?).bind fun e_23 =>
                                  F17 k e_23.1 e_23.2 fun v161 =>
                                  bif (!v161) then
                                    bif decide (v155 = 0) then
                                      bif decide (v157 = 1) then
                                        r0 (decide (v159 = 1))
                                      else
                                        r0 false
                                    else
                                      r0 false
                                  else
                                  bif decide (v155 = 0) then
                                    bif decide (v157 = 0) then
                                      bif decide ((max v154 (w64 (0 - v154))) = (max v156 (w64 (0 - v156)))) then
                                        bif decide (v159 = 0) then
                                          r0 v158
                                        else
                                          r0 false
                                      else
                                        r0 false
                                    else
                                      r0 false
                                  else
                                    r0 false
                                else
                                  none
                              else
                                none
                            else
                              none
                          else
                            none
                        else
                          none
                      else
                        none))
theorem laws_FnPairs_gen {α : Type} (F0 : Nat → List Int → (Bool → Option α) → Option α) (F1 : Nat → List Int → (Int → Int → Int → Int → Option α) → Option α) (F2 : Nat → Int → Int → Int → Int → (Int → Option α) → ((List (Int × Int)) → Int → Option α) → Option α) (F3 : Nat → Int → Int → Int → Int → (Int → Option α) → ((List (Int × Int)) → Int → Option α) → Option α) (F4 : Nat → (Bool → Option α) → Option α) (F5 : Nat → List Int → (Int → Int → Int → Int → Option α) → Option α) (F6 : Nat → Int → Int → Int → Int → (Bool → Int → Option α) → Option α) (F7 : Nat → Int → Int → Int → Int → (Bool → Int → Option α) → Option α) (F8 : Nat → List Int → (Int → Int → Int → Int → Option α) → Option α) (F9 : Nat → Int → Int → Int → Int → (Int → Int → Option α) → Option α) (F10 : Nat → Int → Int → Int → Int → (Int → Int → Option α) → Option α) (F11 : Nat → List Int → (Int → Int → Option α) → Option α) (F12 : Nat → Int → Int → (Int → Int → Option α) → Option α) (F13 : Nat → Int → Int → (Int → Int → Option α) → Option α) (F14 : Nat → Int → Int → Int → Int → (Int → Int → Option α) → Option α) (F15 : Nat → (List (Int × Int)) → (Bool → Option α) → Option α) (F16 : Nat → (List (Int × Int)) → (Bool → Option α) → Option α) (F17 : Nat → Int → Int → (Bool → Option α) → Option α) (F18 : Nat → (List (Int × Int)) → (List (Int × Int)) → (Bool → Option α) → Option α)  (n : Nat) (code : List Int) (κ : Res → Option α) : evFn Try.prog (laws_FnPairs_XG F0 F1 F2 F3 F4 F5 F6 F7 F8 F9 F10 F11 F12 F13 F14 F15 F16 F17 F18 n) Try.f4 (((buildDs laws_FnPairs_sh [.rows (.int .u8) code]).map Prod.fst).getD []) κ = laws_FnPairs_body F0 F1 F2 F3 F4 F5 F6 F7 F8 F9 F10 F11 F12 F13 F14 F15 F16 F17 F18 n code (fun v1 => κ ⟨[.bool v1], []⟩) := by kernel_rfl
theorem laws_FnPairs_eq {α : Type} (n : Nat) (code : List Int) (r0 : Bool → Option α) : laws_FnPairs_body laws_big spec_DrawReducePair impl_ReducePair spec_ReducePair laws_points9_0N_1N spec_DrawIsReducedPair impl_IsReducedPair spec_IsReducedPair spec_DrawShortestNorm impl_ShortestNorm spec_ShortestNorm spec_DrawNormOf impl_NormOf spec_NormOf impl_DeterminantOf laws_points9_0N laws_points9_1N impl_IsPoint laws_points9 n code r0 = laws_FnPairs n code r0 := (laws_FnPairs_body.eq_1 laws_big spec_DrawReducePair impl_ReducePair spec_ReducePair laws_points9_0N_1N spec_DrawIsReducedPair impl_IsReducedPair spec_IsReducedPair spec_DrawShortestNorm impl_ShortestNorm spec_ShortestNorm spec_DrawNormOf impl_NormOf spec_NormOf impl_DeterminantOf laws_points9_0N laws_points9_1N impl_IsPoint laws_points9 n code r0).trans (laws_FnPairs.eq_1 n code r0).symm
theorem laws_FnPairs_rn {α : Type} (F : Nat → List Int → (Bool → Option α) → Option α) (n : Nat) (code : List Int) (κ : Res → Option α) : laws_FnPairs_runG F n [.rows (.int .u8) code] κ = F n code (fun v1 => κ ⟨[.bool v1], []⟩) := rfl
theorem laws_FnPairs_ev {α : Type} (n : Nat) (code : List Int) (κ : Res → Option α) : evFn Try.prog (laws_FnPairs_X n) Try.f4 (((buildDs laws_FnPairs_sh [.rows (.int .u8) code]).map Prod.fst).getD []) κ = laws_FnPairs_run n [.rows (.int .u8) code] κ := (laws_FnPairs_gen laws_big spec_DrawReducePair impl_ReducePair spec_ReducePair laws_points9_0N_1N spec_DrawIsReducedPair impl_IsReducedPair spec_IsReducedPair spec_DrawShortestNorm impl_ShortestNorm spec_ShortestNorm spec_DrawNormOf impl_NormOf spec_NormOf impl_DeterminantOf laws_points9_0N laws_points9_1N impl_IsPoint laws_points9 n code κ).trans ((laws_FnPairs_eq n code (fun v1 => κ ⟨[.bool v1], []⟩)).trans ((laws_FnPairs_run.eq_1 n [.rows (.int .u8) code] κ).trans (laws_FnPairs_rn laws_FnPairs n code κ)).symm)
theorem laws_FnPairs_en (code : List Int) : (entry 0 (((buildDs laws_FnPairs_sh [.rows (.int .u8) code]).map Prod.fst).getD [])).map (fun x => (x.1.length, x.2.lent)) = some (1, []) := by kernel_rfl
theorem laws_FnPairs_good {α : Type} : ∀ n, GoodFn (α := α) Try.prog 4 (byShape laws_FnPairs_sh (laws_FnPairs_run n)) := by
  refine fn_good' Try.func4 (c := (Try.f4.body.getD .skip)) (by kernel_rfl) (by kernel_rfl) (by kernel_rfl) laws_FnPairs_C laws_FnPairs_M eqs laws_FnPairs_lps (fun n => tabC_good (List.forall_mem_cons.2 ⟨(laws_big_good n), (List.forall_mem_cons.2 ⟨(spec_DrawReducePair_good n), (List.forall_mem_cons.2 ⟨(impl_ReducePair_good n), (List.forall_mem_cons.2 ⟨(spec_ReducePair_good n), (List.forall_mem_cons.2 ⟨(or_good (laws_points9_0N_1N_good n) (or_good (laws_points9_0N_good n) (or_good (laws_points9_1N_good n) (laws_points9_good n)))), (List.forall_mem_cons.2 ⟨(spec_DrawIsReducedPair_good n), (List.forall_mem_cons.2 ⟨(impl_IsReducedPair_good n), (List.forall_mem_cons.2 ⟨(spec_IsReducedPair_good n), (List.forall_mem_cons.2 ⟨(spec_DrawShortestNorm_good n), (List.forall_mem_cons.2 ⟨(impl_ShortestNorm_good n), (List.forall_mem_cons.2 ⟨(spec_ShortestNorm_good n), (List.forall_mem_cons.2 ⟨(spec_DrawNormOf_good n), (List.forall_mem_cons.2 ⟨(impl_NormOf_good n), (List.forall_mem_cons.2 ⟨(spec_NormOf_good n), (List.forall_mem_cons.2 ⟨(impl_DeterminantOf_good n), (List.forall_mem_cons.2 ⟨(impl_IsPoint_good n), (fun _ h => absurd h List.not_mem_nil)⟩)⟩)⟩)⟩)⟩)⟩)⟩)⟩)⟩)⟩)⟩)⟩)⟩)⟩)⟩)⟩)) eqs_ok laws_FnPairs_Lt ?_ ?_ laws_FnPairs_sh laws_FnPairs_run ?_
  · exact (fun _ h => absurd h List.not_mem_nil)
  · exact (fun _ h => absurd h List.not_mem_nil)
  · intro n p κ r ds hd hr
    have hr0 := hr
    unfold laws_FnPairs_run laws_FnPairs_runG at hr
    split at hr
    · rw [← ds_of hd]
      exact ⟨en_of (laws_FnPairs_en _) ⟨rfl, rfl⟩, (laws_FnPairs_ev n _ κ).trans hr0⟩
    · cases hr

end Go.Proofs.Ytjekmhinmcniaaa
