/- The program's functions hold to their readings without memory: printed by a program of ours. -/
import Derived.Test.YthgajnmmeibpiaaSe2XOrderPolygon
namespace Go.Proofs.Ythgajnmmeibpiaa
open Go Go.Ev Go.Sh Go.Proofs

/-! loop.example/g01297/laws.FnExactOrderPolygon -/
def laws_FnExactOrderPolygon_sh : List SkD := [.sl 33 .pt]
def laws_FnExactOrderPolygon_runG {α : Type} (F : T10 α) (n : Nat) (p : List P1) (κ : Res → Option α) : Option α := match p with
  | [.rows .pt aList] => F n aList (fun v1 => κ ⟨[.bool v1], []⟩)
  | _ => none
def laws_FnExactOrderPolygon_run {α : Type} (n : Nat) (p : List P1) (κ : Res → Option α) : Option α := laws_FnExactOrderPolygon_runG laws_FnExactOrderPolygon n p κ
def laws_FnExactOrderPolygon_CG {α : Type} (F0 : T0 α) (F1 : T2 α) (F2 : T13 α) (F3 : T13 α) (F4 : T21 α) (F5 : T22 α) (F6 : T23 α) (F7 : T24 α) (F8 : T24 α) (F9 : T10 α) (F10 : T0 α) (F11 : T10 α) (n : Nat) : FuncId → List D → (Res → Option α) → Option α := tabC [(4, (byShape laws_szPointS_sh (laws_szPointS_runG F0 n))), (6, (byShape laws_toPointS_sh (laws_toPointS_runG F1 n))), (5, (byShape spec_OrderPolygon_sh (spec_OrderPolygon_runG F2 n))), (7, (byShape impl_OrderPolygon_sh (impl_OrderPolygon_runG F3 n))), (8, (orShape laws_eqPointS_0N_1N_sh (laws_eqPointS_0N_1N_runG F4 n) (orShape laws_eqPointS_sh (laws_eqPointS_runG F5 n) (orShape laws_eqPointS_1N_sh (laws_eqPointS_1N_runG F9 n) (byShape laws_eqPointS_0N_sh (laws_eqPointS_0N_runG F11 n)))))), (9, (orShape laws_markPointS_sh (laws_markPointS_runG F6 n) (byShape laws_markPointS_0N_sh (laws_markPointS_0N_runG F7 n)))), (10, (orShape laws_heldPointS_0N_sh (laws_heldPointS_0N_runG F8 n) (byShape laws_heldPointS_sh (laws_heldPointS_runG F10 n))))]
def laws_FnExactOrderPolygon_C {α : Type} (n : Nat) : FuncId → List D → (Res → Option α) → Option α := laws_FnExactOrderPolygon_CG laws_szPointS laws_toPointS spec_OrderPolygon impl_OrderPolygon laws_eqPointS_0N_1N laws_eqPointS laws_markPointS laws_markPointS_0N laws_heldPointS_0N laws_eqPointS_1N laws_heldPointS laws_eqPointS_0N n
def laws_FnExactOrderPolygon_M : FuncId → List Nat := tabM [(9, [1])]
def laws_FnExactOrderPolygon_lpsG {α : Type}  : List (LoopT α) := []
def laws_FnExactOrderPolygon_lps {α : Type} : List (LoopT α) := laws_FnExactOrderPolygon_lpsG
def laws_FnExactOrderPolygon_jt : Nat → Option Tpl := jtOf []
def laws_FnExactOrderPolygon_XG {α : Type} (F0 : T0 α) (F1 : T2 α) (F2 : T13 α) (F3 : T13 α) (F4 : T21 α) (F5 : T22 α) (F6 : T23 α) (F7 : T24 α) (F8 : T24 α) (F9 : T10 α) (F10 : T0 α) (F11 : T10 α)  (n : Nat) : Ctx α := ⟨laws_FnExactOrderPolygon_CG F0 F1 F2 F3 F4 F5 F6 F7 F8 F9 F10 F11 n, laws_FnExactOrderPolygon_M, eqs, lpOf (laws_FnExactOrderPolygon_lpsG) n, laws_FnExactOrderPolygon_jt⟩
def laws_FnExactOrderPolygon_X {α : Type} (n : Nat) : Ctx α := laws_FnExactOrderPolygon_XG laws_szPointS laws_toPointS spec_OrderPolygon impl_OrderPolygon laws_eqPointS_0N_1N laws_eqPointS laws_markPointS laws_markPointS_0N laws_heldPointS_0N laws_eqPointS_1N laws_heldPointS laws_eqPointS_0N n
def laws_FnExactOrderPolygon_Lt (np : Nat) (lent : List (Bool × Nat × Blk)) : Prop := np = 1 ∧ lent = []
def laws_FnExactOrderPolygon_body {α : Type} (F0 : T0 α) (F1 : T2 α) (F2 : T13 α) (F3 : T13 α) (F4 : T21 α) (F5 : T22 α) (F6 : T23 α) (F7 : T24 α) (F8 : T24 α) (F9 : T10 α) (F10 : T0 α) (F11 : T10 α)  (k : Nat) (aList : List (Int × Int)) (r0 : Bool → Option α) : Option α :=
  F0 k aList 1048576 fun v =>
  bif decide (v < 0) then
    r0 true
  else
    F1 k aList fun v1 =>
    F2 k v1
      (fun v2 =>
        F1 k aList fun v3 =>
        F3 k v3
          (fun v4 =>
            F4 k fun v5 =>
            bif (!v5) then
              r0 false
            else
            bif (!decide (v4 = v2)) then
              r0 false
            else
              F1 k aList fun v6 =>
              F5 k v3 v6 fun v7 =>
              bif (!v7) then
                r0 false
              else
                F6 k v3 1 fun v8 _ =>
                bif decide (v8 < 0) then
                  r0 false
                else
                  F4 k fun v10 =>
                  bif (!v10) then
                    r0 false
                  else
                  bif (!decide (v4 = v2)) then
                    r0 false
                  else
                    F7 k 1 fun v11 =>
                    F8 k 1 fun v12 =>
                    bif decide (v12 < 0) then
                      r0 false
                    else
                    bif (!decide (v12 = v11)) then
                      r0 false
                    else
                      F1 k aList fun v13 =>
                      F3 k v13
                        (fun v14 =>
                          F4 k fun v15 =>
                          bif (!v15) then
                            r0 false
                          else
                          bif (!decide (v14 = v2)) then
                            r0 false
                          else
                            F8 k 1 fun v16 =>
                            bif decide (v16 < 0) then
                              r0 false
                            else
                            bif (!decide (v16 = v11)) then
                              r0 false
                            else
                              r0 true)
                        (fun v17 v18 =>
                          F9 k v17 fun v19 =>
                          bif (!v19) then
                            r0 false
                          else
                          bif (!decide (v18 = v2)) then
                            r0 false
                          else
                            F8 k 1 fun v20 =>
                            bif decide (v20 < 0) then
                              r0 false
                            else
                            bif (!decide (v20 = v11)) then
                              r0 false
                            else
                              r0 true))
          (fun v21 v22 =>
            F9 k v21 fun v23 =>
            bif (!v23) then
              r0 false
            else
            bif (!decide (v22 = v2)) then
              r0 false
            else
              F1 k aList fun v24 =>
              F5 k v3 v24 fun v25 =>
              bif (!v25) then
                r0 false
              else
                F6 k v3 1 fun v26 _ =>
                bif decide (v26 < 0) then
                  r0 false
                else
                  F9 k v21 fun v28 =>
                  bif (!v28) then
                    r0 false
                  else
                  bif (!decide (v22 = v2)) then
                    r0 false
                  else
                    F6 k v21 1 fun v29 v30 =>
                    F10 k v30 1 fun v31 =>
                    bif decide (v31 < 0) then
                      r0 false
                    else
                    bif (!decide (v31 = v29)) then
                      r0 false
                    else
                      F1 k aList fun v32 =>
                      F3 k v32
                        (fun v33 =>
                          F4 k fun v34 =>
                          bif (!v34) then
                            r0 false
                          else
                          bif (!decide (v33 = v2)) then
                            r0 false
                          else
                            F10 k v30 1 fun v35 =>
                            bif decide (v35 < 0) then
                              r0 false
                            else
                            bif (!decide (v35 = v29)) then
                              r0 false
                            else
                              r0 true)
                        (fun v36 v37 =>
                          F9 k v36 fun v38 =>
                          bif (!v38) then
                            r0 false
                          else
                          bif (!decide (v37 = v2)) then
                            r0 false
                          else
                            F10 k v30 1 fun v39 =>
                            bif decide (v39 < 0) then
                              r0 false
                            else
                            bif (!decide (v39 = v29)) then
                              r0 false
                            else
                              r0 true)))
      (fun v40 v41 =>
        F1 k aList fun v42 =>
        F3 k v42
          (fun v43 =>
            F11 k v40 fun v44 =>
            bif (!v44) then
              r0 false
            else
            bif (!decide (v43 = v41)) then
              r0 false
            else
              F1 k aList fun v45 =>
              F5 k v42 v45 fun v46 =>
              bif (!v46) then
                r0 false
              else
                F6 k v42 1 fun v47 _ =>
                bif decide (v47 < 0) then
                  r0 false
                else
                  F11 k v40 fun v49 =>
                  bif (!v49) then
                    r0 false
                  else
                  bif (!decide (v43 = v41)) then
                    r0 false
                  else
                    F7 k 1 fun v50 =>
                    F8 k 1 fun v51 =>
                    bif decide (v51 < 0) then
                      r0 false
                    else
                    bif (!decide (v51 = v50)) then
                      r0 false
                    else
                      F1 k aList fun v52 =>
                      F3 k v52
                        (fun v53 =>
                          F11 k v40 fun v54 =>
                          bif (!v54) then
                            r0 false
                          else
                          bif (!decide (v53 = v41)) then
                            r0 false
                          else
                            F8 k 1 fun v55 =>
                            bif decide (v55 < 0) then
                              r0 false
                            else
                            bif (!decide (v55 = v50)) then
                              r0 false
                            else
                              r0 true)
                        (fun v56 v57 =>
                          F5 k v56 v40 fun v58 =>
                          bif (!v58) then
                            r0 false
                          else
                          bif (!decide (v57 = v41)) then
                            r0 false
                          else
                            F8 k 1 fun v59 =>
                            bif decide (v59 < 0) then
                              r0 false
                            else
                            bif (!decide (v59 = v50)) then
                              r0 false
                            else
                              r0 true))
          (fun v60 v61 =>
            F5 k v60 v40 fun v62 =>
            bif (!v62) then
              r0 false
            else
            bif (!decide (v61 = v41)) then
              r0 false
            else
              F1 k aList fun v63 =>
              F5 k v42 v63 fun v64 =>
              bif (!v64) then
                r0 false
              else
                F6 k v42 1 fun v65 _ =>
                bif decide (v65 < 0) then
                  r0 false
                else
                  F5 k v60 v40 fun v67 =>
                  bif (!v67) then
                    r0 false
                  else
                  bif (!decide (v61 = v41)) then
                    r0 false
                  else
                    F6 k v60 1 fun v68 v69 =>
                    F10 k v69 1 fun v70 =>
                    bif decide (v70 < 0) then
                      r0 false
                    else
                    bif (!decide (v70 = v68)) then
                      r0 false
                    else
                      F1 k aList fun v71 =>
                      F3 k v71
                        (fun v72 =>
                          F11 k v40 fun v73 =>
                          bif (!v73) then
                            r0 false
                          else
                          bif (!decide (v72 = v41)) then
                            r0 false
                          else
                            F10 k v69 1 fun v74 =>
                            bif decide (v74 < 0) then
                              r0 false
                            else
                            bif (!decide (v74 = v68)) then
                              r0 false
                            else
                              r0 true)
                        (fun v75 v76 =>
                          F5 k v75 v40 fun v77 =>
                          bif (!v77) then
                            r0 false
                          else
                          bif (!decide (v76 = v41)) then
                            r0 false
                          else
                            F10 k v69 1 fun v78 =>
                            bif decide (v78 < 0) then
                              r0 false
                            else
                            bif (!decide (v78 = v68)) then
                              r0 false
                            else
                              r0 true)))
theorem laws_FnExactOrderPolygon_gen {α : Type} (F0 : T0 α) (F1 : T2 α) (F2 : T13 α) (F3 : T13 α) (F4 : T21 α) (F5 : T22 α) (F6 : T23 α) (F7 : T24 α) (F8 : T24 α) (F9 : T10 α) (F10 : T0 α) (F11 : T10 α)  (n : Nat) (aList : List (Int × Int)) (κ : Res → Option α) : evFn Try.prog (laws_FnExactOrderPolygon_XG F0 F1 F2 F3 F4 F5 F6 F7 F8 F9 F10 F11 n) Try.f3 (((buildDs laws_FnExactOrderPolygon_sh [.rows .pt aList]).map Prod.fst).getD []) κ = laws_FnExactOrderPolygon_body F0 F1 F2 F3 F4 F5 F6 F7 F8 F9 F10 F11 n aList (fun v1 => κ ⟨[.bool v1], []⟩) := by kernel_rfl
theorem laws_FnExactOrderPolygon_eq {α : Type} (n : Nat) (aList : List (Int × Int)) (r0 : Bool → Option α) : laws_FnExactOrderPolygon_body (α := α) laws_szPointS laws_toPointS spec_OrderPolygon impl_OrderPolygon laws_eqPointS_0N_1N laws_eqPointS laws_markPointS laws_markPointS_0N laws_heldPointS_0N laws_eqPointS_1N laws_heldPointS laws_eqPointS_0N n aList r0 = laws_FnExactOrderPolygon (α := α) n aList r0 := (laws_FnExactOrderPolygon_body.eq_1 laws_szPointS laws_toPointS spec_OrderPolygon impl_OrderPolygon laws_eqPointS_0N_1N laws_eqPointS laws_markPointS laws_markPointS_0N laws_heldPointS_0N laws_eqPointS_1N laws_heldPointS laws_eqPointS_0N n aList r0).trans (laws_FnExactOrderPolygon.eq_1 n aList r0).symm
theorem laws_FnExactOrderPolygon_rn {α : Type} (F : T10 α) (n : Nat) (aList : List (Int × Int)) (κ : Res → Option α) : laws_FnExactOrderPolygon_runG F n [.rows .pt aList] κ = F n aList (fun v1 => κ ⟨[.bool v1], []⟩) := rfl
theorem laws_FnExactOrderPolygon_ev {α : Type} (n : Nat) (aList : List (Int × Int)) (κ : Res → Option α) : evFn Try.prog (laws_FnExactOrderPolygon_X n) Try.f3 (((buildDs laws_FnExactOrderPolygon_sh [.rows .pt aList]).map Prod.fst).getD []) κ = laws_FnExactOrderPolygon_run n [.rows .pt aList] κ := (laws_FnExactOrderPolygon_gen laws_szPointS laws_toPointS spec_OrderPolygon impl_OrderPolygon laws_eqPointS_0N_1N laws_eqPointS laws_markPointS laws_markPointS_0N laws_heldPointS_0N laws_eqPointS_1N laws_heldPointS laws_eqPointS_0N n aList κ).trans ((laws_FnExactOrderPolygon_eq n aList (fun v1 => κ ⟨[.bool v1], []⟩)).trans ((laws_FnExactOrderPolygon_run.eq_1 n [.rows .pt aList] κ).trans (laws_FnExactOrderPolygon_rn laws_FnExactOrderPolygon n aList κ)).symm)
theorem laws_FnExactOrderPolygon_en (aList : List (Int × Int)) : (entry 0 (((buildDs laws_FnExactOrderPolygon_sh [.rows .pt aList]).map Prod.fst).getD [])).map (fun x => (x.1.length, x.2.lent)) = some (1, []) := by kernel_rfl
theorem laws_FnExactOrderPolygon_good {α : Type} : ∀ n, GoodFn (α := α) Try.prog 3 (byShape laws_FnExactOrderPolygon_sh (laws_FnExactOrderPolygon_run n)) := by
  refine fn_good' Try.func3 (c := (Try.f3.body.getD .skip)) (by kernel_rfl) (by kernel_rfl) (by kernel_rfl) laws_FnExactOrderPolygon_C laws_FnExactOrderPolygon_M eqs laws_FnExactOrderPolygon_lps laws_FnExactOrderPolygon_jt (fun n => tabC_good (List.forall_mem_cons.2 ⟨(laws_szPointS_good n), (List.forall_mem_cons.2 ⟨(laws_toPointS_good n), (List.forall_mem_cons.2 ⟨(spec_OrderPolygon_good n), (List.forall_mem_cons.2 ⟨(impl_OrderPolygon_good n), (List.forall_mem_cons.2 ⟨(or_good (laws_eqPointS_0N_1N_good n) (or_good (laws_eqPointS_good n) (or_good (laws_eqPointS_1N_good n) (laws_eqPointS_0N_good n)))), (List.forall_mem_cons.2 ⟨(or_good (laws_markPointS_good n) (laws_markPointS_0N_good n)), (List.forall_mem_cons.2 ⟨(or_good (laws_heldPointS_0N_good n) (laws_heldPointS_good n)), (fun _ h => absurd h List.not_mem_nil)⟩)⟩)⟩)⟩)⟩)⟩)⟩)) eqs_ok laws_FnExactOrderPolygon_Lt ?_ ?_ laws_FnExactOrderPolygon_sh laws_FnExactOrderPolygon_run ?_
  · exact (fun _ h => absurd h List.not_mem_nil)
  · exact (fun _ h => absurd h List.not_mem_nil)
  · intro n p κ r ds hd hr
    have hr0 := hr
    unfold laws_FnExactOrderPolygon_run laws_FnExactOrderPolygon_runG at hr
    split at hr
    · rw [← ds_of hd]
      exact ⟨en_of (laws_FnExactOrderPolygon_en _) ⟨rfl, rfl⟩, (laws_FnExactOrderPolygon_ev n _ κ).trans hr0⟩
    · cases hr

end Go.Proofs.Ythgajnmmeibpiaa
