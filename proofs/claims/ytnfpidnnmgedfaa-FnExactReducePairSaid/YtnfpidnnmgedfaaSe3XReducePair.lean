/- The program's functions hold to their readings without memory: printed by a program of ours. -/
import Derived.Test.YtnfpidnnmgedfaaSe2XReducePair
namespace Go.Proofs.Ytnfpidnnmgedfaa
open Go Go.Ev Go.Sh Go.Proofs

/-! loop.example/g01297/laws.FnExactReducePair -/
def laws_FnExactReducePair_sh : List SkD := [.agg [.int .i64, .int .i64], .agg [.int .i64, .int .i64]]
def laws_FnExactReducePair_runG {α : Type} (F : Nat → Int → Int → Int → Int → (Bool → Option α) → Option α) (n : Nat) (p : List P1) (κ : Res → Option α) : Option α := match p with
  | [.int aA, .int aA1, .int aB, .int aB1] => F n aA aA1 aB aB1 (fun v1 => κ ⟨[.bool v1], []⟩)
  | _ => none
def laws_FnExactReducePair_run {α : Type} (n : Nat) (p : List P1) (κ : Res → Option α) : Option α := laws_FnExactReducePair_runG laws_FnExactReducePair n p κ
def laws_FnExactReducePair_CG {α : Type} (F0 : Nat → Int → Int → (Int → Int → Option α) → Option α) (F1 : Nat → Int → Int → Int → Int → (Int → Option α) → ((List (Int × Int)) → Int → Option α) → Option α) (F2 : Nat → Int → Int → Int → Int → (Int → Option α) → ((List (Int × Int)) → Int → Option α) → Option α) (F3 : Nat → (Bool → Option α) → Option α) (F4 : Nat → Int → (Int → Option α) → Option α) (F5 : Nat → Int → (Int → Option α) → Option α) (F6 : Nat → (List (Int × Int)) → (Bool → Option α) → Option α) (F7 : Nat → (List (Int × Int)) → Int → (Int → (List (Int × Int)) → Option α) → Option α) (F8 : Nat → (List (Int × Int)) → Int → (Int → Option α) → Option α) (F9 : Nat → (List (Int × Int)) → (Bool → Option α) → Option α) (F10 : Nat → (List (Int × Int)) → (List (Int × Int)) → (Bool → Option α) → Option α) (n : Nat) : FuncId → List D → (Res → Option α) → Option α := tabC [(19, (byShape laws_toPoint_sh (laws_toPoint_runG F0 n))), (18, (byShape spec_ReducePair_sh (spec_ReducePair_runG F1 n))), (20, (byShape impl_ReducePair_sh (impl_ReducePair_runG F2 n))), (21, (orShape laws_eqPointS_0N_1N_sh (laws_eqPointS_0N_1N_runG F3 n) (orShape laws_eqPointS_1N_sh (laws_eqPointS_1N_runG F6 n) (orShape laws_eqPointS_0N_sh (laws_eqPointS_0N_runG F9 n) (byShape laws_eqPointS_sh (laws_eqPointS_runG F10 n)))))), (22, (orShape laws_markPointS_0N_sh (laws_markPointS_0N_runG F4 n) (byShape laws_markPointS_sh (laws_markPointS_runG F7 n)))), (23, (orShape laws_heldPointS_0N_sh (laws_heldPointS_0N_runG F5 n) (byShape laws_heldPointS_sh (laws_heldPointS_runG F8 n))))]
def laws_FnExactReducePair_C {α : Type} (n : Nat) : FuncId → List D → (Res → Option α) → Option α := laws_FnExactReducePair_CG laws_toPoint spec_ReducePair impl_ReducePair laws_eqPointS_0N_1N laws_markPointS_0N laws_heldPointS_0N laws_eqPointS_1N laws_markPointS laws_heldPointS laws_eqPointS_0N laws_eqPointS n
def laws_FnExactReducePair_M : FuncId → List Nat := tabM [(22, [1])]
def laws_FnExactReducePair_lpsG {α : Type}  : List (LoopT α) := []
def laws_FnExactReducePair_lps {α : Type} : List (LoopT α) := laws_FnExactReducePair_lpsG
def laws_FnExactReducePair_XG {α : Type} (F0 : Nat → Int → Int → (Int → Int → Option α) → Option α) (F1 : Nat → Int → Int → Int → Int → (Int → Option α) → ((List (Int × Int)) → Int → Option α) → Option α) (F2 : Nat → Int → Int → Int → Int → (Int → Option α) → ((List (Int × Int)) → Int → Option α) → Option α) (F3 : Nat → (Bool → Option α) → Option α) (F4 : Nat → Int → (Int → Option α) → Option α) (F5 : Nat → Int → (Int → Option α) → Option α) (F6 : Nat → (List (Int × Int)) → (Bool → Option α) → Option α) (F7 : Nat → (List (Int × Int)) → Int → (Int → (List (Int × Int)) → Option α) → Option α) (F8 : Nat → (List (Int × Int)) → Int → (Int → Option α) → Option α) (F9 : Nat → (List (Int × Int)) → (Bool → Option α) → Option α) (F10 : Nat → (List (Int × Int)) → (List (Int × Int)) → (Bool → Option α) → Option α)  (n : Nat) : Ctx α := ⟨laws_FnExactReducePair_CG F0 F1 F2 F3 F4 F5 F6 F7 F8 F9 F10 n, laws_FnExactReducePair_M, eqs, lpOf (laws_FnExactReducePair_lpsG) n⟩
def laws_FnExactReducePair_X {α : Type} (n : Nat) : Ctx α := laws_FnExactReducePair_XG laws_toPoint spec_ReducePair impl_ReducePair laws_eqPointS_0N_1N laws_markPointS_0N laws_heldPointS_0N laws_eqPointS_1N laws_markPointS laws_heldPointS laws_eqPointS_0N laws_eqPointS n
def laws_FnExactReducePair_Lt (np : Nat) (lent : List (Bool × Nat × Blk)) : Prop := np = 2 ∧ lent = []
def laws_FnExactReducePair_body {α : Type} (F0 : Nat → Int → Int → (Int → Int → Option α) → Option α) (F1 : Nat → Int → Int → Int → Int → (Int → Option α) → ((List (Int × Int)) → Int → Option α) → Option α) (F2 : Nat → Int → Int → Int → Int → (Int → Option α) → ((List (Int × Int)) → Int → Option α) → Option α) (F3 : Nat → (Bool → Option α) → Option α) (F4 : Nat → Int → (Int → Option α) → Option α) (F5 : Nat → Int → (Int → Option α) → Option α) (F6 : Nat → (List (Int × Int)) → (Bool → Option α) → Option α) (F7 : Nat → (List (Int × Int)) → Int → (Int → (List (Int × Int)) → Option α) → Option α) (F8 : Nat → (List (Int × Int)) → Int → (Int → Option α) → Option α) (F9 : Nat → (List (Int × Int)) → (Bool → Option α) → Option α) (F10 : Nat → (List (Int × Int)) → (List (Int × Int)) → (Bool → Option α) → Option α)  (k : Nat) (aA : Int) (aA1 : Int) (aB : Int) (aB1 : Int) (r0 : Bool → Option α) : Option α :=
  F0 k aA aA1 fun v v1 =>
  F0 k aB aB1 fun v2 v3 =>
  F1 k v v1 v2 v3
    (fun v4 =>
      F0 k aA aA1 fun v5 v6 =>
      F0 k aB aB1 fun v7 v8 =>
      F2 k v5 v6 v7 v8
        (fun v9 =>
          F3 k fun v10 =>
          bif (!v10) then
            r0 false
          else
          bif (!decide (v9 = v4)) then
            r0 false
          else
            F4 k 1 fun v11 =>
            F5 k 1 fun v12 =>
            bif decide (v12 < 0) then
              r0 false
            else
            bif (!decide (v12 = v11)) then
              r0 false
            else
              F0 k aA aA1 fun v13 v14 =>
              F0 k aB aB1 fun v15 v16 =>
              F2 k v13 v14 v15 v16
                (fun v17 =>
                  F3 k fun v18 =>
                  bif (!v18) then
                    r0 false
                  else
                  bif (!decide (v17 = v4)) then
                    r0 false
                  else
                    F5 k 1 fun v19 =>
                    bif decide (v19 < 0) then
                      r0 false
                    else
                    bif (!decide (v19 = v11)) then
                      r0 false
                    else
                      r0 true)
                (fun v20 v21 =>
                  F6 k v20 fun v22 =>
                  bif (!v22) then
                    r0 false
                  else
                  bif (!decide (v21 = v4)) then
                    r0 false
                  else
                    F5 k 1 fun v23 =>
                    bif decide (v23 < 0) then
                      r0 false
                    else
                    bif (!decide (v23 = v11)) then
                      r0 false
                    else
                      r0 true))
        (fun v24 v25 =>
          F6 k v24 fun v26 =>
          bif (!v26) then
            r0 false
          else
          bif (!decide (v25 = v4)) then
            r0 false
          else
            F7 k v24 1 fun v27 v28 =>
            F8 k v28 1 fun v29 =>
            bif decide (v29 < 0) then
              r0 false
            else
            bif (!decide (v29 = v27)) then
              r0 false
            else
              F0 k aA aA1 fun v30 v31 =>
              F0 k aB aB1 fun v32 v33 =>
              F2 k v30 v31 v32 v33
                (fun v34 =>
                  F3 k fun v35 =>
                  bif (!v35) then
                    r0 false
                  else
                  bif (!decide (v34 = v4)) then
                    r0 false
                  else
                    F8 k v28 1 fun v36 =>
                    bif decide (v36 < 0) then
                      r0 false
                    else
                    bif (!decide (v36 = v27)) then
                      r0 false
                    else
                      r0 true)
                (fun v37 v38 =>
                  F6 k v37 fun v39 =>
                  bif (!v39) then
                    r0 false
                  else
                  bif (!decide (v38 = v4)) then
                    r0 false
                  else
                    F8 k v28 1 fun v40 =>
                    bif decide (v40 < 0) then
                      r0 false
                    else
                    bif (!decide (v40 = v27)) then
                      r0 false
                    else
                      r0 true)))
    (fun v41 v42 =>
      F0 k aA aA1 fun v43 v44 =>
      F0 k aB aB1 fun v45 v46 =>
      F2 k v43 v44 v45 v46
        (fun v47 =>
          F9 k v41 fun v48 =>
          bif (!v48) then
            r0 false
          else
          bif (!decide (v47 = v42)) then
            r0 false
          else
            F4 k 1 fun v49 =>
            F5 k 1 fun v50 =>
            bif decide (v50 < 0) then
              r0 false
            else
            bif (!decide (v50 = v49)) then
              r0 false
            else
              F0 k aA aA1 fun v51 v52 =>
              F0 k aB aB1 fun v53 v54 =>
              F2 k v51 v52 v53 v54
                (fun v55 =>
                  F9 k v41 fun v56 =>
                  bif (!v56) then
                    r0 false
                  else
                  bif (!decide (v55 = v42)) then
                    r0 false
                  else
                    F5 k 1 fun v57 =>
                    bif decide (v57 < 0) then
                      r0 false
                    else
                    bif (!decide (v57 = v49)) then
                      r0 false
                    else
                      r0 true)
                (fun v58 v59 =>
                  F10 k v58 v41 fun v60 =>
                  bif (!v60) then
                    r0 false
                  else
                  bif (!decide (v59 = v42)) then
                    r0 false
                  else
                    F5 k 1 fun v61 =>
                    bif decide (v61 < 0) then
                      r0 false
                    else
                    bif (!decide (v61 = v49)) then
                      r0 false
                    else
                      r0 true))
        (fun v62 v63 =>
          F10 k v62 v41 fun v64 =>
          bif (!v64) then
            r0 false
          else
          bif (!decide (v63 = v42)) then
            r0 false
          else
            F7 k v62 1 fun v65 v66 =>
            F8 k v66 1 fun v67 =>
            bif decide (v67 < 0) then
              r0 false
            else
            bif (!decide (v67 = v65)) then
              r0 false
            else
              F0 k aA aA1 fun v68 v69 =>
              F0 k aB aB1 fun v70 v71 =>
              F2 k v68 v69 v70 v71
                (fun v72 =>
                  F9 k v41 fun v73 =>
                  bif (!v73) then
                    r0 false
                  else
                  bif (!decide (v72 = v42)) then
                    r0 false
                  else
                    F8 k v66 1 fun v74 =>
                    bif decide (v74 < 0) then
                      r0 false
                    else
                    bif (!decide (v74 = v65)) then
                      r0 false
                    else
                      r0 true)
                (fun v75 v76 =>
                  F10 k v75 v41 fun v77 =>
                  bif (!v77) then
                    r0 false
                  else
                  bif (!decide (v76 = v42)) then
                    r0 false
                  else
                    F8 k v66 1 fun v78 =>
                    bif decide (v78 < 0) then
                      r0 false
                    else
                    bif (!decide (v78 = v65)) then
                      r0 false
                    else
                      r0 true)))
theorem laws_FnExactReducePair_gen {α : Type} (F0 : Nat → Int → Int → (Int → Int → Option α) → Option α) (F1 : Nat → Int → Int → Int → Int → (Int → Option α) → ((List (Int × Int)) → Int → Option α) → Option α) (F2 : Nat → Int → Int → Int → Int → (Int → Option α) → ((List (Int × Int)) → Int → Option α) → Option α) (F3 : Nat → (Bool → Option α) → Option α) (F4 : Nat → Int → (Int → Option α) → Option α) (F5 : Nat → Int → (Int → Option α) → Option α) (F6 : Nat → (List (Int × Int)) → (Bool → Option α) → Option α) (F7 : Nat → (List (Int × Int)) → Int → (Int → (List (Int × Int)) → Option α) → Option α) (F8 : Nat → (List (Int × Int)) → Int → (Int → Option α) → Option α) (F9 : Nat → (List (Int × Int)) → (Bool → Option α) → Option α) (F10 : Nat → (List (Int × Int)) → (List (Int × Int)) → (Bool → Option α) → Option α)  (n : Nat) (aA : Int) (aA1 : Int) (aB : Int) (aB1 : Int) (κ : Res → Option α) : evFn Try.prog (laws_FnExactReducePair_XG F0 F1 F2 F3 F4 F5 F6 F7 F8 F9 F10 n) Try.f4 (((buildDs laws_FnExactReducePair_sh [.int aA, .int aA1, .int aB, .int aB1]).map Prod.fst).getD []) κ = laws_FnExactReducePair_body F0 F1 F2 F3 F4 F5 F6 F7 F8 F9 F10 n aA aA1 aB aB1 (fun v1 => κ ⟨[.bool v1], []⟩) := by kernel_rfl
theorem laws_FnExactReducePair_ev {α : Type} (n : Nat) (aA : Int) (aA1 : Int) (aB : Int) (aB1 : Int) (κ : Res → Option α) : evFn Try.prog (laws_FnExactReducePair_X n) Try.f4 (((buildDs laws_FnExactReducePair_sh [.int aA, .int aA1, .int aB, .int aB1]).map Prod.fst).getD []) κ = laws_FnExactReducePair_run n [.int aA, .int aA1, .int aB, .int aB1] κ := (laws_FnExactReducePair_gen laws_toPoint spec_ReducePair impl_ReducePair laws_eqPointS_0N_1N laws_markPointS_0N laws_heldPointS_0N laws_eqPointS_1N laws_markPointS laws_heldPointS laws_eqPointS_0N laws_eqPointS n aA aA1 aB aB1 κ).trans (by kernel_rfl)
theorem laws_FnExactReducePair_en (aA : Int) (aA1 : Int) (aB : Int) (aB1 : Int) : (entry 0 (((buildDs laws_FnExactReducePair_sh [.int aA, .int aA1, .int aB, .int aB1]).map Prod.fst).getD [])).map (fun x => (x.1.length, x.2.lent)) = some (2, []) := by kernel_rfl
theorem laws_FnExactReducePair_good {α : Type} : ∀ n, GoodFn (α := α) Try.prog 4 (byShape laws_FnExactReducePair_sh (laws_FnExactReducePair_run n)) := by
  refine fn_good' Try.func4 (c := (Try.f4.body.getD .skip)) (by kernel_rfl) (by kernel_rfl) (by kernel_rfl) laws_FnExactReducePair_C laws_FnExactReducePair_M eqs laws_FnExactReducePair_lps (fun n => tabC_good (List.forall_mem_cons.2 ⟨(laws_toPoint_good n), (List.forall_mem_cons.2 ⟨(spec_ReducePair_good n), (List.forall_mem_cons.2 ⟨(impl_ReducePair_good n), (List.forall_mem_cons.2 ⟨(or_good (laws_eqPointS_0N_1N_good n) (or_good (laws_eqPointS_1N_good n) (or_good (laws_eqPointS_0N_good n) (laws_eqPointS_good n)))), (List.forall_mem_cons.2 ⟨(or_good (laws_markPointS_0N_good n) (laws_markPointS_good n)), (List.forall_mem_cons.2 ⟨(or_good (laws_heldPointS_0N_good n) (laws_heldPointS_good n)), (fun _ h => absurd h List.not_mem_nil)⟩)⟩)⟩)⟩)⟩)⟩)) eqs_ok laws_FnExactReducePair_Lt ?_ ?_ laws_FnExactReducePair_sh laws_FnExactReducePair_run ?_
  · exact (fun _ h => absurd h List.not_mem_nil)
  · exact (fun _ h => absurd h List.not_mem_nil)
  · intro n p κ r ds hd hr
    have hr0 := hr
    unfold laws_FnExactReducePair_run laws_FnExactReducePair_runG at hr
    split at hr
    · rw [← ds_of hd]
      exact ⟨en_of (laws_FnExactReducePair_en _ _ _ _) ⟨rfl, rfl⟩, (laws_FnExactReducePair_ev n _ _ _ _ κ).trans hr0⟩
    · cases hr

end Go.Proofs.Ytnfpidnnmgedfaa
