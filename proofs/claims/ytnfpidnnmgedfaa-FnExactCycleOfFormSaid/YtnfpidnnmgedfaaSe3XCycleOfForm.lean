/- The program's functions hold to their readings without memory: printed by a program of ours. -/
import Derived.Test.YtnfpidnnmgedfaaSe2XCycleOfForm
namespace Go.Proofs.Ytnfpidnnmgedfaa
open Go Go.Ev Go.Sh Go.Proofs

/-! loop.example/g01297/laws.FnExactCycleOfForm -/
def laws_FnExactCycleOfForm_sh : List SkD := [.agg [.int .i64, .int .i64, .int .i64]]
def laws_FnExactCycleOfForm_runG {α : Type} (F : Nat → Int → Int → Int → (Bool → Option α) → Option α) (n : Nat) (p : List P1) (κ : Res → Option α) : Option α := match p with
  | [.int aX, .int aX1, .int aX2] => F n aX aX1 aX2 (fun v1 => κ ⟨[.bool v1], []⟩)
  | _ => none
def laws_FnExactCycleOfForm_run {α : Type} (n : Nat) (p : List P1) (κ : Res → Option α) : Option α := laws_FnExactCycleOfForm_runG laws_FnExactCycleOfForm n p κ
def laws_FnExactCycleOfForm_CG {α : Type} (F0 : Nat → Int → Int → Int → (Int → Int → Int → Option α) → Option α) (F1 : Nat → Int → Int → Int → (Int → Option α) → ((List (Int × Int × Int)) → Int → Option α) → Option α) (F2 : Nat → Int → Int → Int → (Int → Option α) → ((List (Int × Int × Int)) → Int → Option α) → Option α) (F3 : Nat → (Bool → Option α) → Option α) (F4 : Nat → Int → (Int → Option α) → Option α) (F5 : Nat → Int → (Int → Option α) → Option α) (F6 : Nat → (List (Int × Int × Int)) → (Bool → Option α) → Option α) (F7 : Nat → (List (Int × Int × Int)) → Int → (Int → (List (Int × Int × Int)) → Option α) → Option α) (F8 : Nat → (List (Int × Int × Int)) → Int → (Int → Option α) → Option α) (F9 : Nat → (List (Int × Int × Int)) → (Bool → Option α) → Option α) (F10 : Nat → (List (Int × Int × Int)) → (List (Int × Int × Int)) → (Bool → Option α) → Option α) (n : Nat) : FuncId → List D → (Res → Option α) → Option α := tabC [(16, (byShape laws_toForm_sh (laws_toForm_runG F0 n))), (34, (byShape spec_CycleOfForm_sh (spec_CycleOfForm_runG F1 n))), (35, (byShape impl_CycleOfForm_sh (impl_CycleOfForm_runG F2 n))), (36, (orShape laws_eqFormS_0N_1N_sh (laws_eqFormS_0N_1N_runG F3 n) (orShape laws_eqFormS_1N_sh (laws_eqFormS_1N_runG F6 n) (orShape laws_eqFormS_0N_sh (laws_eqFormS_0N_runG F9 n) (byShape laws_eqFormS_sh (laws_eqFormS_runG F10 n)))))), (37, (orShape laws_markFormS_0N_sh (laws_markFormS_0N_runG F4 n) (byShape laws_markFormS_sh (laws_markFormS_runG F7 n)))), (38, (orShape laws_heldFormS_0N_sh (laws_heldFormS_0N_runG F5 n) (byShape laws_heldFormS_sh (laws_heldFormS_runG F8 n))))]
def laws_FnExactCycleOfForm_C {α : Type} (n : Nat) : FuncId → List D → (Res → Option α) → Option α := laws_FnExactCycleOfForm_CG laws_toForm spec_CycleOfForm impl_CycleOfForm laws_eqFormS_0N_1N laws_markFormS_0N laws_heldFormS_0N laws_eqFormS_1N laws_markFormS laws_heldFormS laws_eqFormS_0N laws_eqFormS n
def laws_FnExactCycleOfForm_M : FuncId → List Nat := tabM [(37, [1])]
def laws_FnExactCycleOfForm_lpsG {α : Type}  : List (LoopT α) := []
def laws_FnExactCycleOfForm_lps {α : Type} : List (LoopT α) := laws_FnExactCycleOfForm_lpsG
def laws_FnExactCycleOfForm_XG {α : Type} (F0 : Nat → Int → Int → Int → (Int → Int → Int → Option α) → Option α) (F1 : Nat → Int → Int → Int → (Int → Option α) → ((List (Int × Int × Int)) → Int → Option α) → Option α) (F2 : Nat → Int → Int → Int → (Int → Option α) → ((List (Int × Int × Int)) → Int → Option α) → Option α) (F3 : Nat → (Bool → Option α) → Option α) (F4 : Nat → Int → (Int → Option α) → Option α) (F5 : Nat → Int → (Int → Option α) → Option α) (F6 : Nat → (List (Int × Int × Int)) → (Bool → Option α) → Option α) (F7 : Nat → (List (Int × Int × Int)) → Int → (Int → (List (Int × Int × Int)) → Option α) → Option α) (F8 : Nat → (List (Int × Int × Int)) → Int → (Int → Option α) → Option α) (F9 : Nat → (List (Int × Int × Int)) → (Bool → Option α) → Option α) (F10 : Nat → (List (Int × Int × Int)) → (List (Int × Int × Int)) → (Bool → Option α) → Option α)  (n : Nat) : Ctx α := ⟨laws_FnExactCycleOfForm_CG F0 F1 F2 F3 F4 F5 F6 F7 F8 F9 F10 n, laws_FnExactCycleOfForm_M, eqs, lpOf (laws_FnExactCycleOfForm_lpsG) n⟩
def laws_FnExactCycleOfForm_X {α : Type} (n : Nat) : Ctx α := laws_FnExactCycleOfForm_XG laws_toForm spec_CycleOfForm impl_CycleOfForm laws_eqFormS_0N_1N laws_markFormS_0N laws_heldFormS_0N laws_eqFormS_1N laws_markFormS laws_heldFormS laws_eqFormS_0N laws_eqFormS n
def laws_FnExactCycleOfForm_Lt (np : Nat) (lent : List (Bool × Nat × Blk)) : Prop := np = 1 ∧ lent = []
def laws_FnExactCycleOfForm_body {α : Type} (F0 : Nat → Int → Int → Int → (Int → Int → Int → Option α) → Option α) (F1 : Nat → Int → Int → Int → (Int → Option α) → ((List (Int × Int × Int)) → Int → Option α) → Option α) (F2 : Nat → Int → Int → Int → (Int → Option α) → ((List (Int × Int × Int)) → Int → Option α) → Option α) (F3 : Nat → (Bool → Option α) → Option α) (F4 : Nat → Int → (Int → Option α) → Option α) (F5 : Nat → Int → (Int → Option α) → Option α) (F6 : Nat → (List (Int × Int × Int)) → (Bool → Option α) → Option α) (F7 : Nat → (List (Int × Int × Int)) → Int → (Int → (List (Int × Int × Int)) → Option α) → Option α) (F8 : Nat → (List (Int × Int × Int)) → Int → (Int → Option α) → Option α) (F9 : Nat → (List (Int × Int × Int)) → (Bool → Option α) → Option α) (F10 : Nat → (List (Int × Int × Int)) → (List (Int × Int × Int)) → (Bool → Option α) → Option α)  (k : Nat) (aX : Int) (aX1 : Int) (aX2 : Int) (r0 : Bool → Option α) : Option α :=
  F0 k aX aX1 aX2 fun v v1 v2 =>
  F1 k v v1 v2
    (fun v3 =>
      F0 k aX aX1 aX2 fun v4 v5 v6 =>
      F2 k v4 v5 v6
        (fun v7 =>
          F3 k fun v8 =>
          bif (!v8) then
            r0 false
          else
          bif (!decide (v7 = v3)) then
            r0 false
          else
            F4 k 1 fun v9 =>
            F5 k 1 fun v10 =>
            bif decide (v10 < 0) then
              r0 false
            else
            bif (!decide (v10 = v9)) then
              r0 false
            else
              F0 k aX aX1 aX2 fun v11 v12 v13 =>
              F2 k v11 v12 v13
                (fun v14 =>
                  F3 k fun v15 =>
                  bif (!v15) then
                    r0 false
                  else
                  bif (!decide (v14 = v3)) then
                    r0 false
                  else
                    F5 k 1 fun v16 =>
                    bif decide (v16 < 0) then
                      r0 false
                    else
                    bif (!decide (v16 = v9)) then
                      r0 false
                    else
                      r0 true)
                (fun v17 v18 =>
                  F6 k v17 fun v19 =>
                  bif (!v19) then
                    r0 false
                  else
                  bif (!decide (v18 = v3)) then
                    r0 false
                  else
                    F5 k 1 fun v20 =>
                    bif decide (v20 < 0) then
                      r0 false
                    else
                    bif (!decide (v20 = v9)) then
                      r0 false
                    else
                      r0 true))
        (fun v21 v22 =>
          F6 k v21 fun v23 =>
          bif (!v23) then
            r0 false
          else
          bif (!decide (v22 = v3)) then
            r0 false
          else
            F7 k v21 1 fun v24 v25 =>
            F8 k v25 1 fun v26 =>
            bif decide (v26 < 0) then
              r0 false
            else
            bif (!decide (v26 = v24)) then
              r0 false
            else
              F0 k aX aX1 aX2 fun v27 v28 v29 =>
              F2 k v27 v28 v29
                (fun v30 =>
                  F3 k fun v31 =>
                  bif (!v31) then
                    r0 false
                  else
                  bif (!decide (v30 = v3)) then
                    r0 false
                  else
                    F8 k v25 1 fun v32 =>
                    bif decide (v32 < 0) then
                      r0 false
                    else
                    bif (!decide (v32 = v24)) then
                      r0 false
                    else
                      r0 true)
                (fun v33 v34 =>
                  F6 k v33 fun v35 =>
                  bif (!v35) then
                    r0 false
                  else
                  bif (!decide (v34 = v3)) then
                    r0 false
                  else
                    F8 k v25 1 fun v36 =>
                    bif decide (v36 < 0) then
                      r0 false
                    else
                    bif (!decide (v36 = v24)) then
                      r0 false
                    else
                      r0 true)))
    (fun v37 v38 =>
      F0 k aX aX1 aX2 fun v39 v40 v41 =>
      F2 k v39 v40 v41
        (fun v42 =>
          F9 k v37 fun v43 =>
          bif (!v43) then
            r0 false
          else
          bif (!decide (v42 = v38)) then
            r0 false
          else
            F4 k 1 fun v44 =>
            F5 k 1 fun v45 =>
            bif decide (v45 < 0) then
              r0 false
            else
            bif (!decide (v45 = v44)) then
              r0 false
            else
              F0 k aX aX1 aX2 fun v46 v47 v48 =>
              F2 k v46 v47 v48
                (fun v49 =>
                  F9 k v37 fun v50 =>
                  bif (!v50) then
                    r0 false
                  else
                  bif (!decide (v49 = v38)) then
                    r0 false
                  else
                    F5 k 1 fun v51 =>
                    bif decide (v51 < 0) then
                      r0 false
                    else
                    bif (!decide (v51 = v44)) then
                      r0 false
                    else
                      r0 true)
                (fun v52 v53 =>
                  F10 k v52 v37 fun v54 =>
                  bif (!v54) then
                    r0 false
                  else
                  bif (!decide (v53 = v38)) then
                    r0 false
                  else
                    F5 k 1 fun v55 =>
                    bif decide (v55 < 0) then
                      r0 false
                    else
                    bif (!decide (v55 = v44)) then
                      r0 false
                    else
                      r0 true))
        (fun v56 v57 =>
          F10 k v56 v37 fun v58 =>
          bif (!v58) then
            r0 false
          else
          bif (!decide (v57 = v38)) then
            r0 false
          else
            F7 k v56 1 fun v59 v60 =>
            F8 k v60 1 fun v61 =>
            bif decide (v61 < 0) then
              r0 false
            else
            bif (!decide (v61 = v59)) then
              r0 false
            else
              F0 k aX aX1 aX2 fun v62 v63 v64 =>
              F2 k v62 v63 v64
                (fun v65 =>
                  F9 k v37 fun v66 =>
                  bif (!v66) then
                    r0 false
                  else
                  bif (!decide (v65 = v38)) then
                    r0 false
                  else
                    F8 k v60 1 fun v67 =>
                    bif decide (v67 < 0) then
                      r0 false
                    else
                    bif (!decide (v67 = v59)) then
                      r0 false
                    else
                      r0 true)
                (fun v68 v69 =>
                  F10 k v68 v37 fun v70 =>
                  bif (!v70) then
                    r0 false
                  else
                  bif (!decide (v69 = v38)) then
                    r0 false
                  else
                    F8 k v60 1 fun v71 =>
                    bif decide (v71 < 0) then
                      r0 false
                    else
                    bif (!decide (v71 = v59)) then
                      r0 false
                    else
                      r0 true)))
theorem laws_FnExactCycleOfForm_gen {α : Type} (F0 : Nat → Int → Int → Int → (Int → Int → Int → Option α) → Option α) (F1 : Nat → Int → Int → Int → (Int → Option α) → ((List (Int × Int × Int)) → Int → Option α) → Option α) (F2 : Nat → Int → Int → Int → (Int → Option α) → ((List (Int × Int × Int)) → Int → Option α) → Option α) (F3 : Nat → (Bool → Option α) → Option α) (F4 : Nat → Int → (Int → Option α) → Option α) (F5 : Nat → Int → (Int → Option α) → Option α) (F6 : Nat → (List (Int × Int × Int)) → (Bool → Option α) → Option α) (F7 : Nat → (List (Int × Int × Int)) → Int → (Int → (List (Int × Int × Int)) → Option α) → Option α) (F8 : Nat → (List (Int × Int × Int)) → Int → (Int → Option α) → Option α) (F9 : Nat → (List (Int × Int × Int)) → (Bool → Option α) → Option α) (F10 : Nat → (List (Int × Int × Int)) → (List (Int × Int × Int)) → (Bool → Option α) → Option α)  (n : Nat) (aX : Int) (aX1 : Int) (aX2 : Int) (κ : Res → Option α) : evFn Try.prog (laws_FnExactCycleOfForm_XG F0 F1 F2 F3 F4 F5 F6 F7 F8 F9 F10 n) Try.f8 (((buildDs laws_FnExactCycleOfForm_sh [.int aX, .int aX1, .int aX2]).map Prod.fst).getD []) κ = laws_FnExactCycleOfForm_body F0 F1 F2 F3 F4 F5 F6 F7 F8 F9 F10 n aX aX1 aX2 (fun v1 => κ ⟨[.bool v1], []⟩) := by kernel_rfl
theorem laws_FnExactCycleOfForm_ev {α : Type} (n : Nat) (aX : Int) (aX1 : Int) (aX2 : Int) (κ : Res → Option α) : evFn Try.prog (laws_FnExactCycleOfForm_X n) Try.f8 (((buildDs laws_FnExactCycleOfForm_sh [.int aX, .int aX1, .int aX2]).map Prod.fst).getD []) κ = laws_FnExactCycleOfForm_run n [.int aX, .int aX1, .int aX2] κ := (laws_FnExactCycleOfForm_gen laws_toForm spec_CycleOfForm impl_CycleOfForm laws_eqFormS_0N_1N laws_markFormS_0N laws_heldFormS_0N laws_eqFormS_1N laws_markFormS laws_heldFormS laws_eqFormS_0N laws_eqFormS n aX aX1 aX2 κ).trans (by kernel_rfl)
theorem laws_FnExactCycleOfForm_en (aX : Int) (aX1 : Int) (aX2 : Int) : (entry 0 (((buildDs laws_FnExactCycleOfForm_sh [.int aX, .int aX1, .int aX2]).map Prod.fst).getD [])).map (fun x => (x.1.length, x.2.lent)) = some (1, []) := by kernel_rfl
theorem laws_FnExactCycleOfForm_good {α : Type} : ∀ n, GoodFn (α := α) Try.prog 8 (byShape laws_FnExactCycleOfForm_sh (laws_FnExactCycleOfForm_run n)) := by
  refine fn_good' Try.func8 (c := (Try.f8.body.getD .skip)) (by kernel_rfl) (by kernel_rfl) (by kernel_rfl) laws_FnExactCycleOfForm_C laws_FnExactCycleOfForm_M eqs laws_FnExactCycleOfForm_lps (fun n => tabC_good (List.forall_mem_cons.2 ⟨(laws_toForm_good n), (List.forall_mem_cons.2 ⟨(spec_CycleOfForm_good n), (List.forall_mem_cons.2 ⟨(impl_CycleOfForm_good n), (List.forall_mem_cons.2 ⟨(or_good (laws_eqFormS_0N_1N_good n) (or_good (laws_eqFormS_1N_good n) (or_good (laws_eqFormS_0N_good n) (laws_eqFormS_good n)))), (List.forall_mem_cons.2 ⟨(or_good (laws_markFormS_0N_good n) (laws_markFormS_good n)), (List.forall_mem_cons.2 ⟨(or_good (laws_heldFormS_0N_good n) (laws_heldFormS_good n)), (fun _ h => absurd h List.not_mem_nil)⟩)⟩)⟩)⟩)⟩)⟩)) eqs_ok laws_FnExactCycleOfForm_Lt ?_ ?_ laws_FnExactCycleOfForm_sh laws_FnExactCycleOfForm_run ?_
  · exact (fun _ h => absurd h List.not_mem_nil)
  · exact (fun _ h => absurd h List.not_mem_nil)
  · intro n p κ r ds hd hr
    have hr0 := hr
    unfold laws_FnExactCycleOfForm_run laws_FnExactCycleOfForm_runG at hr
    split at hr
    · rw [← ds_of hd]
      exact ⟨en_of (laws_FnExactCycleOfForm_en _ _ _) ⟨rfl, rfl⟩, (laws_FnExactCycleOfForm_ev n _ _ _ κ).trans hr0⟩
    · cases hr

end Go.Proofs.Ytnfpidnnmgedfaa
