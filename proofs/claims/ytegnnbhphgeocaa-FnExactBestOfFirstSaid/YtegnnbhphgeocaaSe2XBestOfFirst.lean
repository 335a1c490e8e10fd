/- The program's functions hold to their readings without memory: printed by a program of ours. -/
import Derived.Test.YtegnnbhphgeocaaSe1XBestOfFirst
namespace Go.Proofs.Ytegnnbhphgeocaa
open Go Go.Ev Go.Sh Go.Proofs

/-! loop.example/g01297/laws.FnExactBestOfFirst -/
def laws_FnExactBestOfFirst_sh : List SkD := [.int .i64, .int .i64, .int .i64]
def laws_FnExactBestOfFirst_runG {α : Type} (F : Nat → Int → Int → Int → (Bool → Option α) → Option α) (n : Nat) (p : List P1) (κ : Res → Option α) : Option α := match p with
  | [.int aP, .int aQ, .int aN] => F n aP aQ aN (fun v1 => κ ⟨[.bool v1], []⟩)
  | _ => none
def laws_FnExactBestOfFirst_run {α : Type} (n : Nat) (p : List P1) (κ : Res → Option α) : Option α := laws_FnExactBestOfFirst_runG laws_FnExactBestOfFirst n p κ
def laws_FnExactBestOfFirst_CG {α : Type} (F0 : Nat → Int → Int → Int → (Int → Option α) → ((List (Int × Int)) → Int → Option α) → Option α) (F1 : Nat → Int → Int → Int → (Int → Option α) → ((List (Int × Int)) → Int → Option α) → Option α) (F2 : Nat → (Bool → Option α) → Option α) (F3 : Nat → Int → (Int → Option α) → Option α) (F4 : Nat → Int → (Int → Option α) → Option α) (F5 : Nat → (List (Int × Int)) → (Bool → Option α) → Option α) (F6 : Nat → (List (Int × Int)) → Int → (Int → (List (Int × Int)) → Option α) → Option α) (F7 : Nat → (List (Int × Int)) → Int → (Int → Option α) → Option α) (F8 : Nat → (List (Int × Int)) → (Bool → Option α) → Option α) (F9 : Nat → (List (Int × Int)) → (List (Int × Int)) → (Bool → Option α) → Option α) (n : Nat) : FuncId → List D → (Res → Option α) → Option α := tabC [(43, (byShape spec_BestOfFirst_sh (spec_BestOfFirst_runG F0 n))), (44, (byShape impl_BestOfFirst_sh (impl_BestOfFirst_runG F1 n))), (38, (orShape laws_eqPointS_0N_1N_sh (laws_eqPointS_0N_1N_runG F2 n) (orShape laws_eqPointS_1N_sh (laws_eqPointS_1N_runG F5 n) (orShape laws_eqPointS_0N_sh (laws_eqPointS_0N_runG F8 n) (byShape laws_eqPointS_sh (laws_eqPointS_runG F9 n)))))), (39, (orShape laws_markPointS_0N_sh (laws_markPointS_0N_runG F3 n) (byShape laws_markPointS_sh (laws_markPointS_runG F6 n)))), (40, (orShape laws_heldPointS_0N_sh (laws_heldPointS_0N_runG F4 n) (byShape laws_heldPointS_sh (laws_heldPointS_runG F7 n))))]
def laws_FnExactBestOfFirst_C {α : Type} (n : Nat) : FuncId → List D → (Res → Option α) → Option α := laws_FnExactBestOfFirst_CG spec_BestOfFirst impl_BestOfFirst laws_eqPointS_0N_1N laws_markPointS_0N laws_heldPointS_0N laws_eqPointS_1N laws_markPointS laws_heldPointS laws_eqPointS_0N laws_eqPointS n
def laws_FnExactBestOfFirst_M : FuncId → List Nat := tabM [(39, [1])]
def laws_FnExactBestOfFirst_lpsG {α : Type}  : List (LoopT α) := []
def laws_FnExactBestOfFirst_lps {α : Type} : List (LoopT α) := laws_FnExactBestOfFirst_lpsG
def laws_FnExactBestOfFirst_XG {α : Type} (F0 : Nat → Int → Int → Int → (Int → Option α) → ((List (Int × Int)) → Int → Option α) → Option α) (F1 : Nat → Int → Int → Int → (Int → Option α) → ((List (Int × Int)) → Int → Option α) → Option α) (F2 : Nat → (Bool → Option α) → Option α) (F3 : Nat → Int → (Int → Option α) → Option α) (F4 : Nat → Int → (Int → Option α) → Option α) (F5 : Nat → (List (Int × Int)) → (Bool → Option α) → Option α) (F6 : Nat → (List (Int × Int)) → Int → (Int → (List (Int × Int)) → Option α) → Option α) (F7 : Nat → (List (Int × Int)) → Int → (Int → Option α) → Option α) (F8 : Nat → (List (Int × Int)) → (Bool → Option α) → Option α) (F9 : Nat → (List (Int × Int)) → (List (Int × Int)) → (Bool → Option α) → Option α)  (n : Nat) : Ctx α := ⟨laws_FnExactBestOfFirst_CG F0 F1 F2 F3 F4 F5 F6 F7 F8 F9 n, laws_FnExactBestOfFirst_M, eqs, lpOf (laws_FnExactBestOfFirst_lpsG) n⟩
def laws_FnExactBestOfFirst_X {α : Type} (n : Nat) : Ctx α := laws_FnExactBestOfFirst_XG spec_BestOfFirst impl_BestOfFirst laws_eqPointS_0N_1N laws_markPointS_0N laws_heldPointS_0N laws_eqPointS_1N laws_markPointS laws_heldPointS laws_eqPointS_0N laws_eqPointS n
def laws_FnExactBestOfFirst_Lt (np : Nat) (lent : List (Bool × Nat × Blk)) : Prop := np = 3 ∧ lent = []
def laws_FnExactBestOfFirst_body {α : Type} (F0 : Nat → Int → Int → Int → (Int → Option α) → ((List (Int × Int)) → Int → Option α) → Option α) (F1 : Nat → Int → Int → Int → (Int → Option α) → ((List (Int × Int)) → Int → Option α) → Option α) (F2 : Nat → (Bool → Option α) → Option α) (F3 : Nat → Int → (Int → Option α) → Option α) (F4 : Nat → Int → (Int → Option α) → Option α) (F5 : Nat → (List (Int × Int)) → (Bool → Option α) → Option α) (F6 : Nat → (List (Int × Int)) → Int → (Int → (List (Int × Int)) → Option α) → Option α) (F7 : Nat → (List (Int × Int)) → Int → (Int → Option α) → Option α) (F8 : Nat → (List (Int × Int)) → (Bool → Option α) → Option α) (F9 : Nat → (List (Int × Int)) → (List (Int × Int)) → (Bool → Option α) → Option α)  (k : Nat) (aP : Int) (aQ : Int) (aN : Int) (r0 : Bool → Option α) : Option α :=
  F0 k aP aQ aN
    (fun v =>
      F1 k aP aQ aN
        (fun v1 =>
          F2 k fun v2 =>
          bif (!v2) then
            r0 false
          else
          bif (!decide (v1 = v)) then
            r0 false
          else
            F3 k 1 fun v3 =>
            F4 k 1 fun v4 =>
            bif decide (v4 < 0) then
              r0 false
            else
            bif (!decide (v4 = v3)) then
              r0 false
            else
              F1 k aP aQ aN
                (fun v5 =>
                  F2 k fun v6 =>
                  bif (!v6) then
                    r0 false
                  else
                  bif (!decide (v5 = v)) then
                    r0 false
                  else
                    F4 k 1 fun v7 =>
                    bif decide (v7 < 0) then
                      r0 false
                    else
                    bif (!decide (v7 = v3)) then
                      r0 false
                    else
                      r0 true)
                (fun v8 v9 =>
                  F5 k v8 fun v10 =>
                  bif (!v10) then
                    r0 false
                  else
                  bif (!decide (v9 = v)) then
                    r0 false
                  else
                    F4 k 1 fun v11 =>
                    bif decide (v11 < 0) then
                      r0 false
                    else
                    bif (!decide (v11 = v3)) then
                      r0 false
                    else
                      r0 true))
        (fun v12 v13 =>
          F5 k v12 fun v14 =>
          bif (!v14) then
            r0 false
          else
          bif (!decide (v13 = v)) then
            r0 false
          else
            F6 k v12 1 fun v15 v16 =>
            F7 k v16 1 fun v17 =>
            bif decide (v17 < 0) then
              r0 false
            else
            bif (!decide (v17 = v15)) then
              r0 false
            else
              F1 k aP aQ aN
                (fun v18 =>
                  F2 k fun v19 =>
                  bif (!v19) then
                    r0 false
                  else
                  bif (!decide (v18 = v)) then
                    r0 false
                  else
                    F7 k v16 1 fun v20 =>
                    bif decide (v20 < 0) then
                      r0 false
                    else
                    bif (!decide (v20 = v15)) then
                      r0 false
                    else
                      r0 true)
                (fun v21 v22 =>
                  F5 k v21 fun v23 =>
                  bif (!v23) then
                    r0 false
                  else
                  bif (!decide (v22 = v)) then
                    r0 false
                  else
                    F7 k v16 1 fun v24 =>
                    bif decide (v24 < 0) then
                      r0 false
                    else
                    bif (!decide (v24 = v15)) then
                      r0 false
                    else
                      r0 true)))
    (fun v25 v26 =>
      F1 k aP aQ aN
        (fun v27 =>
          F8 k v25 fun v28 =>
          bif (!v28) then
            r0 false
          else
          bif (!decide (v27 = v26)) then
            r0 false
          else
            F3 k 1 fun v29 =>
            F4 k 1 fun v30 =>
            bif decide (v30 < 0) then
              r0 false
            else
            bif (!decide (v30 = v29)) then
              r0 false
            else
              F1 k aP aQ aN
                (fun v31 =>
                  F8 k v25 fun v32 =>
                  bif (!v32) then
                    r0 false
                  else
                  bif (!decide (v31 = v26)) then
                    r0 false
                  else
                    F4 k 1 fun v33 =>
                    bif decide (v33 < 0) then
                      r0 false
                    else
                    bif (!decide (v33 = v29)) then
                      r0 false
                    else
                      r0 true)
                (fun v34 v35 =>
                  F9 k v34 v25 fun v36 =>
                  bif (!v36) then
                    r0 false
                  else
                  bif (!decide (v35 = v26)) then
                    r0 false
                  else
                    F4 k 1 fun v37 =>
                    bif decide (v37 < 0) then
                      r0 false
                    else
                    bif (!decide (v37 = v29)) then
                      r0 false
                    else
                      r0 true))
        (fun v38 v39 =>
          F9 k v38 v25 fun v40 =>
          bif (!v40) then
            r0 false
          else
          bif (!decide (v39 = v26)) then
            r0 false
          else
            F6 k v38 1 fun v41 v42 =>
            F7 k v42 1 fun v43 =>
            bif decide (v43 < 0) then
              r0 false
            else
            bif (!decide (v43 = v41)) then
              r0 false
            else
              F1 k aP aQ aN
                (fun v44 =>
                  F8 k v25 fun v45 =>
                  bif (!v45) then
                    r0 false
                  else
                  bif (!decide (v44 = v26)) then
                    r0 false
                  else
                    F7 k v42 1 fun v46 =>
                    bif decide (v46 < 0) then
                      r0 false
                    else
                    bif (!decide (v46 = v41)) then
                      r0 false
                    else
                      r0 true)
                (fun v47 v48 =>
                  F9 k v47 v25 fun v49 =>
                  bif (!v49) then
                    r0 false
                  else
                  bif (!decide (v48 = v26)) then
                    r0 false
                  else
                    F7 k v42 1 fun v50 =>
                    bif decide (v50 < 0) then
                      r0 false
                    else
                    bif (!decide (v50 = v41)) then
                      r0 false
                    else
                      r0 true)))
theorem laws_FnExactBestOfFirst_gen {α : Type} (F0 : Nat → Int → Int → Int → (Int → Option α) → ((List (Int × Int)) → Int → Option α) → Option α) (F1 : Nat → Int → Int → Int → (Int → Option α) → ((List (Int × Int)) → Int → Option α) → Option α) (F2 : Nat → (Bool → Option α) → Option α) (F3 : Nat → Int → (Int → Option α) → Option α) (F4 : Nat → Int → (Int → Option α) → Option α) (F5 : Nat → (List (Int × Int)) → (Bool → Option α) → Option α) (F6 : Nat → (List (Int × Int)) → Int → (Int → (List (Int × Int)) → Option α) → Option α) (F7 : Nat → (List (Int × Int)) → Int → (Int → Option α) → Option α) (F8 : Nat → (List (Int × Int)) → (Bool → Option α) → Option α) (F9 : Nat → (List (Int × Int)) → (List (Int × Int)) → (Bool → Option α) → Option α)  (n : Nat) (aP : Int) (aQ : Int) (aN : Int) (κ : Res → Option α) : evFn Try.prog (laws_FnExactBestOfFirst_XG F0 F1 F2 F3 F4 F5 F6 F7 F8 F9 n) Try.f12 (((buildDs laws_FnExactBestOfFirst_sh [.int aP, .int aQ, .int aN]).map Prod.fst).getD []) κ = laws_FnExactBestOfFirst_body F0 F1 F2 F3 F4 F5 F6 F7 F8 F9 n aP aQ aN (fun v1 => κ ⟨[.bool v1], []⟩) := by kernel_rfl
theorem laws_FnExactBestOfFirst_ev {α : Type} (n : Nat) (aP : Int) (aQ : Int) (aN : Int) (κ : Res → Option α) : evFn Try.prog (laws_FnExactBestOfFirst_X n) Try.f12 (((buildDs laws_FnExactBestOfFirst_sh [.int aP, .int aQ, .int aN]).map Prod.fst).getD []) κ = laws_FnExactBestOfFirst_run n [.int aP, .int aQ, .int aN] κ := (laws_FnExactBestOfFirst_gen spec_BestOfFirst impl_BestOfFirst laws_eqPointS_0N_1N laws_markPointS_0N laws_heldPointS_0N laws_eqPointS_1N laws_markPointS laws_heldPointS laws_eqPointS_0N laws_eqPointS n aP aQ aN κ).trans (by kernel_rfl)
theorem laws_FnExactBestOfFirst_en (aP : Int) (aQ : Int) (aN : Int) : (entry 0 (((buildDs laws_FnExactBestOfFirst_sh [.int aP, .int aQ, .int aN]).map Prod.fst).getD [])).map (fun x => (x.1.length, x.2.lent)) = some (3, []) := by kernel_rfl
theorem laws_FnExactBestOfFirst_good {α : Type} : ∀ n, GoodFn (α := α) Try.prog 12 (byShape laws_FnExactBestOfFirst_sh (laws_FnExactBestOfFirst_run n)) := by
  refine fn_good' Try.func12 (c := (Try.f12.body.getD .skip)) (by kernel_rfl) (by kernel_rfl) (by kernel_rfl) laws_FnExactBestOfFirst_C laws_FnExactBestOfFirst_M eqs laws_FnExactBestOfFirst_lps (fun n => tabC_good (List.forall_mem_cons.2 ⟨(spec_BestOfFirst_good n), (List.forall_mem_cons.2 ⟨(impl_BestOfFirst_good n), (List.forall_mem_cons.2 ⟨(or_good (laws_eqPointS_0N_1N_good n) (or_good (laws_eqPointS_1N_good n) (or_good (laws_eqPointS_0N_good n) (laws_eqPointS_good n)))), (List.forall_mem_cons.2 ⟨(or_good (laws_markPointS_0N_good n) (laws_markPointS_good n)), (List.forall_mem_cons.2 ⟨(or_good (laws_heldPointS_0N_good n) (laws_heldPointS_good n)), (fun _ h => absurd h List.not_mem_nil)⟩)⟩)⟩)⟩)⟩)) eqs_ok laws_FnExactBestOfFirst_Lt ?_ ?_ laws_FnExactBestOfFirst_sh laws_FnExactBestOfFirst_run ?_
  · exact (fun _ h => absurd h List.not_mem_nil)
  · exact (fun _ h => absurd h List.not_mem_nil)
  · intro n p κ r ds hd hr
    have hr0 := hr
    unfold laws_FnExactBestOfFirst_run laws_FnExactBestOfFirst_runG at hr
    split at hr
    · rw [← ds_of hd]
      exact ⟨en_of (laws_FnExactBestOfFirst_en _ _ _) ⟨rfl, rfl⟩, (laws_FnExactBestOfFirst_ev n _ _ _ κ).trans hr0⟩
    · cases hr

end Go.Proofs.Ytegnnbhphgeocaa
