/- The program's functions hold to their readings without memory: printed by a program of ours. -/
import Derived.Test.YtmaclfmobhhclaaSe2XSinesOf
namespace Go.Proofs.Ytmaclfmobhhclaa
open Go Go.Ev Go.Sh Go.Proofs

/-! loop.example/g01297/laws.FnExactSinesOf -/
def laws_FnExactSinesOf_sh : List SkD := [.agg [.int .i64, .int .i64, .int .i64, .int .i64, .int .i64, .int .i64]]
def laws_FnExactSinesOf_runG {α : Type} (F : Nat → Int → Int → Int → Int → Int → Int → (Bool → Option α) → Option α) (n : Nat) (p : List P1) (κ : Res → Option α) : Option α := match p with
  | [.int aT, .int aT1, .int aT2, .int aT3, .int aT4, .int aT5] => F n aT aT1 aT2 aT3 aT4 aT5 (fun v1 => κ ⟨[.bool v1], []⟩)
  | _ => none
def laws_FnExactSinesOf_run {α : Type} (n : Nat) (p : List P1) (κ : Res → Option α) : Option α := laws_FnExactSinesOf_runG laws_FnExactSinesOf n p κ
def laws_FnExactSinesOf_CG {α : Type} (F0 : Nat → Int → Int → Int → Int → Int → Int → (Int → Int → Int → Int → Int → Int → Option α) → Option α) (F1 : Nat → Int → Int → Int → Int → Int → Int → (Int → Option α) → (List Int → Int → Option α) → Option α) (F2 : Nat → Int → Int → Int → Int → Int → Int → (Int → Option α) → (List Int → Int → Option α) → Option α) (F3 : Nat → (Bool → Option α) → Option α) (F4 : Nat → Int → (Int → Option α) → Option α) (F5 : Nat → Int → (Int → Option α) → Option α) (F6 : Nat → List Int → (Bool → Option α) → Option α) (F7 : Nat → List Int → Int → (Int → List Int → Option α) → Option α) (F8 : Nat → List Int → Int → (Int → Option α) → Option α) (F9 : Nat → List Int → (Bool → Option α) → Option α) (F10 : Nat → List Int → List Int → (Bool → Option α) → Option α) (n : Nat) : FuncId → List D → (Res → Option α) → Option α := tabC [(5, (byShape laws_toTriangle_sh (laws_toTriangle_runG F0 n))), (4, (byShape spec_SinesOf_sh (spec_SinesOf_runG F1 n))), (6, (byShape impl_SinesOf_sh (impl_SinesOf_runG F2 n))), (7, (orShape laws_eqInt64S_0N_1N_sh (laws_eqInt64S_0N_1N_runG F3 n) (orShape laws_eqInt64S_1N_sh (laws_eqInt64S_1N_runG F6 n) (orShape laws_eqInt64S_0N_sh (laws_eqInt64S_0N_runG F9 n) (byShape laws_eqInt64S_sh (laws_eqInt64S_runG F10 n)))))), (8, (orShape laws_markInt64S_0N_sh (laws_markInt64S_0N_runG F4 n) (byShape laws_markInt64S_sh (laws_markInt64S_runG F7 n)))), (9, (orShape laws_heldInt64S_0N_sh (laws_heldInt64S_0N_runG F5 n) (byShape laws_heldInt64S_sh (laws_heldInt64S_runG F8 n))))]
def laws_FnExactSinesOf_C {α : Type} (n : Nat) : FuncId → List D → (Res → Option α) → Option α := laws_FnExactSinesOf_CG laws_toTriangle spec_SinesOf impl_SinesOf laws_eqInt64S_0N_1N laws_markInt64S_0N laws_heldInt64S_0N laws_eqInt64S_1N laws_markInt64S laws_heldInt64S laws_eqInt64S_0N laws_eqInt64S n
def laws_FnExactSinesOf_M : FuncId → List Nat := tabM [(8, [1])]
def laws_FnExactSinesOf_lpsG {α : Type}  : List (LoopT α) := []
def laws_FnExactSinesOf_lps {α : Type} : List (LoopT α) := laws_FnExactSinesOf_lpsG
def laws_FnExactSinesOf_XG {α : Type} (F0 : Nat → Int → Int → Int → Int → Int → Int → (Int → Int → Int → Int → Int → Int → Option α) → Option α) (F1 : Nat → Int → Int → Int → Int → Int → Int → (Int → Option α) → (List Int → Int → Option α) → Option α) (F2 : Nat → Int → Int → Int → Int → Int → Int → (Int → Option α) → (List Int → Int → Option α) → Option α) (F3 : Nat → (Bool → Option α) → Option α) (F4 : Nat → Int → (Int → Option α) → Option α) (F5 : Nat → Int → (Int → Option α) → Option α) (F6 : Nat → List Int → (Bool → Option α) → Option α) (F7 : Nat → List Int → Int → (Int → List Int → Option α) → Option α) (F8 : Nat → List Int → Int → (Int → Option α) → Option α) (F9 : Nat → List Int → (Bool → Option α) → Option α) (F10 : Nat → List Int → List Int → (Bool → Option α) → Option α)  (n : Nat) : Ctx α := ⟨laws_FnExactSinesOf_CG F0 F1 F2 F3 F4 F5 F6 F7 F8 F9 F10 n, laws_FnExactSinesOf_M, eqs, lpOf (laws_FnExactSinesOf_lpsG) n⟩
def laws_FnExactSinesOf_X {α : Type} (n : Nat) : Ctx α := laws_FnExactSinesOf_XG laws_toTriangle spec_SinesOf impl_SinesOf laws_eqInt64S_0N_1N laws_markInt64S_0N laws_heldInt64S_0N laws_eqInt64S_1N laws_markInt64S laws_heldInt64S laws_eqInt64S_0N laws_eqInt64S n
def laws_FnExactSinesOf_Lt (np : Nat) (lent : List (Bool × Nat × Blk)) : Prop := np = 1 ∧ lent = []
def laws_FnExactSinesOf_body {α : Type} (F0 : Nat → Int → Int → Int → Int → Int → Int → (Int → Int → Int → Int → Int → Int → Option α) → Option α) (F1 : Nat → Int → Int → Int → Int → Int → Int → (Int → Option α) → (List Int → Int → Option α) → Option α) (F2 : Nat → Int → Int → Int → Int → Int → Int → (Int → Option α) → (List Int → Int → Option α) → Option α) (F3 : Nat → (Bool → Option α) → Option α) (F4 : Nat → Int → (Int → Option α) → Option α) (F5 : Nat → Int → (Int → Option α) → Option α) (F6 : Nat → List Int → (Bool → Option α) → Option α) (F7 : Nat → List Int → Int → (Int → List Int → Option α) → Option α) (F8 : Nat → List Int → Int → (Int → Option α) → Option α) (F9 : Nat → List Int → (Bool → Option α) → Option α) (F10 : Nat → List Int → List Int → (Bool → Option α) → Option α)  (k : Nat) (aT : Int) (aT1 : Int) (aT2 : Int) (aT3 : Int) (aT4 : Int) (aT5 : Int) (r0 : Bool → Option α) : Option α :=
  F0 k aT aT1 aT2 aT3 aT4 aT5 fun v v1 v2 v3 v4 v5 =>
  F1 k v v1 v2 v3 v4 v5
    (fun v6 =>
      F0 k aT aT1 aT2 aT3 aT4 aT5 fun v7 v8 v9 v10 v11 v12 =>
      F2 k v7 v8 v9 v10 v11 v12
        (fun v13 =>
          F3 k fun v14 =>
          bif (!v14) then
            r0 false
          else
          bif (!decide (v13 = v6)) then
            r0 false
          else
            F4 k 1 fun v15 =>
            F5 k 1 fun v16 =>
            bif decide (v16 < 0) then
              r0 false
            else
            bif (!decide (v16 = v15)) then
              r0 false
            else
              F0 k aT aT1 aT2 aT3 aT4 aT5 fun v17 v18 v19 v20 v21 v22 =>
              F2 k v17 v18 v19 v20 v21 v22
                (fun v23 =>
                  F3 k fun v24 =>
                  bif (!v24) then
                    r0 false
                  else
                  bif (!decide (v23 = v6)) then
                    r0 false
                  else
                    F5 k 1 fun v25 =>
                    bif decide (v25 < 0) then
                      r0 false
                    else
                    bif (!decide (v25 = v15)) then
                      r0 false
                    else
                      r0 true)
                (fun v26 v27 =>
                  F6 k v26 fun v28 =>
                  bif (!v28) then
                    r0 false
                  else
                  bif (!decide (v27 = v6)) then
                    r0 false
                  else
                    F5 k 1 fun v29 =>
                    bif decide (v29 < 0) then
                      r0 false
                    else
                    bif (!decide (v29 = v15)) then
                      r0 false
                    else
                      r0 true))
        (fun v30 v31 =>
          F6 k v30 fun v32 =>
          bif (!v32) then
            r0 false
          else
          bif (!decide (v31 = v6)) then
            r0 false
          else
            F7 k v30 1 fun v33 v34 =>
            F8 k v34 1 fun v35 =>
            bif decide (v35 < 0) then
              r0 false
            else
            bif (!decide (v35 = v33)) then
              r0 false
            else
              F0 k aT aT1 aT2 aT3 aT4 aT5 fun v36 v37 v38 v39 v40 v41 =>
              F2 k v36 v37 v38 v39 v40 v41
                (fun v42 =>
                  F3 k fun v43 =>
                  bif (!v43) then
                    r0 false
                  else
                  bif (!decide (v42 = v6)) then
                    r0 false
                  else
                    F8 k v34 1 fun v44 =>
                    bif decide (v44 < 0) then
                      r0 false
                    else
                    bif (!decide (v44 = v33)) then
                      r0 false
                    else
                      r0 true)
                (fun v45 v46 =>
                  F6 k v45 fun v47 =>
                  bif (!v47) then
                    r0 false
                  else
                  bif (!decide (v46 = v6)) then
                    r0 false
                  else
                    F8 k v34 1 fun v48 =>
                    bif decide (v48 < 0) then
                      r0 false
                    else
                    bif (!decide (v48 = v33)) then
                      r0 false
                    else
                      r0 true)))
    (fun v49 v50 =>
      F0 k aT aT1 aT2 aT3 aT4 aT5 fun v51 v52 v53 v54 v55 v56 =>
      F2 k v51 v52 v53 v54 v55 v56
        (fun v57 =>
          F9 k v49 fun v58 =>
          bif (!v58) then
            r0 false
          else
          bif (!decide (v57 = v50)) then
            r0 false
          else
            F4 k 1 fun v59 =>
            F5 k 1 fun v60 =>
            bif decide (v60 < 0) then
              r0 false
            else
            bif (!decide (v60 = v59)) then
              r0 false
            else
              F0 k aT aT1 aT2 aT3 aT4 aT5 fun v61 v62 v63 v64 v65 v66 =>
              F2 k v61 v62 v63 v64 v65 v66
                (fun v67 =>
                  F9 k v49 fun v68 =>
                  bif (!v68) then
                    r0 false
                  else
                  bif (!decide (v67 = v50)) then
                    r0 false
                  else
                    F5 k 1 fun v69 =>
                    bif decide (v69 < 0) then
                      r0 false
                    else
                    bif (!decide (v69 = v59)) then
                      r0 false
                    else
                      r0 true)
                (fun v70 v71 =>
                  F10 k v70 v49 fun v72 =>
                  bif (!v72) then
                    r0 false
                  else
                  bif (!decide (v71 = v50)) then
                    r0 false
                  else
                    F5 k 1 fun v73 =>
                    bif decide (v73 < 0) then
                      r0 false
                    else
                    bif (!decide (v73 = v59)) then
                      r0 false
                    else
                      r0 true))
        (fun v74 v75 =>
          F10 k v74 v49 fun v76 =>
          bif (!v76) then
            r0 false
          else
          bif (!decide (v75 = v50)) then
            r0 false
          else
            F7 k v74 1 fun v77 v78 =>
            F8 k v78 1 fun v79 =>
            bif decide (v79 < 0) then
              r0 false
            else
            bif (!decide (v79 = v77)) then
              r0 false
            else
              F0 k aT aT1 aT2 aT3 aT4 aT5 fun v80 v81 v82 v83 v84 v85 =>
              F2 k v80 v81 v82 v83 v84 v85
                (fun v86 =>
                  F9 k v49 fun v87 =>
                  bif (!v87) then
                    r0 false
                  else
                  bif (!decide (v86 = v50)) then
                    r0 false
                  else
                    F8 k v78 1 fun v88 =>
                    bif decide (v88 < 0) then
                      r0 false
                    else
                    bif (!decide (v88 = v77)) then
                      r0 false
                    else
                      r0 true)
                (fun v89 v90 =>
                  F10 k v89 v49 fun v91 =>
                  bif (!v91) then
                    r0 false
                  else
                  bif (!decide (v90 = v50)) then
                    r0 false
                  else
                    F8 k v78 1 fun v92 =>
                    bif decide (v92 < 0) then
                      r0 false
                    else
                    bif (!decide (v92 = v77)) then
                      r0 false
                    else
                      r0 true)))
theorem laws_FnExactSinesOf_gen {α : Type} (F0 : Nat → Int → Int → Int → Int → Int → Int → (Int → Int → Int → Int → Int → Int → Option α) → Option α) (F1 : Nat → Int → Int → Int → Int → Int → Int → (Int → Option α) → (List Int → Int → Option α) → Option α) (F2 : Nat → Int → Int → Int → Int → Int → Int → (Int → Option α) → (List Int → Int → Option α) → Option α) (F3 : Nat → (Bool → Option α) → Option α) (F4 : Nat → Int → (Int → Option α) → Option α) (F5 : Nat → Int → (Int → Option α) → Option α) (F6 : Nat → List Int → (Bool → Option α) → Option α) (F7 : Nat → List Int → Int → (Int → List Int → Option α) → Option α) (F8 : Nat → List Int → Int → (Int → Option α) → Option α) (F9 : Nat → List Int → (Bool → Option α) → Option α) (F10 : Nat → List Int → List Int → (Bool → Option α) → Option α)  (n : Nat) (aT : Int) (aT1 : Int) (aT2 : Int) (aT3 : Int) (aT4 : Int) (aT5 : Int) (κ : Res → Option α) : evFn Try.prog (laws_FnExactSinesOf_XG F0 F1 F2 F3 F4 F5 F6 F7 F8 F9 F10 n) Try.f3 (((buildDs laws_FnExactSinesOf_sh [.int aT, .int aT1, .int aT2, .int aT3, .int aT4, .int aT5]).map Prod.fst).getD []) κ = laws_FnExactSinesOf_body F0 F1 F2 F3 F4 F5 F6 F7 F8 F9 F10 n aT aT1 aT2 aT3 aT4 aT5 (fun v1 => κ ⟨[.bool v1], []⟩) := by kernel_rfl
theorem laws_FnExactSinesOf_eq {α : Type} (n : Nat) (aT : Int) (aT1 : Int) (aT2 : Int) (aT3 : Int) (aT4 : Int) (aT5 : Int) (r0 : Bool → Option α) : laws_FnExactSinesOf_body laws_toTriangle spec_SinesOf impl_SinesOf laws_eqInt64S_0N_1N laws_markInt64S_0N laws_heldInt64S_0N laws_eqInt64S_1N laws_markInt64S laws_heldInt64S laws_eqInt64S_0N laws_eqInt64S n aT aT1 aT2 aT3 aT4 aT5 r0 = laws_FnExactSinesOf n aT aT1 aT2 aT3 aT4 aT5 r0 := (laws_FnExactSinesOf_body.eq_1 laws_toTriangle spec_SinesOf impl_SinesOf laws_eqInt64S_0N_1N laws_markInt64S_0N laws_heldInt64S_0N laws_eqInt64S_1N laws_markInt64S laws_heldInt64S laws_eqInt64S_0N laws_eqInt64S n aT aT1 aT2 aT3 aT4 aT5 r0).trans (laws_FnExactSinesOf.eq_1 n aT aT1 aT2 aT3 aT4 aT5 r0).symm
theorem laws_FnExactSinesOf_rn {α : Type} (F : Nat → Int → Int → Int → Int → Int → Int → (Bool → Option α) → Option α) (n : Nat) (aT : Int) (aT1 : Int) (aT2 : Int) (aT3 : Int) (aT4 : Int) (aT5 : Int) (κ : Res → Option α) : laws_FnExactSinesOf_runG F n [.int aT, .int aT1, .int aT2, .int aT3, .int aT4, .int aT5] κ = F n aT aT1 aT2 aT3 aT4 aT5 (fun v1 => κ ⟨[.bool v1], []⟩) := rfl
theorem laws_FnExactSinesOf_ev {α : Type} (n : Nat) (aT : Int) (aT1 : Int) (aT2 : Int) (aT3 : Int) (aT4 : Int) (aT5 : Int) (κ : Res → Option α) : evFn Try.prog (laws_FnExactSinesOf_X n) Try.f3 (((buildDs laws_FnExactSinesOf_sh [.int aT, .int aT1, .int aT2, .int aT3, .int aT4, .int aT5]).map Prod.fst).getD []) κ = laws_FnExactSinesOf_run n [.int aT, .int aT1, .int aT2, .int aT3, .int aT4, .int aT5] κ := (laws_FnExactSinesOf_gen laws_toTriangle spec_SinesOf impl_SinesOf laws_eqInt64S_0N_1N laws_markInt64S_0N laws_heldInt64S_0N laws_eqInt64S_1N laws_markInt64S laws_heldInt64S laws_eqInt64S_0N laws_eqInt64S n aT aT1 aT2 aT3 aT4 aT5 κ).trans ((laws_FnExactSinesOf_eq n aT aT1 aT2 aT3 aT4 aT5 (fun v1 => κ ⟨[.bool v1], []⟩)).trans ((laws_FnExactSinesOf_run.eq_1 n [.int aT, .int aT1, .int aT2, .int aT3, .int aT4, .int aT5] κ).trans (laws_FnExactSinesOf_rn laws_FnExactSinesOf n aT aT1 aT2 aT3 aT4 aT5 κ)).symm)
theorem laws_FnExactSinesOf_en (aT : Int) (aT1 : Int) (aT2 : Int) (aT3 : Int) (aT4 : Int) (aT5 : Int) : (entry 0 (((buildDs laws_FnExactSinesOf_sh [.int aT, .int aT1, .int aT2, .int aT3, .int aT4, .int aT5]).map Prod.fst).getD [])).map (fun x => (x.1.length, x.2.lent)) = some (1, []) := by kernel_rfl
theorem laws_FnExactSinesOf_good {α : Type} : ∀ n, GoodFn (α := α) Try.prog 3 (byShape laws_FnExactSinesOf_sh (laws_FnExactSinesOf_run n)) := by
  refine fn_good' Try.func3 (c := (Try.f3.body.getD .skip)) (by kernel_rfl) (by kernel_rfl) (by kernel_rfl) laws_FnExactSinesOf_C laws_FnExactSinesOf_M eqs laws_FnExactSinesOf_lps (fun n => tabC_good (List.forall_mem_cons.2 ⟨(laws_toTriangle_good n), (List.forall_mem_cons.2 ⟨(spec_SinesOf_good n), (List.forall_mem_cons.2 ⟨(impl_SinesOf_good n), (List.forall_mem_cons.2 ⟨(or_good (laws_eqInt64S_0N_1N_good n) (or_good (laws_eqInt64S_1N_good n) (or_good (laws_eqInt64S_0N_good n) (laws_eqInt64S_good n)))), (List.forall_mem_cons.2 ⟨(or_good (laws_markInt64S_0N_good n) (laws_markInt64S_good n)), (List.forall_mem_cons.2 ⟨(or_good (laws_heldInt64S_0N_good n) (laws_heldInt64S_good n)), (fun _ h => absurd h List.not_mem_nil)⟩)⟩)⟩)⟩)⟩)⟩)) eqs_ok laws_FnExactSinesOf_Lt ?_ ?_ laws_FnExactSinesOf_sh laws_FnExactSinesOf_run ?_
  · exact (fun _ h => absurd h List.not_mem_nil)
  · exact (fun _ h => absurd h List.not_mem_nil)
  · intro n p κ r ds hd hr
    have hr0 := hr
    unfold laws_FnExactSinesOf_run laws_FnExactSinesOf_runG at hr
    split at hr
    · rw [← ds_of hd]
      exact ⟨en_of (laws_FnExactSinesOf_en _ _ _ _ _ _) ⟨rfl, rfl⟩, (laws_FnExactSinesOf_ev n _ _ _ _ _ _ κ).trans hr0⟩
    · cases hr

end Go.Proofs.Ytmaclfmobhhclaa
