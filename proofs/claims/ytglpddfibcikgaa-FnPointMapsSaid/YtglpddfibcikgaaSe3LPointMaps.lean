/- The program's functions hold to their readings without memory: printed by a program of ours. -/
import Derived.Test.YtglpddfibcikgaaSe2LPointMaps
namespace Go.Proofs.Ytglpddfibcikgaa
open Go Go.Ev Go.Sh Go.Proofs

/-! loop.example/g01297/spec.DrawMateOf -/
def spec_DrawMateOf_sh : List SkD := [.sl 5 (.int .u8)]
def spec_DrawMateOf_runG {α : Type} (F : T1 α) (n : Nat) (p : List P1) (κ : Res → Option α) : Option α := match p with
  | [.rows (.int .u8) code] => F n code (fun v1 v2 => κ ⟨[.agg [.int .i64 v1, .int .i64 v2]], []⟩)
  | _ => none
def spec_DrawMateOf_run {α : Type} (n : Nat) (p : List P1) (κ : Res → Option α) : Option α := spec_DrawMateOf_runG spec_DrawMateOf n p κ
def spec_DrawMateOf_CG {α : Type} (F0 : T1 α) (F1 : T2 α) (F2 : T20 α) (F3 : T6 α) (F4 : T7 α) (F5 : T19 α) (n : Nat) : FuncId → List D → (Res → Option α) → Option α := tabC [(36, (byShape spec_l01From_sh (spec_l01From_runG F0 n))), (54, (byShape spec_l01Next_sh (spec_l01Next_runG F1 n))), (43, (byShape spec_l01Spoil_sh (spec_l01Spoil_runG F2 n))), (57, (byShape spec_l01Size_sh (spec_l01Size_runG F3 n))), (56, (byShape spec_l01DrawPrimitive_sh (spec_l01DrawPrimitive_runG F4 n))), (55, (byShape spec_l01Bad_sh (spec_l01Bad_runG F5 n)))]
def spec_DrawMateOf_C {α : Type} (n : Nat) : FuncId → List D → (Res → Option α) → Option α := spec_DrawMateOf_CG spec_l01From spec_l01Next spec_l01Spoil spec_l01Size spec_l01DrawPrimitive spec_l01Bad n
def spec_DrawMateOf_M : FuncId → List Nat := tabM [(54, [1]), (43, [1]), (57, [1]), (56, [1]), (55, [1])]
def spec_DrawMateOf_lpsG {α : Type}  : List (LoopT α) := []
def spec_DrawMateOf_lps {α : Type} : List (LoopT α) := spec_DrawMateOf_lpsG
def spec_DrawMateOf_jt : Nat → Option Tpl := jtOf []
def spec_DrawMateOf_XG {α : Type} (F0 : T1 α) (F1 : T2 α) (F2 : T20 α) (F3 : T6 α) (F4 : T7 α) (F5 : T19 α)  (n : Nat) : Ctx α := ⟨spec_DrawMateOf_CG F0 F1 F2 F3 F4 F5 n, spec_DrawMateOf_M, eqs, lpOf (spec_DrawMateOf_lpsG) n, spec_DrawMateOf_jt⟩
def spec_DrawMateOf_X {α : Type} (n : Nat) : Ctx α := spec_DrawMateOf_XG spec_l01From spec_l01Next spec_l01Spoil spec_l01Size spec_l01DrawPrimitive spec_l01Bad n
def spec_DrawMateOf_Lt (np : Nat) (lent : List (Bool × Nat × Blk)) : Prop := np = 1 ∧ lent = []
def spec_DrawMateOf_body {α : Type} (F0 : T1 α) (F1 : T2 α) (F2 : T20 α) (F3 : T6 α) (F4 : T7 α) (F5 : T19 α)  (k : Nat) (code : List Int) (r0 : Int → Int → Option α) : Option α :=
  F0 k code fun v v1 =>
  F1 k code v v1 8 fun v2 v3 v4 =>
  bif decide (v2 = 0) then
    F2 k code v3 v4 fun v5 v6 _ _ =>
    r0 v5 v6
  else
    F3 k code v3 v4 fun v9 v10 v11 =>
    F4 k code v10 v11 v9 fun v12 v13 v14 v15 =>
    F5 k code v14 v15 v12 v13 fun v16 v17 _ _ =>
    r0 v16 v17
theorem spec_DrawMateOf_gen {α : Type} (F0 : T1 α) (F1 : T2 α) (F2 : T20 α) (F3 : T6 α) (F4 : T7 α) (F5 : T19 α)  (n : Nat) (code : List Int) (κ : Res → Option α) : evFn Try.prog (spec_DrawMateOf_XG F0 F1 F2 F3 F4 F5 n) Try.f16 (((buildDs spec_DrawMateOf_sh [.rows (.int .u8) code]).map Prod.fst).getD []) κ = spec_DrawMateOf_body F0 F1 F2 F3 F4 F5 n code (fun v1 v2 => κ ⟨[.agg [.int .i64 v1, .int .i64 v2]], []⟩) := by kernel_rfl
theorem spec_DrawMateOf_eq {α : Type} (n : Nat) (code : List Int) (r0 : Int → Int → Option α) : spec_DrawMateOf_body spec_l01From spec_l01Next spec_l01Spoil spec_l01Size spec_l01DrawPrimitive spec_l01Bad n code r0 = spec_DrawMateOf n code r0 := (spec_DrawMateOf_body.eq_1 spec_l01From spec_l01Next spec_l01Spoil spec_l01Size spec_l01DrawPrimitive spec_l01Bad n code r0).trans (spec_DrawMateOf.eq_1 n code r0).symm
theorem spec_DrawMateOf_rn {α : Type} (F : T1 α) (n : Nat) (code : List Int) (κ : Res → Option α) : spec_DrawMateOf_runG F n [.rows (.int .u8) code] κ = F n code (fun v1 v2 => κ ⟨[.agg [.int .i64 v1, .int .i64 v2]], []⟩) := rfl
theorem spec_DrawMateOf_ev {α : Type} (n : Nat) (code : List Int) (κ : Res → Option α) : evFn Try.prog (spec_DrawMateOf_X n) Try.f16 (((buildDs spec_DrawMateOf_sh [.rows (.int .u8) code]).map Prod.fst).getD []) κ = spec_DrawMateOf_run n [.rows (.int .u8) code] κ := (spec_DrawMateOf_gen spec_l01From spec_l01Next spec_l01Spoil spec_l01Size spec_l01DrawPrimitive spec_l01Bad n code κ).trans ((spec_DrawMateOf_eq n code (fun v1 v2 => κ ⟨[.agg [.int .i64 v1, .int .i64 v2]], []⟩)).trans ((spec_DrawMateOf_run.eq_1 n [.rows (.int .u8) code] κ).trans (spec_DrawMateOf_rn spec_DrawMateOf n code κ)).symm)
theorem spec_DrawMateOf_en (code : List Int) : (entry 0 (((buildDs spec_DrawMateOf_sh [.rows (.int .u8) code]).map Prod.fst).getD [])).map (fun x => (x.1.length, x.2.lent)) = some (1, []) := by kernel_rfl
theorem spec_DrawMateOf_good {α : Type} : ∀ n, GoodFn (α := α) Try.prog 16 (byShape spec_DrawMateOf_sh (spec_DrawMateOf_run n)) := by
  refine fn_good' Try.func16 (c := (Try.f16.body.getD .skip)) (by kernel_rfl) (by kernel_rfl) (by kernel_rfl) spec_DrawMateOf_C spec_DrawMateOf_M eqs spec_DrawMateOf_lps spec_DrawMateOf_jt (fun n => tabC_good (List.forall_mem_cons.2 ⟨(spec_l01From_good n), (List.forall_mem_cons.2 ⟨(spec_l01Next_good n), (List.forall_mem_cons.2 ⟨(spec_l01Spoil_good n), (List.forall_mem_cons.2 ⟨(spec_l01Size_good n), (List.forall_mem_cons.2 ⟨(spec_l01DrawPrimitive_good n), (List.forall_mem_cons.2 ⟨(spec_l01Bad_good n), (fun _ h => absurd h List.not_mem_nil)⟩)⟩)⟩)⟩)⟩)⟩)) eqs_ok spec_DrawMateOf_Lt ?_ ?_ spec_DrawMateOf_sh spec_DrawMateOf_run ?_
  · exact (fun _ h => absurd h List.not_mem_nil)
  · exact (fun _ h => absurd h List.not_mem_nil)
  · intro n p κ r ds hd hr
    have hr0 := hr
    unfold spec_DrawMateOf_run spec_DrawMateOf_runG at hr
    split at hr
    · rw [← ds_of hd]
      exact ⟨en_of (spec_DrawMateOf_en _) ⟨rfl, rfl⟩, (spec_DrawMateOf_ev n _ κ).trans hr0⟩
    · cases hr

/-! (loop.example/g01297/impl.Point).isPrimitive -/
def impl_Point_isPrimitive_sh : List SkD := [.agg [.int .i64, .int .i64]]
def impl_Point_isPrimitive_runG {α : Type} (F : T11 α) (n : Nat) (p : List P1) (κ : Res → Option α) : Option α := match p with
  | [.int a, .int a1] => F n a a1 (fun v1 => κ ⟨[.bool v1], []⟩)
  | _ => none
def impl_Point_isPrimitive_run {α : Type} (n : Nat) (p : List P1) (κ : Res → Option α) : Option α := impl_Point_isPrimitive_runG impl_Point_isPrimitive n p κ
def impl_Point_isPrimitive_CG {α : Type} (F0 : T29 α) (n : Nat) : FuncId → List D → (Res → Option α) → Option α := tabC [(53, (byShape impl_Point_length_sh (impl_Point_length_runG F0 n)))]
def impl_Point_isPrimitive_C {α : Type} (n : Nat) : FuncId → List D → (Res → Option α) → Option α := impl_Point_isPrimitive_CG impl_Point_length n
def impl_Point_isPrimitive_M : FuncId → List Nat := tabM []
def impl_Point_isPrimitive_lpsG {α : Type}  : List (LoopT α) := []
def impl_Point_isPrimitive_lps {α : Type} : List (LoopT α) := impl_Point_isPrimitive_lpsG
def impl_Point_isPrimitive_jt : Nat → Option Tpl := jtOf []
def impl_Point_isPrimitive_XG {α : Type} (F0 : T29 α)  (n : Nat) : Ctx α := ⟨impl_Point_isPrimitive_CG F0 n, impl_Point_isPrimitive_M, eqs, lpOf (impl_Point_isPrimitive_lpsG) n, impl_Point_isPrimitive_jt⟩
def impl_Point_isPrimitive_X {α : Type} (n : Nat) : Ctx α := impl_Point_isPrimitive_XG impl_Point_length n
def impl_Point_isPrimitive_Lt (np : Nat) (lent : List (Bool × Nat × Blk)) : Prop := np = 1 ∧ lent = []
def impl_Point_isPrimitive_body {α : Type} (F0 : T29 α)  (k : Nat) (a : Int) (a1 : Int) (r0 : Bool → Option α) : Option α :=
  F0 k a a1 fun v =>
  r0 (decide (v = 1))
theorem impl_Point_isPrimitive_gen {α : Type} (F0 : T29 α)  (n : Nat) (a : Int) (a1 : Int) (κ : Res → Option α) : evFn Try.prog (impl_Point_isPrimitive_XG F0 n) Try.f58 (((buildDs impl_Point_isPrimitive_sh [.int a, .int a1]).map Prod.fst).getD []) κ = impl_Point_isPrimitive_body F0 n a a1 (fun v1 => κ ⟨[.bool v1], []⟩) := by kernel_rfl
theorem impl_Point_isPrimitive_eq {α : Type} (n : Nat) (a : Int) (a1 : Int) (r0 : Bool → Option α) : impl_Point_isPrimitive_body impl_Point_length n a a1 r0 = impl_Point_isPrimitive n a a1 r0 := (impl_Point_isPrimitive_body.eq_1 impl_Point_length n a a1 r0).trans (impl_Point_isPrimitive.eq_1 n a a1 r0).symm
theorem impl_Point_isPrimitive_rn {α : Type} (F : T11 α) (n : Nat) (a : Int) (a1 : Int) (κ : Res → Option α) : impl_Point_isPrimitive_runG F n [.int a, .int a1] κ = F n a a1 (fun v1 => κ ⟨[.bool v1], []⟩) := rfl
theorem impl_Point_isPrimitive_ev {α : Type} (n : Nat) (a : Int) (a1 : Int) (κ : Res → Option α) : evFn Try.prog (impl_Point_isPrimitive_X n) Try.f58 (((buildDs impl_Point_isPrimitive_sh [.int a, .int a1]).map Prod.fst).getD []) κ = impl_Point_isPrimitive_run n [.int a, .int a1] κ := (impl_Point_isPrimitive_gen impl_Point_length n a a1 κ).trans ((impl_Point_isPrimitive_eq n a a1 (fun v1 => κ ⟨[.bool v1], []⟩)).trans ((impl_Point_isPrimitive_run.eq_1 n [.int a, .int a1] κ).trans (impl_Point_isPrimitive_rn impl_Point_isPrimitive n a a1 κ)).symm)
theorem impl_Point_isPrimitive_en (a : Int) (a1 : Int) : (entry 0 (((buildDs impl_Point_isPrimitive_sh [.int a, .int a1]).map Prod.fst).getD [])).map (fun x => (x.1.length, x.2.lent)) = some (1, []) := by kernel_rfl
theorem impl_Point_isPrimitive_good {α : Type} : ∀ n, GoodFn (α := α) Try.prog 58 (byShape impl_Point_isPrimitive_sh (impl_Point_isPrimitive_run n)) := by
  refine fn_good' Try.func58 (c := (Try.f58.body.getD .skip)) (by kernel_rfl) (by kernel_rfl) (by kernel_rfl) impl_Point_isPrimitive_C impl_Point_isPrimitive_M eqs impl_Point_isPrimitive_lps impl_Point_isPrimitive_jt (fun n => tabC_good (List.forall_mem_cons.2 ⟨(impl_Point_length_good n), (fun _ h => absurd h List.not_mem_nil)⟩)) eqs_ok impl_Point_isPrimitive_Lt ?_ ?_ impl_Point_isPrimitive_sh impl_Point_isPrimitive_run ?_
  · exact (fun _ h => absurd h List.not_mem_nil)
  · exact (fun _ h => absurd h List.not_mem_nil)
  · intro n p κ r ds hd hr
    have hr0 := hr
    unfold impl_Point_isPrimitive_run impl_Point_isPrimitive_runG at hr
    split at hr
    · rw [← ds_of hd]
      exact ⟨en_of (impl_Point_isPrimitive_en _ _) ⟨rfl, rfl⟩, (impl_Point_isPrimitive_ev n _ _ κ).trans hr0⟩
    · cases hr

/-! loop.example/g01297/impl.floor -/
def impl_floor_sh : List SkD := [.int .i64, .int .i64]
def impl_floor_runG {α : Type} (F : T29 α) (n : Nat) (p : List P1) (κ : Res → Option α) : Option α := match p with
  | [.int a, .int b_] => F n a b_ (fun v1 => κ ⟨[.int .i64 v1], []⟩)
  | _ => none
def impl_floor_run {α : Type} (n : Nat) (p : List P1) (κ : Res → Option α) : Option α := impl_floor_runG impl_floor n p κ
def impl_floor_CG {α : Type}  (n : Nat) : FuncId → List D → (Res → Option α) → Option α := tabC []
def impl_floor_C {α : Type} (n : Nat) : FuncId → List D → (Res → Option α) → Option α := impl_floor_CG n
def impl_floor_M : FuncId → List Nat := tabM []
def impl_floor_lpsG {α : Type}  : List (LoopT α) := []
def impl_floor_lps {α : Type} : List (LoopT α) := impl_floor_lpsG
def impl_floor_jt : Nat → Option Tpl := jtOf []
def impl_floor_XG {α : Type}   (n : Nat) : Ctx α := ⟨impl_floor_CG n, impl_floor_M, eqs, lpOf (impl_floor_lpsG) n, impl_floor_jt⟩
def impl_floor_X {α : Type} (n : Nat) : Ctx α := impl_floor_XG n
def impl_floor_Lt (np : Nat) (lent : List (Bool × Nat × Blk)) : Prop := np = 2 ∧ lent = []
def impl_floor_body {α : Type}   (k : Nat) (a : Int) (b_ : Int) (r0 : Int → Option α) : Option α :=
  bif decide (b_ = 0) then
    none
  else
  bif decide (b_ = 0) then
    none
  else
  bif (!decide ((Int.tmod a b_) = 0)) then
    bif (!(decide (a < 0) == decide (b_ < 0))) then
      r0 (w64 ((w64 (Int.tdiv a b_)) - 1))
    else
      r0 (w64 (Int.tdiv a b_))
  else
    r0 (w64 (Int.tdiv a b_))
theorem impl_floor_gen {α : Type}   (n : Nat) (a : Int) (b_ : Int) (κ : Res → Option α) : evFn Try.prog (impl_floor_XG n) Try.f91 (((buildDs impl_floor_sh [.int a, .int b_]).map Prod.fst).getD []) κ = impl_floor_body n a b_ (fun v1 => κ ⟨[.int .i64 v1], []⟩) := by kernel_rfl
theorem impl_floor_eq {α : Type} (n : Nat) (a : Int) (b_ : Int) (r0 : Int → Option α) : impl_floor_body n a b_ r0 = impl_floor n a b_ r0 := (impl_floor_body.eq_1 n a b_ r0).trans (impl_floor.eq_1 n a b_ r0).symm
theorem impl_floor_rn {α : Type} (F : T29 α) (n : Nat) (a : Int) (b_ : Int) (κ : Res → Option α) : impl_floor_runG F n [.int a, .int b_] κ = F n a b_ (fun v1 => κ ⟨[.int .i64 v1], []⟩) := rfl
theorem impl_floor_ev {α : Type} (n : Nat) (a : Int) (b_ : Int) (κ : Res → Option α) : evFn Try.prog (impl_floor_X n) Try.f91 (((buildDs impl_floor_sh [.int a, .int b_]).map Prod.fst).getD []) κ = impl_floor_run n [.int a, .int b_] κ := (impl_floor_gen n a b_ κ).trans ((impl_floor_eq n a b_ (fun v1 => κ ⟨[.int .i64 v1], []⟩)).trans ((impl_floor_run.eq_1 n [.int a, .int b_] κ).trans (impl_floor_rn impl_floor n a b_ κ)).symm)
theorem impl_floor_en (a : Int) (b_ : Int) : (entry 0 (((buildDs impl_floor_sh [.int a, .int b_]).map Prod.fst).getD [])).map (fun x => (x.1.length, x.2.lent)) = some (2, []) := by kernel_rfl
theorem impl_floor_good {α : Type} : ∀ n, GoodFn (α := α) Try.prog 91 (byShape impl_floor_sh (impl_floor_run n)) := by
  refine fn_good' Try.func91 (c := (Try.f91.body.getD .skip)) (by kernel_rfl) (by kernel_rfl) (by kernel_rfl) impl_floor_C impl_floor_M eqs impl_floor_lps impl_floor_jt (fun n => tabC_good (fun _ h => absurd h List.not_mem_nil)) eqs_ok impl_floor_Lt ?_ ?_ impl_floor_sh impl_floor_run ?_
  · exact (fun _ h => absurd h List.not_mem_nil)
  · exact (fun _ h => absurd h List.not_mem_nil)
  · intro n p κ r ds hd hr
    have hr0 := hr
    unfold impl_floor_run impl_floor_runG at hr
    split at hr
    · rw [← ds_of hd]
      exact ⟨en_of (impl_floor_en _ _) ⟨rfl, rfl⟩, (impl_floor_ev n _ _ κ).trans hr0⟩
    · cases hr

/-! loop.example/g01297/impl.mod -/
def impl_mod_sh : List SkD := [.int .i64, .int .i64]
def impl_mod_runG {α : Type} (F : T29 α) (n : Nat) (p : List P1) (κ : Res → Option α) : Option α := match p with
  | [.int a, .int b_] => F n a b_ (fun v1 => κ ⟨[.int .i64 v1], []⟩)
  | _ => none
def impl_mod_run {α : Type} (n : Nat) (p : List P1) (κ : Res → Option α) : Option α := impl_mod_runG impl_mod n p κ
def impl_mod_CG {α : Type} (F0 : T29 α) (n : Nat) : FuncId → List D → (Res → Option α) → Option α := tabC [(91, (byShape impl_floor_sh (impl_floor_runG F0 n)))]
def impl_mod_C {α : Type} (n : Nat) : FuncId → List D → (Res → Option α) → Option α := impl_mod_CG impl_floor n
def impl_mod_M : FuncId → List Nat := tabM []
def impl_mod_lpsG {α : Type}  : List (LoopT α) := []
def impl_mod_lps {α : Type} : List (LoopT α) := impl_mod_lpsG
def impl_mod_jt : Nat → Option Tpl := jtOf []
def impl_mod_XG {α : Type} (F0 : T29 α)  (n : Nat) : Ctx α := ⟨impl_mod_CG F0 n, impl_mod_M, eqs, lpOf (impl_mod_lpsG) n, impl_mod_jt⟩
def impl_mod_X {α : Type} (n : Nat) : Ctx α := impl_mod_XG impl_floor n
def impl_mod_Lt (np : Nat) (lent : List (Bool × Nat × Blk)) : Prop := np = 2 ∧ lent = []
def impl_mod_body {α : Type} (F0 : T29 α)  (k : Nat) (a : Int) (b_ : Int) (r0 : Int → Option α) : Option α :=
  F0 k a b_ fun v =>
  r0 (w64 (a - (w64 (b_ * v))))
theorem impl_mod_gen {α : Type} (F0 : T29 α)  (n : Nat) (a : Int) (b_ : Int) (κ : Res → Option α) : evFn Try.prog (impl_mod_XG F0 n) Try.f85 (((buildDs impl_mod_sh [.int a, .int b_]).map Prod.fst).getD []) κ = impl_mod_body F0 n a b_ (fun v1 => κ ⟨[.int .i64 v1], []⟩) := by kernel_rfl
theorem impl_mod_eq {α : Type} (n : Nat) (a : Int) (b_ : Int) (r0 : Int → Option α) : impl_mod_body impl_floor n a b_ r0 = impl_mod n a b_ r0 := (impl_mod_body.eq_1 impl_floor n a b_ r0).trans (impl_mod.eq_1 n a b_ r0).symm
theorem impl_mod_rn {α : Type} (F : T29 α) (n : Nat) (a : Int) (b_ : Int) (κ : Res → Option α) : impl_mod_runG F n [.int a, .int b_] κ = F n a b_ (fun v1 => κ ⟨[.int .i64 v1], []⟩) := rfl
theorem impl_mod_ev {α : Type} (n : Nat) (a : Int) (b_ : Int) (κ : Res → Option α) : evFn Try.prog (impl_mod_X n) Try.f85 (((buildDs impl_mod_sh [.int a, .int b_]).map Prod.fst).getD []) κ = impl_mod_run n [.int a, .int b_] κ := (impl_mod_gen impl_floor n a b_ κ).trans ((impl_mod_eq n a b_ (fun v1 => κ ⟨[.int .i64 v1], []⟩)).trans ((impl_mod_run.eq_1 n [.int a, .int b_] κ).trans (impl_mod_rn impl_mod n a b_ κ)).symm)
theorem impl_mod_en (a : Int) (b_ : Int) : (entry 0 (((buildDs impl_mod_sh [.int a, .int b_]).map Prod.fst).getD [])).map (fun x => (x.1.length, x.2.lent)) = some (2, []) := by kernel_rfl
theorem impl_mod_good {α : Type} : ∀ n, GoodFn (α := α) Try.prog 85 (byShape impl_mod_sh (impl_mod_run n)) := by
  refine fn_good' Try.func85 (c := (Try.f85.body.getD .skip)) (by kernel_rfl) (by kernel_rfl) (by kernel_rfl) impl_mod_C impl_mod_M eqs impl_mod_lps impl_mod_jt (fun n => tabC_good (List.forall_mem_cons.2 ⟨(impl_floor_good n), (fun _ h => absurd h List.not_mem_nil)⟩)) eqs_ok impl_mod_Lt ?_ ?_ impl_mod_sh impl_mod_run ?_
  · exact (fun _ h => absurd h List.not_mem_nil)
  · exact (fun _ h => absurd h List.not_mem_nil)
  · intro n p κ r ds hd hr
    have hr0 := hr
    unfold impl_mod_run impl_mod_runG at hr
    split at hr
    · rw [← ds_of hd]
      exact ⟨en_of (impl_mod_en _ _) ⟨rfl, rfl⟩, (impl_mod_ev n _ _ κ).trans hr0⟩
    · cases hr

/-! loop.example/g01297/impl.bezout -/
def impl_bezout_sh : List SkD := [.int .i64, .int .i64]
def impl_bezout_runG {α : Type} (F : T29 α) (n : Nat) (p : List P1) (κ : Res → Option α) : Option α := match p with
  | [.int a, .int m] => F n a m (fun v1 => κ ⟨[.int .i64 v1], []⟩)
  | _ => none
def impl_bezout_run {α : Type} (n : Nat) (p : List P1) (κ : Res → Option α) : Option α := impl_bezout_runG impl_bezout n p κ
def impl_bezout_CG {α : Type} (F0 : T29 α) (n : Nat) : FuncId → List D → (Res → Option α) → Option α := tabC [(85, (byShape impl_mod_sh (impl_mod_runG F0 n)))]
def impl_bezout_C {α : Type} (n : Nat) : FuncId → List D → (Res → Option α) → Option α := impl_bezout_CG impl_mod n
def impl_bezout_M : FuncId → List Nat := tabM []
def impl_bezout_t2 : Tpl := ⟨[.any, .int .i64, .any, .any, .any, .int .i64, .int .i64, .int .i64, .int .i64, .any, .any, .any, .any, .any, .any, .any, .any, .any, .any, .any, .any, .any, .any, .any, .any, .any, .any, .any, .any, .any, .any, .any, .any, .any], [], []⟩
def impl_bezout_uG2 {α : Type} (G : Nat → Int → Int → Int → Int → Int → (Int → Int → Int → Int → Int → Option α) → (Int → Option α) → Option α) (n : Nat) (p : List P1) (brk : Nat → List P1 → Option α) (ret : Res → Option α) : Option α := match p with
  | [.int m1, .int r_, .int s, .int x, .int y] => G n m1 r_ s x y (fun m1 r_ s x y => brk 0 [.int m1, .int r_, .int s, .int x, .int y]) (fun v1 => ret ⟨[.int .i64 v1], []⟩)
  | _ => none
def impl_bezout_u2 {α : Type} (n : Nat) (p : List P1) (brk : Nat → List P1 → Option α) (ret : Res → Option α) : Option α := impl_bezout_uG2 impl_bezout_l2 n p brk ret
def impl_bezout_lpsG {α : Type} (G2 : Nat → Int → Int → Int → Int → Int → (Int → Int → Int → Int → Int → Option α) → (Int → Option α) → Option α) : List (LoopT α) := [⟨2, impl_bezout_t2, impl_bezout_uG2 G2⟩]
def impl_bezout_lps {α : Type} : List (LoopT α) := impl_bezout_lpsG impl_bezout_l2
def impl_bezout_jt : Nat → Option Tpl := jtOf []
def impl_bezout_XG {α : Type} (F0 : T29 α) (G2 : Nat → Int → Int → Int → Int → Int → (Int → Int → Int → Int → Int → Option α) → (Int → Option α) → Option α) (n : Nat) : Ctx α := ⟨impl_bezout_CG F0 n, impl_bezout_M, eqs, lpOf (impl_bezout_lpsG G2) n, impl_bezout_jt⟩
def impl_bezout_X {α : Type} (n : Nat) : Ctx α := impl_bezout_XG impl_mod impl_bezout_l2 n
def impl_bezout_Lt (np : Nat) (lent : List (Bool × Nat × Blk)) : Prop := np = 2 ∧ lent = []
def impl_bezout_lb2 {α : Type} (F0 : T29 α) (G2 : Nat → Int → Int → Int → Int → Int → (Int → Int → Int → Int → Int → Option α) → (Int → Option α) → Option α) (k : Nat) (m1 : Int) (r_ : Int) (s : Int) (x : Int) (y : Int) (b0 : Int → Int → Int → Int → Int → Option α) (r0 : Int → Option α) : Option α :=
  bif (!decide (s = 0)) then
    bif decide (s = 0) then
      none
    else
      G2 k m1 s (w64 (r_ - (w64 ((w64 (Int.tdiv r_ s)) * s)))) y (w64 (x - (w64 ((w64 (Int.tdiv r_ s)) * y)))) b0 r0
  else
    b0 m1 r_ s x y
theorem impl_bezout_l2_gen {α : Type} (F0 : T29 α) (G2 : Nat → Int → Int → Int → Int → Int → (Int → Int → Int → Int → Int → Option α) → (Int → Option α) → Option α) (n : Nat) (m1 : Int) (r_ : Int) (s : Int) (x : Int) (y : Int) (brk : Nat → List P1 → Option α) (ret : Res → Option α) : ev ((impl_bezout_XG F0 G2 n).env Try.prog Try.f86 2 []) (findLoop (loopsIn (Try.f86.body.getD .skip)) 2) ((impl_bezout_t2.build [.int m1, .int r_, .int s, .int x, .int y]).getD ⟨[], []⟩) (roundK (2 * 64) impl_bezout_t2 (fun q => impl_bezout_uG2 G2 n q brk ret) brk ret) = impl_bezout_lb2 F0 G2 n m1 r_ s x y (fun m1 r_ s x y => brk 0 [.int m1, .int r_, .int s, .int x, .int y]) (fun v1 => ret ⟨[.int .i64 v1], []⟩) := by kernel_rfl
theorem impl_bezout_l2_eq {α : Type} (k : Nat) (m1 : Int) (r_ : Int) (s : Int) (x : Int) (y : Int) (b0 : Int → Int → Int → Int → Int → Option α) (r0 : Int → Option α) : impl_bezout_lb2 impl_mod impl_bezout_l2 k m1 r_ s x y b0 r0 = impl_bezout_l2 (k + 1) m1 r_ s x y b0 r0 := (impl_bezout_lb2.eq_1 impl_mod impl_bezout_l2 k m1 r_ s x y b0 r0).trans (show impl_bezout_l2 (k + 1) m1 r_ s x y b0 r0 = _ from impl_bezout_l2.eq_2 _ _ _ _ _ _ _ _ ).symm
theorem impl_bezout_l2_rn {α : Type} (G : Nat → Int → Int → Int → Int → Int → (Int → Int → Int → Int → Int → Option α) → (Int → Option α) → Option α) (n : Nat) (m1 : Int) (r_ : Int) (s : Int) (x : Int) (y : Int) (brk : Nat → List P1 → Option α) (ret : Res → Option α) : impl_bezout_uG2 G n [.int m1, .int r_, .int s, .int x, .int y] brk ret = G n m1 r_ s x y (fun m1 r_ s x y => brk 0 [.int m1, .int r_, .int s, .int x, .int y]) (fun v1 => ret ⟨[.int .i64 v1], []⟩) := rfl
theorem impl_bezout_l2_ev {α : Type} (n : Nat) (m1 : Int) (r_ : Int) (s : Int) (x : Int) (y : Int) (brk : Nat → List P1 → Option α) (ret : Res → Option α) : ev ((impl_bezout_X n).env Try.prog Try.f86 2 []) (findLoop (loopsIn (Try.f86.body.getD .skip)) 2) ((impl_bezout_t2.build [.int m1, .int r_, .int s, .int x, .int y]).getD ⟨[], []⟩) (roundK (2 * 64) impl_bezout_t2 (fun q => impl_bezout_u2 n q brk ret) brk ret) = impl_bezout_u2 (n + 1) [.int m1, .int r_, .int s, .int x, .int y] brk ret := (impl_bezout_l2_gen impl_mod impl_bezout_l2 n m1 r_ s x y brk ret).trans ((impl_bezout_l2_eq n m1 r_ s x y (fun m1 r_ s x y => brk 0 [.int m1, .int r_, .int s, .int x, .int y]) (fun v1 => ret ⟨[.int .i64 v1], []⟩)).trans ((impl_bezout_u2.eq_1 (n + 1) [.int m1, .int r_, .int s, .int x, .int y] brk ret).trans (impl_bezout_l2_rn impl_bezout_l2 (n + 1) m1 r_ s x y brk ret)).symm)
def impl_bezout_body {α : Type} (F0 : T29 α) (G2 : Nat → Int → Int → Int → Int → Int → (Int → Int → Int → Int → Int → Option α) → (Int → Option α) → Option α) (k : Nat) (a : Int) (m : Int) (r0 : Int → Option α) : Option α :=
  F0 k a m fun v =>
  G2 k m v m 1 0
    (fun m2 _ _ x1 _ =>
      F0 k x1 m2 fun v1 =>
      r0 v1)
    r0
theorem impl_bezout_gen {α : Type} (F0 : T29 α) (G2 : Nat → Int → Int → Int → Int → Int → (Int → Int → Int → Int → Int → Option α) → (Int → Option α) → Option α) (n : Nat) (a : Int) (m : Int) (κ : Res → Option α) : evFn Try.prog (impl_bezout_XG F0 G2 n) Try.f86 (((buildDs impl_bezout_sh [.int a, .int m]).map Prod.fst).getD []) κ = impl_bezout_body F0 G2 n a m (fun v1 => κ ⟨[.int .i64 v1], []⟩) := by kernel_rfl
theorem impl_bezout_eq {α : Type} (n : Nat) (a : Int) (m : Int) (r0 : Int → Option α) : impl_bezout_body impl_mod impl_bezout_l2 n a m r0 = impl_bezout n a m r0 := (impl_bezout_body.eq_1 impl_mod impl_bezout_l2 n a m r0).trans (impl_bezout.eq_1 n a m r0).symm
theorem impl_bezout_rn {α : Type} (F : T29 α) (n : Nat) (a : Int) (m : Int) (κ : Res → Option α) : impl_bezout_runG F n [.int a, .int m] κ = F n a m (fun v1 => κ ⟨[.int .i64 v1], []⟩) := rfl
theorem impl_bezout_ev {α : Type} (n : Nat) (a : Int) (m : Int) (κ : Res → Option α) : evFn Try.prog (impl_bezout_X n) Try.f86 (((buildDs impl_bezout_sh [.int a, .int m]).map Prod.fst).getD []) κ = impl_bezout_run n [.int a, .int m] κ := (impl_bezout_gen impl_mod impl_bezout_l2 n a m κ).trans ((impl_bezout_eq n a m (fun v1 => κ ⟨[.int .i64 v1], []⟩)).trans ((impl_bezout_run.eq_1 n [.int a, .int m] κ).trans (impl_bezout_rn impl_bezout n a m κ)).symm)
theorem impl_bezout_en (a : Int) (m : Int) : (entry 0 (((buildDs impl_bezout_sh [.int a, .int m]).map Prod.fst).getD [])).map (fun x => (x.1.length, x.2.lent)) = some (2, []) := by kernel_rfl
theorem impl_bezout_good {α : Type} : ∀ n, GoodFn (α := α) Try.prog 86 (byShape impl_bezout_sh (impl_bezout_run n)) := by
  refine fn_good' Try.func86 (c := (Try.f86.body.getD .skip)) (by kernel_rfl) (by kernel_rfl) (by kernel_rfl) impl_bezout_C impl_bezout_M eqs impl_bezout_lps impl_bezout_jt (fun n => tabC_good (List.forall_mem_cons.2 ⟨(impl_mod_good n), (fun _ h => absurd h List.not_mem_nil)⟩)) eqs_ok impl_bezout_Lt ?_ ?_ impl_bezout_sh impl_bezout_run ?_
  · refine List.forall_mem_cons.2 ⟨?_, (fun _ h => absurd h List.not_mem_nil)⟩
    · intro p brk ret; show impl_bezout_u2 0 p brk ret = none; unfold impl_bezout_u2 impl_bezout_uG2; split <;> rfl
  · refine List.forall_mem_cons.2 ⟨?_, (fun _ h => absurd h List.not_mem_nil)⟩
    · intro np lent hL n p brk ret st r hb hr
      obtain ⟨rfl, rfl⟩ := hL
      rw [← tpl_of hb]
      change impl_bezout_u2 (n + 1) p brk ret = some r at hr
      have hr0 := hr
      unfold impl_bezout_u2 impl_bezout_uG2 at hr
      split at hr
      · exact (impl_bezout_l2_ev n _ _ _ _ _ brk ret).trans hr0
      · cases hr
  · intro n p κ r ds hd hr
    have hr0 := hr
    unfold impl_bezout_run impl_bezout_runG at hr
    split at hr
    · rw [← ds_of hd]
      exact ⟨en_of (impl_bezout_en _ _) ⟨rfl, rfl⟩, (impl_bezout_ev n _ _ κ).trans hr0⟩
    · cases hr

/-! (loop.example/g01297/impl.Point).mate -/
def impl_Point_mate_sh : List SkD := [.agg [.int .i64, .int .i64]]
def impl_Point_mate_runG {α : Type} (F : T30 α) (n : Nat) (p : List P1) (κ : Res → Option α) : Option α := match p with
  | [.int a, .int a1] => F n a a1 (fun v1 v2 => κ ⟨[.agg [.int .i64 v1, .int .i64 v2]], []⟩)
  | _ => none
def impl_Point_mate_run {α : Type} (n : Nat) (p : List P1) (κ : Res → Option α) : Option α := impl_Point_mate_runG impl_Point_mate n p κ
def impl_Point_mate_CG {α : Type} (F0 : T16 α) (F1 : T29 α) (F2 : T29 α) (n : Nat) : FuncId → List D → (Res → Option α) → Option α := tabC [(77, (byShape impl_size_sh (impl_size_runG F0 n))), (86, (byShape impl_bezout_sh (impl_bezout_runG F1 n))), (85, (byShape impl_mod_sh (impl_mod_runG F2 n)))]
def impl_Point_mate_C {α : Type} (n : Nat) : FuncId → List D → (Res → Option α) → Option α := impl_Point_mate_CG impl_size impl_bezout impl_mod n
def impl_Point_mate_M : FuncId → List Nat := tabM []
def impl_Point_mate_lpsG {α : Type}  : List (LoopT α) := []
def impl_Point_mate_lps {α : Type} : List (LoopT α) := impl_Point_mate_lpsG
def impl_Point_mate_jt : Nat → Option Tpl := jtOf []
def impl_Point_mate_XG {α : Type} (F0 : T16 α) (F1 : T29 α) (F2 : T29 α)  (n : Nat) : Ctx α := ⟨impl_Point_mate_CG F0 F1 F2 n, impl_Point_mate_M, eqs, lpOf (impl_Point_mate_lpsG) n, impl_Point_mate_jt⟩
def impl_Point_mate_X {α : Type} (n : Nat) : Ctx α := impl_Point_mate_XG impl_size impl_bezout impl_mod n
def impl_Point_mate_Lt (np : Nat) (lent : List (Bool × Nat × Blk)) : Prop := np = 1 ∧ lent = []
def impl_Point_mate_body {α : Type} (F0 : T16 α) (F1 : T29 α) (F2 : T29 α)  (k : Nat) (a : Int) (a1 : Int) (r0 : Int → Int → Option α) : Option α :=
  bif decide (a = 0) then
    r0 (w64 (0 - a1)) 0
  else
    F0 k a fun v =>
    F1 k a1 v fun v1 =>
    F0 k a fun v2 =>
    F2 k (w64 (0 - v1)) v2 fun v3 =>
    bif decide (a = 0) then
      none
    else
      r0 v3 (w64 (Int.tdiv (w64 (1 + (w64 (a1 * v3)))) a))
theorem impl_Point_mate_gen {α : Type} (F0 : T16 α) (F1 : T29 α) (F2 : T29 α)  (n : Nat) (a : Int) (a1 : Int) (κ : Res → Option α) : evFn Try.prog (impl_Point_mate_XG F0 F1 F2 n) Try.f59 (((buildDs impl_Point_mate_sh [.int a, .int a1]).map Prod.fst).getD []) κ = impl_Point_mate_body F0 F1 F2 n a a1 (fun v1 v2 => κ ⟨[.agg [.int .i64 v1, .int .i64 v2]], []⟩) := by kernel_rfl
theorem impl_Point_mate_eq {α : Type} (n : Nat) (a : Int) (a1 : Int) (r0 : Int → Int → Option α) : impl_Point_mate_body impl_size impl_bezout impl_mod n a a1 r0 = impl_Point_mate n a a1 r0 := (impl_Point_mate_body.eq_1 impl_size impl_bezout impl_mod n a a1 r0).trans (impl_Point_mate.eq_1 n a a1 r0).symm
theorem impl_Point_mate_rn {α : Type} (F : T30 α) (n : Nat) (a : Int) (a1 : Int) (κ : Res → Option α) : impl_Point_mate_runG F n [.int a, .int a1] κ = F n a a1 (fun v1 v2 => κ ⟨[.agg [.int .i64 v1, .int .i64 v2]], []⟩) := rfl
theorem impl_Point_mate_ev {α : Type} (n : Nat) (a : Int) (a1 : Int) (κ : Res → Option α) : evFn Try.prog (impl_Point_mate_X n) Try.f59 (((buildDs impl_Point_mate_sh [.int a, .int a1]).map Prod.fst).getD []) κ = impl_Point_mate_run n [.int a, .int a1] κ := (impl_Point_mate_gen impl_size impl_bezout impl_mod n a a1 κ).trans ((impl_Point_mate_eq n a a1 (fun v1 v2 => κ ⟨[.agg [.int .i64 v1, .int .i64 v2]], []⟩)).trans ((impl_Point_mate_run.eq_1 n [.int a, .int a1] κ).trans (impl_Point_mate_rn impl_Point_mate n a a1 κ)).symm)
theorem impl_Point_mate_en (a : Int) (a1 : Int) : (entry 0 (((buildDs impl_Point_mate_sh [.int a, .int a1]).map Prod.fst).getD [])).map (fun x => (x.1.length, x.2.lent)) = some (1, []) := by kernel_rfl
theorem impl_Point_mate_good {α : Type} : ∀ n, GoodFn (α := α) Try.prog 59 (byShape impl_Point_mate_sh (impl_Point_mate_run n)) := by
  refine fn_good' Try.func59 (c := (Try.f59.body.getD .skip)) (by kernel_rfl) (by kernel_rfl) (by kernel_rfl) impl_Point_mate_C impl_Point_mate_M eqs impl_Point_mate_lps impl_Point_mate_jt (fun n => tabC_good (List.forall_mem_cons.2 ⟨(impl_size_good n), (List.forall_mem_cons.2 ⟨(impl_bezout_good n), (List.forall_mem_cons.2 ⟨(impl_mod_good n), (fun _ h => absurd h List.not_mem_nil)⟩)⟩)⟩)) eqs_ok impl_Point_mate_Lt ?_ ?_ impl_Point_mate_sh impl_Point_mate_run ?_
  · exact (fun _ h => absurd h List.not_mem_nil)
  · exact (fun _ h => absurd h List.not_mem_nil)
  · intro n p κ r ds hd hr
    have hr0 := hr
    unfold impl_Point_mate_run impl_Point_mate_runG at hr
    split at hr
    · rw [← ds_of hd]
      exact ⟨en_of (impl_Point_mate_en _ _) ⟨rfl, rfl⟩, (impl_Point_mate_ev n _ _ κ).trans hr0⟩
    · cases hr

/-! loop.example/g01297/impl.MateOf -/
def impl_MateOf_sh : List SkD := [.agg [.int .i64, .int .i64]]
def impl_MateOf_runG {α : Type} (F : T27 α) (n : Nat) (p : List P1) (κ : Res → Option α) : Option α := match p with
  | [.int a, .int a1] => F n a a1 (fun v1 v2 v3 => κ ⟨[.agg [.int .i64 v1, .int .i64 v2], .int .i64 v3], []⟩)
  | _ => none
def impl_MateOf_run {α : Type} (n : Nat) (p : List P1) (κ : Res → Option α) : Option α := impl_MateOf_runG impl_MateOf n p κ
def impl_MateOf_CG {α : Type} (F0 : T11 α) (F1 : T11 α) (F2 : T30 α) (F3 : T27 α) (n : Nat) : FuncId → List D → (Res → Option α) → Option α := tabC [(49, (byShape impl_IsPoint_sh (impl_IsPoint_runG F0 n))), (58, (byShape impl_Point_isPrimitive_sh (impl_Point_isPrimitive_runG F1 n))), (59, (byShape impl_Point_mate_sh (impl_Point_mate_runG F2 n))), (51, (byShape impl_Point_told_sh (impl_Point_told_runG F3 n)))]
def impl_MateOf_C {α : Type} (n : Nat) : FuncId → List D → (Res → Option α) → Option α := impl_MateOf_CG impl_IsPoint impl_Point_isPrimitive impl_Point_mate impl_Point_told n
def impl_MateOf_M : FuncId → List Nat := tabM []
def impl_MateOf_lpsG {α : Type}  : List (LoopT α) := []
def impl_MateOf_lps {α : Type} : List (LoopT α) := impl_MateOf_lpsG
def impl_MateOf_jt : Nat → Option Tpl := jtOf []
def impl_MateOf_XG {α : Type} (F0 : T11 α) (F1 : T11 α) (F2 : T30 α) (F3 : T27 α)  (n : Nat) : Ctx α := ⟨impl_MateOf_CG F0 F1 F2 F3 n, impl_MateOf_M, eqs, lpOf (impl_MateOf_lpsG) n, impl_MateOf_jt⟩
def impl_MateOf_X {α : Type} (n : Nat) : Ctx α := impl_MateOf_XG impl_IsPoint impl_Point_isPrimitive impl_Point_mate impl_Point_told n
def impl_MateOf_Lt (np : Nat) (lent : List (Bool × Nat × Blk)) : Prop := np = 1 ∧ lent = []
def impl_MateOf_body {α : Type} (F0 : T11 α) (F1 : T11 α) (F2 : T30 α) (F3 : T27 α)  (k : Nat) (a : Int) (a1 : Int) (r0 : Int → Int → Int → Option α) : Option α :=
  F0 k a a1 fun v =>
  bif (!v) then
    r0 0 0 1
  else
    F1 k a a1 fun v1 =>
    bif (!v1) then
      r0 0 0 5
    else
      F2 k a a1 fun v2 v3 =>
      F3 k v2 v3 fun v4 v5 v6 =>
      r0 v4 v5 v6
theorem impl_MateOf_gen {α : Type} (F0 : T11 α) (F1 : T11 α) (F2 : T30 α) (F3 : T27 α)  (n : Nat) (a : Int) (a1 : Int) (κ : Res → Option α) : evFn Try.prog (impl_MateOf_XG F0 F1 F2 F3 n) Try.f17 (((buildDs impl_MateOf_sh [.int a, .int a1]).map Prod.fst).getD []) κ = impl_MateOf_body F0 F1 F2 F3 n a a1 (fun v1 v2 v3 => κ ⟨[.agg [.int .i64 v1, .int .i64 v2], .int .i64 v3], []⟩) := by kernel_rfl
theorem impl_MateOf_eq {α : Type} (n : Nat) (a : Int) (a1 : Int) (r0 : Int → Int → Int → Option α) : impl_MateOf_body impl_IsPoint impl_Point_isPrimitive impl_Point_mate impl_Point_told n a a1 r0 = impl_MateOf n a a1 r0 := (impl_MateOf_body.eq_1 impl_IsPoint impl_Point_isPrimitive impl_Point_mate impl_Point_told n a a1 r0).trans (impl_MateOf.eq_1 n a a1 r0).symm
theorem impl_MateOf_rn {α : Type} (F : T27 α) (n : Nat) (a : Int) (a1 : Int) (κ : Res → Option α) : impl_MateOf_runG F n [.int a, .int a1] κ = F n a a1 (fun v1 v2 v3 => κ ⟨[.agg [.int .i64 v1, .int .i64 v2], .int .i64 v3], []⟩) := rfl
theorem impl_MateOf_ev {α : Type} (n : Nat) (a : Int) (a1 : Int) (κ : Res → Option α) : evFn Try.prog (impl_MateOf_X n) Try.f17 (((buildDs impl_MateOf_sh [.int a, .int a1]).map Prod.fst).getD []) κ = impl_MateOf_run n [.int a, .int a1] κ := (impl_MateOf_gen impl_IsPoint impl_Point_isPrimitive impl_Point_mate impl_Point_told n a a1 κ).trans ((impl_MateOf_eq n a a1 (fun v1 v2 v3 => κ ⟨[.agg [.int .i64 v1, .int .i64 v2], .int .i64 v3], []⟩)).trans ((impl_MateOf_run.eq_1 n [.int a, .int a1] κ).trans (impl_MateOf_rn impl_MateOf n a a1 κ)).symm)
theorem impl_MateOf_en (a : Int) (a1 : Int) : (entry 0 (((buildDs impl_MateOf_sh [.int a, .int a1]).map Prod.fst).getD [])).map (fun x => (x.1.length, x.2.lent)) = some (1, []) := by kernel_rfl
theorem impl_MateOf_good {α : Type} : ∀ n, GoodFn (α := α) Try.prog 17 (byShape impl_MateOf_sh (impl_MateOf_run n)) := by
  refine fn_good' Try.func17 (c := (Try.f17.body.getD .skip)) (by kernel_rfl) (by kernel_rfl) (by kernel_rfl) impl_MateOf_C impl_MateOf_M eqs impl_MateOf_lps impl_MateOf_jt (fun n => tabC_good (List.forall_mem_cons.2 ⟨(impl_IsPoint_good n), (List.forall_mem_cons.2 ⟨(impl_Point_isPrimitive_good n), (List.forall_mem_cons.2 ⟨(impl_Point_mate_good n), (List.forall_mem_cons.2 ⟨(impl_Point_told_good n), (fun _ h => absurd h List.not_mem_nil)⟩)⟩)⟩)⟩)) eqs_ok impl_MateOf_Lt ?_ ?_ impl_MateOf_sh impl_MateOf_run ?_
  · exact (fun _ h => absurd h List.not_mem_nil)
  · exact (fun _ h => absurd h List.not_mem_nil)
  · intro n p κ r ds hd hr
    have hr0 := hr
    unfold impl_MateOf_run impl_MateOf_runG at hr
    split at hr
    · rw [← ds_of hd]
      exact ⟨en_of (impl_MateOf_en _ _) ⟨rfl, rfl⟩, (impl_MateOf_ev n _ _ κ).trans hr0⟩
    · cases hr

/-! loop.example/g01297/spec.l01Rest -/
def spec_l01Rest_sh : List SkD := [.int .i64, .int .i64]
def spec_l01Rest_runG {α : Type} (F : T29 α) (n : Nat) (p : List P1) (κ : Res → Option α) : Option α := match p with
  | [.int n_, .int x] => F n n_ x (fun v1 => κ ⟨[.int .i64 v1], []⟩)
  | _ => none
def spec_l01Rest_run {α : Type} (n : Nat) (p : List P1) (κ : Res → Option α) : Option α := spec_l01Rest_runG spec_l01Rest n p κ
def spec_l01Rest_CG {α : Type}  (n : Nat) : FuncId → List D → (Res → Option α) → Option α := tabC []
def spec_l01Rest_C {α : Type} (n : Nat) : FuncId → List D → (Res → Option α) → Option α := spec_l01Rest_CG n
def spec_l01Rest_M : FuncId → List Nat := tabM []
def spec_l01Rest_lpsG {α : Type}  : List (LoopT α) := []
def spec_l01Rest_lps {α : Type} : List (LoopT α) := spec_l01Rest_lpsG
def spec_l01Rest_jt : Nat → Option Tpl := jtOf []
def spec_l01Rest_XG {α : Type}   (n : Nat) : Ctx α := ⟨spec_l01Rest_CG n, spec_l01Rest_M, eqs, lpOf (spec_l01Rest_lpsG) n, spec_l01Rest_jt⟩
def spec_l01Rest_X {α : Type} (n : Nat) : Ctx α := spec_l01Rest_XG n
def spec_l01Rest_Lt (np : Nat) (lent : List (Bool × Nat × Blk)) : Prop := np = 2 ∧ lent = []
def spec_l01Rest_body {α : Type}   (k : Nat) (n_ : Int) (x : Int) (r0 : Int → Option α) : Option α :=
  bif decide (n_ = 0) then
    none
  else
  bif decide (n_ = 0) then
    none
  else
    r0 (Int.tmod (w64 ((Int.tmod x n_) + n_)) n_)
theorem spec_l01Rest_gen {α : Type}   (n : Nat) (n_ : Int) (x : Int) (κ : Res → Option α) : evFn Try.prog (spec_l01Rest_XG n) Try.f87 (((buildDs spec_l01Rest_sh [.int n_, .int x]).map Prod.fst).getD []) κ = spec_l01Rest_body n n_ x (fun v1 => κ ⟨[.int .i64 v1], []⟩) := by kernel_rfl
theorem spec_l01Rest_eq {α : Type} (n : Nat) (n_ : Int) (x : Int) (r0 : Int → Option α) : spec_l01Rest_body n n_ x r0 = spec_l01Rest n n_ x r0 := (spec_l01Rest_body.eq_1 n n_ x r0).trans (spec_l01Rest.eq_1 n n_ x r0).symm
theorem spec_l01Rest_rn {α : Type} (F : T29 α) (n : Nat) (n_ : Int) (x : Int) (κ : Res → Option α) : spec_l01Rest_runG F n [.int n_, .int x] κ = F n n_ x (fun v1 => κ ⟨[.int .i64 v1], []⟩) := rfl
theorem spec_l01Rest_ev {α : Type} (n : Nat) (n_ : Int) (x : Int) (κ : Res → Option α) : evFn Try.prog (spec_l01Rest_X n) Try.f87 (((buildDs spec_l01Rest_sh [.int n_, .int x]).map Prod.fst).getD []) κ = spec_l01Rest_run n [.int n_, .int x] κ := (spec_l01Rest_gen n n_ x κ).trans ((spec_l01Rest_eq n n_ x (fun v1 => κ ⟨[.int .i64 v1], []⟩)).trans ((spec_l01Rest_run.eq_1 n [.int n_, .int x] κ).trans (spec_l01Rest_rn spec_l01Rest n n_ x κ)).symm)
theorem spec_l01Rest_en (n_ : Int) (x : Int) : (entry 0 (((buildDs spec_l01Rest_sh [.int n_, .int x]).map Prod.fst).getD [])).map (fun x => (x.1.length, x.2.lent)) = some (2, []) := by kernel_rfl
theorem spec_l01Rest_good {α : Type} : ∀ n, GoodFn (α := α) Try.prog 87 (byShape spec_l01Rest_sh (spec_l01Rest_run n)) := by
  refine fn_good' Try.func87 (c := (Try.f87.body.getD .skip)) (by kernel_rfl) (by kernel_rfl) (by kernel_rfl) spec_l01Rest_C spec_l01Rest_M eqs spec_l01Rest_lps spec_l01Rest_jt (fun n => tabC_good (fun _ h => absurd h List.not_mem_nil)) eqs_ok spec_l01Rest_Lt ?_ ?_ spec_l01Rest_sh spec_l01Rest_run ?_
  · exact (fun _ h => absurd h List.not_mem_nil)
  · exact (fun _ h => absurd h List.not_mem_nil)
  · intro n p κ r ds hd hr
    have hr0 := hr
    unfold spec_l01Rest_run spec_l01Rest_runG at hr
    split at hr
    · rw [← ds_of hd]
      exact ⟨en_of (spec_l01Rest_en _ _) ⟨rfl, rfl⟩, (spec_l01Rest_ev n _ _ κ).trans hr0⟩
    · cases hr

/-! loop.example/g01297/spec.l01Base -/
def spec_l01Base_sh : List SkD := [.agg [.int .i64, .int .i64]]
def spec_l01Base_runG {α : Type} (F : T30 α) (n : Nat) (p : List P1) (κ : Res → Option α) : Option α := match p with
  | [.int a, .int a1] => F n a a1 (fun v1 v2 => κ ⟨[.agg [.int .i64 v1, .int .i64 v2]], []⟩)
  | _ => none
def spec_l01Base_run {α : Type} (n : Nat) (p : List P1) (κ : Res → Option α) : Option α := spec_l01Base_runG spec_l01Base n p κ
def spec_l01Base_CG {α : Type} (F0 : T29 α) (n : Nat) : FuncId → List D → (Res → Option α) → Option α := tabC [(87, (byShape spec_l01Rest_sh (spec_l01Rest_runG F0 n)))]
def spec_l01Base_C {α : Type} (n : Nat) : FuncId → List D → (Res → Option α) → Option α := spec_l01Base_CG spec_l01Rest n
def spec_l01Base_M : FuncId → List Nat := tabM []
def spec_l01Base_t5 : Tpl := ⟨[.any, .ptr 64 0 0, .ptr 128 0 0, .int .i64, .int .i64, .int .i64, .int .i64, .int .i64, .any, .any, .any, .any, .any, .any, .any, .any, .any, .any, .any, .any, .any, .any, .any, .any, .any, .any, .any, .any, .any, .any, .any, .any, .any, .any, .any, .any, .any, .any, .any, .any, .any, .any, .any, .any, .any, .any, .any, .any, .any, .any, .any, .any, .any, .any, .any, .any, .any, .any], [(64, .ints 2 30 .i64 2), (128, .ints 2 30 .i64 2)], []⟩
def spec_l01Base_uG5 {α : Type} (G : Nat → Int → Int → Int → Int → Int → Int → Int → Int → Int → (Int → Int → Int → Int → Int → Int → Int → Int → Int → Option α) → (Int → Int → Option α) → Option α) (n : Nat) (p : List P1) (brk : Nat → List P1 → Option α) (ret : Res → Option α) : Option α := match p with
  | [.int n_, .int x, .int before, .int rest, .int next, .int a2, .int a3, .int x1, .int x2] => G n n_ x before rest next a2 a3 x1 x2 (fun n_ x before rest next a2 a3 x1 x2 => brk 0 [.int n_, .int x, .int before, .int rest, .int next, .int a2, .int a3, .int x1, .int x2]) (fun v1 v2 => ret ⟨[.agg [.int .i64 v1, .int .i64 v2]], []⟩)
  | _ => none
def spec_l01Base_u5 {α : Type} (n : Nat) (p : List P1) (brk : Nat → List P1 → Option α) (ret : Res → Option α) : Option α := spec_l01Base_uG5 spec_l01Base_l5 n p brk ret
def spec_l01Base_lpsG {α : Type} (G5 : Nat → Int → Int → Int → Int → Int → Int → Int → Int → Int → (Int → Int → Int → Int → Int → Int → Int → Int → Int → Option α) → (Int → Int → Option α) → Option α) : List (LoopT α) := [⟨5, spec_l01Base_t5, spec_l01Base_uG5 G5⟩]
def spec_l01Base_lps {α : Type} : List (LoopT α) := spec_l01Base_lpsG spec_l01Base_l5
def spec_l01Base_jt : Nat → Option Tpl := jtOf []
def spec_l01Base_XG {α : Type} (F0 : T29 α) (G5 : Nat → Int → Int → Int → Int → Int → Int → Int → Int → Int → (Int → Int → Int → Int → Int → Int → Int → Int → Int → Option α) → (Int → Int → Option α) → Option α) (n : Nat) : Ctx α := ⟨spec_l01Base_CG F0 n, spec_l01Base_M, eqs, lpOf (spec_l01Base_lpsG G5) n, spec_l01Base_jt⟩
def spec_l01Base_X {α : Type} (n : Nat) : Ctx α := spec_l01Base_XG spec_l01Rest spec_l01Base_l5 n
def spec_l01Base_Lt (np : Nat) (lent : List (Bool × Nat × Blk)) : Prop := np = 1 ∧ lent = []
def spec_l01Base_lb5 {α : Type} (F0 : T29 α) (G5 : Nat → Int → Int → Int → Int → Int → Int → Int → Int → Int → (Int → Int → Int → Int → Int → Int → Int → Int → Int → Option α) → (Int → Int → Option α) → Option α) (k : Nat) (n_ : Int) (x : Int) (before : Int) (rest : Int) (next : Int) (a2 : Int) (a3 : Int) (x1 : Int) (x2 : Int) (b0 : Int → Int → Int → Int → Int → Int → Int → Int → Int → Option α) (r0 : Int → Int → Option α) : Option α :=
  bif (!decide (next = 0)) then
    bif decide (next = 0) then
      none
    else
      G5 k n_ before (w64 (x - (w64 ((w64 (Int.tdiv rest next)) * before)))) next (w64 (rest - (w64 ((w64 (Int.tdiv rest next)) * next)))) a2 a3 x1 x2 b0 r0
  else
    b0 n_ x before rest next a2 a3 x1 x2
theorem spec_l01Base_l5_gen {α : Type} (F0 : T29 α) (G5 : Nat → Int → Int → Int → Int → Int → Int → Int → Int → Int → (Int → Int → Int → Int → Int → Int → Int → Int → Int → Option α) → (Int → Int → Option α) → Option α) (n : Nat) (n_ : Int) (x : Int) (before : Int) (rest : Int) (next : Int) (a2 : Int) (a3 : Int) (x1 : Int) (x2 : Int) (brk : Nat → List P1 → Option α) (ret : Res → Option α) : ev ((spec_l01Base_XG F0 G5 n).env Try.prog Try.f62 1 []) (findLoop (loopsIn (Try.f62.body.getD .skip)) 5) ((spec_l01Base_t5.build [.int n_, .int x, .int before, .int rest, .int next, .int a2, .int a3, .int x1, .int x2]).getD ⟨[], []⟩) (roundK (1 * 64) spec_l01Base_t5 (fun q => spec_l01Base_uG5 G5 n q brk ret) brk ret) = spec_l01Base_lb5 F0 G5 n n_ x before rest next a2 a3 x1 x2 (fun n_ x before rest next a2 a3 x1 x2 => brk 0 [.int n_, .int x, .int before, .int rest, .int next, .int a2, .int a3, .int x1, .int x2]) (fun v1 v2 => ret ⟨[.agg [.int .i64 v1, .int .i64 v2]], []⟩) := by kernel_rfl
theorem spec_l01Base_l5_eq {α : Type} (k : Nat) (n_ : Int) (x : Int) (before : Int) (rest : Int) (next : Int) (a2 : Int) (a3 : Int) (x1 : Int) (x2 : Int) (b0 : Int → Int → Int → Int → Int → Int → Int → Int → Int → Option α) (r0 : Int → Int → Option α) : spec_l01Base_lb5 spec_l01Rest spec_l01Base_l5 k n_ x before rest next a2 a3 x1 x2 b0 r0 = spec_l01Base_l5 (k + 1) n_ x before rest next a2 a3 x1 x2 b0 r0 := (spec_l01Base_lb5.eq_1 spec_l01Rest spec_l01Base_l5 k n_ x before rest next a2 a3 x1 x2 b0 r0).trans (show spec_l01Base_l5 (k + 1) n_ x before rest next a2 a3 x1 x2 b0 r0 = _ from spec_l01Base_l5.eq_2 _ _ _ _ _ _ _ _ _ _ _ _ ).symm
theorem spec_l01Base_l5_rn {α : Type} (G : Nat → Int → Int → Int → Int → Int → Int → Int → Int → Int → (Int → Int → Int → Int → Int → Int → Int → Int → Int → Option α) → (Int → Int → Option α) → Option α) (n : Nat) (n_ : Int) (x : Int) (before : Int) (rest : Int) (next : Int) (a2 : Int) (a3 : Int) (x1 : Int) (x2 : Int) (brk : Nat → List P1 → Option α) (ret : Res → Option α) : spec_l01Base_uG5 G n [.int n_, .int x, .int before, .int rest, .int next, .int a2, .int a3, .int x1, .int x2] brk ret = G n n_ x before rest next a2 a3 x1 x2 (fun n_ x before rest next a2 a3 x1 x2 => brk 0 [.int n_, .int x, .int before, .int rest, .int next, .int a2, .int a3, .int x1, .int x2]) (fun v1 v2 => ret ⟨[.agg [.int .i64 v1, .int .i64 v2]], []⟩) := rfl
theorem spec_l01Base_l5_ev {α : Type} (n : Nat) (n_ : Int) (x : Int) (before : Int) (rest : Int) (next : Int) (a2 : Int) (a3 : Int) (x1 : Int) (x2 : Int) (brk : Nat → List P1 → Option α) (ret : Res → Option α) : ev ((spec_l01Base_X n).env Try.prog Try.f62 1 []) (findLoop (loopsIn (Try.f62.body.getD .skip)) 5) ((spec_l01Base_t5.build [.int n_, .int x, .int before, .int rest, .int next, .int a2, .int a3, .int x1, .int x2]).getD ⟨[], []⟩) (roundK (1 * 64) spec_l01Base_t5 (fun q => spec_l01Base_u5 n q brk ret) brk ret) = spec_l01Base_u5 (n + 1) [.int n_, .int x, .int before, .int rest, .int next, .int a2, .int a3, .int x1, .int x2] brk ret := (spec_l01Base_l5_gen spec_l01Rest spec_l01Base_l5 n n_ x before rest next a2 a3 x1 x2 brk ret).trans ((spec_l01Base_l5_eq n n_ x before rest next a2 a3 x1 x2 (fun n_ x before rest next a2 a3 x1 x2 => brk 0 [.int n_, .int x, .int before, .int rest, .int next, .int a2, .int a3, .int x1, .int x2]) (fun v1 v2 => ret ⟨[.agg [.int .i64 v1, .int .i64 v2]], []⟩)).trans ((spec_l01Base_u5.eq_1 (n + 1) [.int n_, .int x, .int before, .int rest, .int next, .int a2, .int a3, .int x1, .int x2] brk ret).trans (spec_l01Base_l5_rn spec_l01Base_l5 (n + 1) n_ x before rest next a2 a3 x1 x2 brk ret)).symm)
def spec_l01Base_body {α : Type} (F0 : T29 α) (G5 : Nat → Int → Int → Int → Int → Int → Int → Int → Int → Int → (Int → Int → Int → Int → Int → Int → Int → Int → Int → Option α) → (Int → Int → Option α) → Option α) (k : Nat) (a : Int) (a1 : Int) (r0 : Int → Int → Option α) : Option α :=
  bif decide (a = 0) then
    r0 (w64 (0 - a1)) 0
  else
    F0 k (max a (w64 (0 - a))) a1 fun v =>
    G5 k (max a (w64 (0 - a))) 1 0 v (max a (w64 (0 - a))) a a1 0 0
      (fun n_1 x3 _ _ _ a4 a5 _ _ =>
        F0 k n_1 (w64 (0 - x3)) fun v1 =>
        bif decide (a4 = 0) then
          none
        else
          r0 v1 (w64 (Int.tdiv (w64 (1 + (w64 (a5 * v1)))) a4)))
      r0
theorem spec_l01Base_gen {α : Type} (F0 : T29 α) (G5 : Nat → Int → Int → Int → Int → Int → Int → Int → Int → Int → (Int → Int → Int → Int → Int → Int → Int → Int → Int → Option α) → (Int → Int → Option α) → Option α) (n : Nat) (a : Int) (a1 : Int) (κ : Res → Option α) : evFn Try.prog (spec_l01Base_XG F0 G5 n) Try.f62 (((buildDs spec_l01Base_sh [.int a, .int a1]).map Prod.fst).getD []) κ = spec_l01Base_body F0 G5 n a a1 (fun v1 v2 => κ ⟨[.agg [.int .i64 v1, .int .i64 v2]], []⟩) := by kernel_rfl
theorem spec_l01Base_eq {α : Type} (n : Nat) (a : Int) (a1 : Int) (r0 : Int → Int → Option α) : spec_l01Base_body spec_l01Rest spec_l01Base_l5 n a a1 r0 = spec_l01Base n a a1 r0 := (spec_l01Base_body.eq_1 spec_l01Rest spec_l01Base_l5 n a a1 r0).trans (spec_l01Base.eq_1 n a a1 r0).symm
theorem spec_l01Base_rn {α : Type} (F : T30 α) (n : Nat) (a : Int) (a1 : Int) (κ : Res → Option α) : spec_l01Base_runG F n [.int a, .int a1] κ = F n a a1 (fun v1 v2 => κ ⟨[.agg [.int .i64 v1, .int .i64 v2]], []⟩) := rfl
theorem spec_l01Base_ev {α : Type} (n : Nat) (a : Int) (a1 : Int) (κ : Res → Option α) : evFn Try.prog (spec_l01Base_X n) Try.f62 (((buildDs spec_l01Base_sh [.int a, .int a1]).map Prod.fst).getD []) κ = spec_l01Base_run n [.int a, .int a1] κ := (spec_l01Base_gen spec_l01Rest spec_l01Base_l5 n a a1 κ).trans ((spec_l01Base_eq n a a1 (fun v1 v2 => κ ⟨[.agg [.int .i64 v1, .int .i64 v2]], []⟩)).trans ((spec_l01Base_run.eq_1 n [.int a, .int a1] κ).trans (spec_l01Base_rn spec_l01Base n a a1 κ)).symm)
theorem spec_l01Base_en (a : Int) (a1 : Int) : (entry 0 (((buildDs spec_l01Base_sh [.int a, .int a1]).map Prod.fst).getD [])).map (fun x => (x.1.length, x.2.lent)) = some (1, []) := by kernel_rfl
theorem spec_l01Base_good {α : Type} : ∀ n, GoodFn (α := α) Try.prog 62 (byShape spec_l01Base_sh (spec_l01Base_run n)) := by
  refine fn_good' Try.func62 (c := (Try.f62.body.getD .skip)) (by kernel_rfl) (by kernel_rfl) (by kernel_rfl) spec_l01Base_C spec_l01Base_M eqs spec_l01Base_lps spec_l01Base_jt (fun n => tabC_good (List.forall_mem_cons.2 ⟨(spec_l01Rest_good n), (fun _ h => absurd h List.not_mem_nil)⟩)) eqs_ok spec_l01Base_Lt ?_ ?_ spec_l01Base_sh spec_l01Base_run ?_
  · refine List.forall_mem_cons.2 ⟨?_, (fun _ h => absurd h List.not_mem_nil)⟩
    · intro p brk ret; show spec_l01Base_u5 0 p brk ret = none; unfold spec_l01Base_u5 spec_l01Base_uG5; split <;> rfl
  · refine List.forall_mem_cons.2 ⟨?_, (fun _ h => absurd h List.not_mem_nil)⟩
    · intro np lent hL n p brk ret st r hb hr
      obtain ⟨rfl, rfl⟩ := hL
      rw [← tpl_of hb]
      change spec_l01Base_u5 (n + 1) p brk ret = some r at hr
      have hr0 := hr
      unfold spec_l01Base_u5 spec_l01Base_uG5 at hr
      split at hr
      · exact (spec_l01Base_l5_ev n _ _ _ _ _ _ _ _ _ brk ret).trans hr0
      · cases hr
  · intro n p κ r ds hd hr
    have hr0 := hr
    unfold spec_l01Base_run spec_l01Base_runG at hr
    split at hr
    · rw [← ds_of hd]
      exact ⟨en_of (spec_l01Base_en _ _) ⟨rfl, rfl⟩, (spec_l01Base_ev n _ _ κ).trans hr0⟩
    · cases hr

/-! loop.example/g01297/spec.MateOf -/
def spec_MateOf_sh : List SkD := [.agg [.int .i64, .int .i64]]
def spec_MateOf_runG {α : Type} (F : T27 α) (n : Nat) (p : List P1) (κ : Res → Option α) : Option α := match p with
  | [.int a, .int a1] => F n a a1 (fun v1 v2 v3 => κ ⟨[.agg [.int .i64 v1, .int .i64 v2], .int .i64 v3], []⟩)
  | _ => none
def spec_MateOf_run {α : Type} (n : Nat) (p : List P1) (κ : Res → Option α) : Option α := spec_MateOf_runG spec_MateOf n p κ
def spec_MateOf_CG {α : Type} (F0 : T11 α) (F1 : T29 α) (F2 : T30 α) (n : Nat) : FuncId → List D → (Res → Option α) → Option α := tabC [(60, (byShape spec_l01Is_sh (spec_l01Is_runG F0 n))), (61, (byShape spec_l01Gcd_sh (spec_l01Gcd_runG F1 n))), (62, (byShape spec_l01Base_sh (spec_l01Base_runG F2 n)))]
def spec_MateOf_C {α : Type} (n : Nat) : FuncId → List D → (Res → Option α) → Option α := spec_MateOf_CG spec_l01Is spec_l01Gcd spec_l01Base n
def spec_MateOf_M : FuncId → List Nat := tabM []
def spec_MateOf_lpsG {α : Type}  : List (LoopT α) := []
def spec_MateOf_lps {α : Type} : List (LoopT α) := spec_MateOf_lpsG
def spec_MateOf_jt : Nat → Option Tpl := jtOf []
def spec_MateOf_XG {α : Type} (F0 : T11 α) (F1 : T29 α) (F2 : T30 α)  (n : Nat) : Ctx α := ⟨spec_MateOf_CG F0 F1 F2 n, spec_MateOf_M, eqs, lpOf (spec_MateOf_lpsG) n, spec_MateOf_jt⟩
def spec_MateOf_X {α : Type} (n : Nat) : Ctx α := spec_MateOf_XG spec_l01Is spec_l01Gcd spec_l01Base n
def spec_MateOf_Lt (np : Nat) (lent : List (Bool × Nat × Blk)) : Prop := np = 1 ∧ lent = []
def spec_MateOf_body {α : Type} (F0 : T11 α) (F1 : T29 α) (F2 : T30 α)  (k : Nat) (a : Int) (a1 : Int) (r0 : Int → Int → Int → Option α) : Option α :=
  F0 k a a1 fun v =>
  bif (!v) then
    r0 0 0 1
  else
    F1 k a a1 fun v1 =>
    bif (!decide (v1 = 1)) then
      r0 0 0 5
    else
      F2 k a a1 fun v2 v3 =>
      r0 v2 v3 0
theorem spec_MateOf_gen {α : Type} (F0 : T11 α) (F1 : T29 α) (F2 : T30 α)  (n : Nat) (a : Int) (a1 : Int) (κ : Res → Option α) : evFn Try.prog (spec_MateOf_XG F0 F1 F2 n) Try.f18 (((buildDs spec_MateOf_sh [.int a, .int a1]).map Prod.fst).getD []) κ = spec_MateOf_body F0 F1 F2 n a a1 (fun v1 v2 v3 => κ ⟨[.agg [.int .i64 v1, .int .i64 v2], .int .i64 v3], []⟩) := by kernel_rfl
theorem spec_MateOf_eq {α : Type} (n : Nat) (a : Int) (a1 : Int) (r0 : Int → Int → Int → Option α) : spec_MateOf_body spec_l01Is spec_l01Gcd spec_l01Base n a a1 r0 = spec_MateOf n a a1 r0 := (spec_MateOf_body.eq_1 spec_l01Is spec_l01Gcd spec_l01Base n a a1 r0).trans (spec_MateOf.eq_1 n a a1 r0).symm
theorem spec_MateOf_rn {α : Type} (F : T27 α) (n : Nat) (a : Int) (a1 : Int) (κ : Res → Option α) : spec_MateOf_runG F n [.int a, .int a1] κ = F n a a1 (fun v1 v2 v3 => κ ⟨[.agg [.int .i64 v1, .int .i64 v2], .int .i64 v3], []⟩) := rfl
theorem spec_MateOf_ev {α : Type} (n : Nat) (a : Int) (a1 : Int) (κ : Res → Option α) : evFn Try.prog (spec_MateOf_X n) Try.f18 (((buildDs spec_MateOf_sh [.int a, .int a1]).map Prod.fst).getD []) κ = spec_MateOf_run n [.int a, .int a1] κ := (spec_MateOf_gen spec_l01Is spec_l01Gcd spec_l01Base n a a1 κ).trans ((spec_MateOf_eq n a a1 (fun v1 v2 v3 => κ ⟨[.agg [.int .i64 v1, .int .i64 v2], .int .i64 v3], []⟩)).trans ((spec_MateOf_run.eq_1 n [.int a, .int a1] κ).trans (spec_MateOf_rn spec_MateOf n a a1 κ)).symm)
theorem spec_MateOf_en (a : Int) (a1 : Int) : (entry 0 (((buildDs spec_MateOf_sh [.int a, .int a1]).map Prod.fst).getD [])).map (fun x => (x.1.length, x.2.lent)) = some (1, []) := by kernel_rfl
theorem spec_MateOf_good {α : Type} : ∀ n, GoodFn (α := α) Try.prog 18 (byShape spec_MateOf_sh (spec_MateOf_run n)) := by
  refine fn_good' Try.func18 (c := (Try.f18.body.getD .skip)) (by kernel_rfl) (by kernel_rfl) (by kernel_rfl) spec_MateOf_C spec_MateOf_M eqs spec_MateOf_lps spec_MateOf_jt (fun n => tabC_good (List.forall_mem_cons.2 ⟨(spec_l01Is_good n), (List.forall_mem_cons.2 ⟨(spec_l01Gcd_good n), (List.forall_mem_cons.2 ⟨(spec_l01Base_good n), (fun _ h => absurd h List.not_mem_nil)⟩)⟩)⟩)) eqs_ok spec_MateOf_Lt ?_ ?_ spec_MateOf_sh spec_MateOf_run ?_
  · exact (fun _ h => absurd h List.not_mem_nil)
  · exact (fun _ h => absurd h List.not_mem_nil)
  · intro n p κ r ds hd hr
    have hr0 := hr
    unfold spec_MateOf_run spec_MateOf_runG at hr
    split at hr
    · rw [← ds_of hd]
      exact ⟨en_of (spec_MateOf_en _ _) ⟨rfl, rfl⟩, (spec_MateOf_ev n _ _ κ).trans hr0⟩
    · cases hr

/-! loop.example/g01297/impl.DeterminantOf -/
def impl_DeterminantOf_sh : List SkD := [.agg [.int .i64, .int .i64], .agg [.int .i64, .int .i64]]
def impl_DeterminantOf_runG {α : Type} (F : T23 α) (n : Nat) (p : List P1) (κ : Res → Option α) : Option α := match p with
  | [.int a, .int a1, .int b_, .int b_1] => F n a a1 b_ b_1 (fun v1 v2 => κ ⟨[.int .i64 v1, .int .i64 v2], []⟩)
  | _ => none
def impl_DeterminantOf_run {α : Type} (n : Nat) (p : List P1) (κ : Res → Option α) : Option α := impl_DeterminantOf_runG impl_DeterminantOf n p κ
def impl_DeterminantOf_CG {α : Type} (F0 : T13 α) (F1 : T15 α) (n : Nat) : FuncId → List D → (Res → Option α) → Option α := tabC [(44, (byShape impl_points_sh (impl_points_runG F0 n))), (63, (byShape impl_det_sh (impl_det_runG F1 n)))]
def impl_DeterminantOf_C {α : Type} (n : Nat) : FuncId → List D → (Res → Option α) → Option α := impl_DeterminantOf_CG impl_points impl_det n
def impl_DeterminantOf_M : FuncId → List Nat := tabM []
def impl_DeterminantOf_lpsG {α : Type}  : List (LoopT α) := []
def impl_DeterminantOf_lps {α : Type} : List (LoopT α) := impl_DeterminantOf_lpsG
def impl_DeterminantOf_jt : Nat → Option Tpl := jtOf []
def impl_DeterminantOf_XG {α : Type} (F0 : T13 α) (F1 : T15 α)  (n : Nat) : Ctx α := ⟨impl_DeterminantOf_CG F0 F1 n, impl_DeterminantOf_M, eqs, lpOf (impl_DeterminantOf_lpsG) n, impl_DeterminantOf_jt⟩
def impl_DeterminantOf_X {α : Type} (n : Nat) : Ctx α := impl_DeterminantOf_XG impl_points impl_det n
def impl_DeterminantOf_Lt (np : Nat) (lent : List (Bool × Nat × Blk)) : Prop := np = 2 ∧ lent = []
def impl_DeterminantOf_body {α : Type} (F0 : T13 α) (F1 : T15 α)  (k : Nat) (a : Int) (a1 : Int) (b_ : Int) (b_1 : Int) (r0 : Int → Int → Option α) : Option α :=
  F0 k [(a, a1), (b_, b_1)] fun v =>
  bif (!v) then
    r0 0 1
  else
    F1 k a a1 b_ b_1 fun v1 =>
    r0 v1 0
theorem impl_DeterminantOf_gen {α : Type} (F0 : T13 α) (F1 : T15 α)  (n : Nat) (a : Int) (a1 : Int) (b_ : Int) (b_1 : Int) (κ : Res → Option α) : evFn Try.prog (impl_DeterminantOf_XG F0 F1 n) Try.f19 (((buildDs impl_DeterminantOf_sh [.int a, .int a1, .int b_, .int b_1]).map Prod.fst).getD []) κ = impl_DeterminantOf_body F0 F1 n a a1 b_ b_1 (fun v1 v2 => κ ⟨[.int .i64 v1, .int .i64 v2], []⟩) := by kernel_rfl
theorem impl_DeterminantOf_eq {α : Type} (n : Nat) (a : Int) (a1 : Int) (b_ : Int) (b_1 : Int) (r0 : Int → Int → Option α) : impl_DeterminantOf_body impl_points impl_det n a a1 b_ b_1 r0 = impl_DeterminantOf n a a1 b_ b_1 r0 := (impl_DeterminantOf_body.eq_1 impl_points impl_det n a a1 b_ b_1 r0).trans (impl_DeterminantOf.eq_1 n a a1 b_ b_1 r0).symm
theorem impl_DeterminantOf_rn {α : Type} (F : T23 α) (n : Nat) (a : Int) (a1 : Int) (b_ : Int) (b_1 : Int) (κ : Res → Option α) : impl_DeterminantOf_runG F n [.int a, .int a1, .int b_, .int b_1] κ = F n a a1 b_ b_1 (fun v1 v2 => κ ⟨[.int .i64 v1, .int .i64 v2], []⟩) := rfl
theorem impl_DeterminantOf_ev {α : Type} (n : Nat) (a : Int) (a1 : Int) (b_ : Int) (b_1 : Int) (κ : Res → Option α) : evFn Try.prog (impl_DeterminantOf_X n) Try.f19 (((buildDs impl_DeterminantOf_sh [.int a, .int a1, .int b_, .int b_1]).map Prod.fst).getD []) κ = impl_DeterminantOf_run n [.int a, .int a1, .int b_, .int b_1] κ := (impl_DeterminantOf_gen impl_points impl_det n a a1 b_ b_1 κ).trans ((impl_DeterminantOf_eq n a a1 b_ b_1 (fun v1 v2 => κ ⟨[.int .i64 v1, .int .i64 v2], []⟩)).trans ((impl_DeterminantOf_run.eq_1 n [.int a, .int a1, .int b_, .int b_1] κ).trans (impl_DeterminantOf_rn impl_DeterminantOf n a a1 b_ b_1 κ)).symm)
theorem impl_DeterminantOf_en (a : Int) (a1 : Int) (b_ : Int) (b_1 : Int) : (entry 0 (((buildDs impl_DeterminantOf_sh [.int a, .int a1, .int b_, .int b_1]).map Prod.fst).getD [])).map (fun x => (x.1.length, x.2.lent)) = some (2, []) := by kernel_rfl
theorem impl_DeterminantOf_good {α : Type} : ∀ n, GoodFn (α := α) Try.prog 19 (byShape impl_DeterminantOf_sh (impl_DeterminantOf_run n)) := by
  refine fn_good' Try.func19 (c := (Try.f19.body.getD .skip)) (by kernel_rfl) (by kernel_rfl) (by kernel_rfl) impl_DeterminantOf_C impl_DeterminantOf_M eqs impl_DeterminantOf_lps impl_DeterminantOf_jt (fun n => tabC_good (List.forall_mem_cons.2 ⟨(impl_points_good n), (List.forall_mem_cons.2 ⟨(impl_det_good n), (fun _ h => absurd h List.not_mem_nil)⟩)⟩)) eqs_ok impl_DeterminantOf_Lt ?_ ?_ impl_DeterminantOf_sh impl_DeterminantOf_run ?_
  · exact (fun _ h => absurd h List.not_mem_nil)
  · exact (fun _ h => absurd h List.not_mem_nil)
  · intro n p κ r ds hd hr
    have hr0 := hr
    unfold impl_DeterminantOf_run impl_DeterminantOf_runG at hr
    split at hr
    · rw [← ds_of hd]
      exact ⟨en_of (impl_DeterminantOf_en _ _ _ _) ⟨rfl, rfl⟩, (impl_DeterminantOf_ev n _ _ _ _ κ).trans hr0⟩
    · cases hr

/-! loop.example/g01297/spec.DrawDistanceOf -/
def spec_DrawDistanceOf_sh : List SkD := [.sl 5 (.int .u8)]
def spec_DrawDistanceOf_runG {α : Type} (F : T21 α) (n : Nat) (p : List P1) (κ : Res → Option α) : Option α := match p with
  | [.rows (.int .u8) code] => F n code (fun v1 v2 v3 v4 v5 v6 => κ ⟨[.agg [.int .i64 v1, .int .i64 v2], .agg [.int .i64 v3, .int .i64 v4], .agg [.int .i64 v5, .int .i64 v6]], []⟩)
  | _ => none
def spec_DrawDistanceOf_run {α : Type} (n : Nat) (p : List P1) (κ : Res → Option α) : Option α := spec_DrawDistanceOf_runG spec_DrawDistanceOf n p κ
def spec_DrawDistanceOf_CG {α : Type} (F0 : T1 α) (F1 : T20 α) (F2 : T2 α) (n : Nat) : FuncId → List D → (Res → Option α) → Option α := tabC [(36, (byShape spec_l01From_sh (spec_l01From_runG F0 n))), (43, (byShape spec_l01Spoil_sh (spec_l01Spoil_runG F1 n))), (54, (byShape spec_l01Next_sh (spec_l01Next_runG F2 n)))]
def spec_DrawDistanceOf_C {α : Type} (n : Nat) : FuncId → List D → (Res → Option α) → Option α := spec_DrawDistanceOf_CG spec_l01From spec_l01Spoil spec_l01Next n
def spec_DrawDistanceOf_M : FuncId → List Nat := tabM [(43, [1]), (54, [1])]
def spec_DrawDistanceOf_lpsG {α : Type}  : List (LoopT α) := []
def spec_DrawDistanceOf_lps {α : Type} : List (LoopT α) := spec_DrawDistanceOf_lpsG
def spec_DrawDistanceOf_jt : Nat → Option Tpl := jtOf []
def spec_DrawDistanceOf_XG {α : Type} (F0 : T1 α) (F1 : T20 α) (F2 : T2 α)  (n : Nat) : Ctx α := ⟨spec_DrawDistanceOf_CG F0 F1 F2 n, spec_DrawDistanceOf_M, eqs, lpOf (spec_DrawDistanceOf_lpsG) n, spec_DrawDistanceOf_jt⟩
def spec_DrawDistanceOf_X {α : Type} (n : Nat) : Ctx α := spec_DrawDistanceOf_XG spec_l01From spec_l01Spoil spec_l01Next n
def spec_DrawDistanceOf_Lt (np : Nat) (lent : List (Bool × Nat × Blk)) : Prop := np = 1 ∧ lent = []
def spec_DrawDistanceOf_body {α : Type} (F0 : T1 α) (F1 : T20 α) (F2 : T2 α)  (k : Nat) (code : List Int) (r0 : Int → Int → Int → Int → Int → Int → Option α) : Option α :=
  F0 k code fun v v1 =>
  F1 k code v v1 fun v2 v3 v4 v5 =>
  F2 k code v4 v5 12 fun v6 v7 v8 =>
  bif decide (v6 = 0) then
    F1 k code v7 v8 fun v9 v10 _ _ =>
    r0 v2 v3 v2 v3 v9 v10
  else
    F1 k code v7 v8 fun v13 v14 v15 v16 =>
    F1 k code v15 v16 fun v17 v18 _ _ =>
    r0 v2 v3 v13 v14 v17 v18
theorem spec_DrawDistanceOf_gen {α : Type} (F0 : T1 α) (F1 : T20 α) (F2 : T2 α)  (n : Nat) (code : List Int) (κ : Res → Option α) : evFn Try.prog (spec_DrawDistanceOf_XG F0 F1 F2 n) Try.f20 (((buildDs spec_DrawDistanceOf_sh [.rows (.int .u8) code]).map Prod.fst).getD []) κ = spec_DrawDistanceOf_body F0 F1 F2 n code (fun v1 v2 v3 v4 v5 v6 => κ ⟨[.agg [.int .i64 v1, .int .i64 v2], .agg [.int .i64 v3, .int .i64 v4], .agg [.int .i64 v5, .int .i64 v6]], []⟩) := by kernel_rfl
theorem spec_DrawDistanceOf_eq {α : Type} (n : Nat) (code : List Int) (r0 : Int → Int → Int → Int → Int → Int → Option α) : spec_DrawDistanceOf_body spec_l01From spec_l01Spoil spec_l01Next n code r0 = spec_DrawDistanceOf n code r0 := (spec_DrawDistanceOf_body.eq_1 spec_l01From spec_l01Spoil spec_l01Next n code r0).trans (spec_DrawDistanceOf.eq_1 n code r0).symm
theorem spec_DrawDistanceOf_rn {α : Type} (F : T21 α) (n : Nat) (code : List Int) (κ : Res → Option α) : spec_DrawDistanceOf_runG F n [.rows (.int .u8) code] κ = F n code (fun v1 v2 v3 v4 v5 v6 => κ ⟨[.agg [.int .i64 v1, .int .i64 v2], .agg [.int .i64 v3, .int .i64 v4], .agg [.int .i64 v5, .int .i64 v6]], []⟩) := rfl
theorem spec_DrawDistanceOf_ev {α : Type} (n : Nat) (code : List Int) (κ : Res → Option α) : evFn Try.prog (spec_DrawDistanceOf_X n) Try.f20 (((buildDs spec_DrawDistanceOf_sh [.rows (.int .u8) code]).map Prod.fst).getD []) κ = spec_DrawDistanceOf_run n [.rows (.int .u8) code] κ := (spec_DrawDistanceOf_gen spec_l01From spec_l01Spoil spec_l01Next n code κ).trans ((spec_DrawDistanceOf_eq n code (fun v1 v2 v3 v4 v5 v6 => κ ⟨[.agg [.int .i64 v1, .int .i64 v2], .agg [.int .i64 v3, .int .i64 v4], .agg [.int .i64 v5, .int .i64 v6]], []⟩)).trans ((spec_DrawDistanceOf_run.eq_1 n [.rows (.int .u8) code] κ).trans (spec_DrawDistanceOf_rn spec_DrawDistanceOf n code κ)).symm)
theorem spec_DrawDistanceOf_en (code : List Int) : (entry 0 (((buildDs spec_DrawDistanceOf_sh [.rows (.int .u8) code]).map Prod.fst).getD [])).map (fun x => (x.1.length, x.2.lent)) = some (1, []) := by kernel_rfl
theorem spec_DrawDistanceOf_good {α : Type} : ∀ n, GoodFn (α := α) Try.prog 20 (byShape spec_DrawDistanceOf_sh (spec_DrawDistanceOf_run n)) := by
  refine fn_good' Try.func20 (c := (Try.f20.body.getD .skip)) (by kernel_rfl) (by kernel_rfl) (by kernel_rfl) spec_DrawDistanceOf_C spec_DrawDistanceOf_M eqs spec_DrawDistanceOf_lps spec_DrawDistanceOf_jt (fun n => tabC_good (List.forall_mem_cons.2 ⟨(spec_l01From_good n), (List.forall_mem_cons.2 ⟨(spec_l01Spoil_good n), (List.forall_mem_cons.2 ⟨(spec_l01Next_good n), (fun _ h => absurd h List.not_mem_nil)⟩)⟩)⟩)) eqs_ok spec_DrawDistanceOf_Lt ?_ ?_ spec_DrawDistanceOf_sh spec_DrawDistanceOf_run ?_
  · exact (fun _ h => absurd h List.not_mem_nil)
  · exact (fun _ h => absurd h List.not_mem_nil)
  · intro n p κ r ds hd hr
    have hr0 := hr
    unfold spec_DrawDistanceOf_run spec_DrawDistanceOf_runG at hr
    split at hr
    · rw [← ds_of hd]
      exact ⟨en_of (spec_DrawDistanceOf_en _) ⟨rfl, rfl⟩, (spec_DrawDistanceOf_ev n _ κ).trans hr0⟩
    · cases hr

/-! loop.example/g01297/impl.DistanceOf -/
def impl_DistanceOf_sh : List SkD := [.agg [.int .i64, .int .i64], .agg [.int .i64, .int .i64], .agg [.int .i64, .int .i64]]
def impl_DistanceOf_runG {α : Type} (F : T25 α) (n : Nat) (p : List P1) (κ : Res → Option α) : Option α := match p with
  | [.int a, .int a1, .int b_, .int b_1, .int c, .int c1] => F n a a1 b_ b_1 c c1 (fun v1 v2 => κ ⟨[.int .i64 v1, .int .i64 v2], []⟩)
  | _ => none
def impl_DistanceOf_run {α : Type} (n : Nat) (p : List P1) (κ : Res → Option α) : Option α := impl_DistanceOf_runG impl_DistanceOf n p κ
def impl_DistanceOf_CG {α : Type} (F0 : T13 α) (F1 : T24 α) (F2 : T23 α) (F3 : T29 α) (n : Nat) : FuncId → List D → (Res → Option α) → Option α := tabC [(44, (byShape impl_points_sh (impl_points_runG F0 n))), (45, (byShape impl_area_sh (impl_area_runG F1 n))), (52, (byShape impl_Point_less_sh (impl_Point_less_runG F2 n))), (53, (byShape impl_Point_length_sh (impl_Point_length_runG F3 n)))]
def impl_DistanceOf_C {α : Type} (n : Nat) : FuncId → List D → (Res → Option α) → Option α := impl_DistanceOf_CG impl_points impl_area impl_Point_less impl_Point_length n
def impl_DistanceOf_M : FuncId → List Nat := tabM []
def impl_DistanceOf_lpsG {α : Type}  : List (LoopT α) := []
def impl_DistanceOf_lps {α : Type} : List (LoopT α) := impl_DistanceOf_lpsG
def impl_DistanceOf_jt : Nat → Option Tpl := jtOf []
def impl_DistanceOf_XG {α : Type} (F0 : T13 α) (F1 : T24 α) (F2 : T23 α) (F3 : T29 α)  (n : Nat) : Ctx α := ⟨impl_DistanceOf_CG F0 F1 F2 F3 n, impl_DistanceOf_M, eqs, lpOf (impl_DistanceOf_lpsG) n, impl_DistanceOf_jt⟩
def impl_DistanceOf_X {α : Type} (n : Nat) : Ctx α := impl_DistanceOf_XG impl_points impl_area impl_Point_less impl_Point_length n
def impl_DistanceOf_Lt (np : Nat) (lent : List (Bool × Nat × Blk)) : Prop := np = 3 ∧ lent = []
def impl_DistanceOf_body {α : Type} (F0 : T13 α) (F1 : T24 α) (F2 : T23 α) (F3 : T29 α)  (k : Nat) (a : Int) (a1 : Int) (b_ : Int) (b_1 : Int) (c : Int) (c1 : Int) (r0 : Int → Int → Option α) : Option α :=
  F0 k [(a, a1), (b_, b_1), (c, c1)] fun v =>
  bif (!v) then
    r0 0 1
  else
  bif (decide (a = b_) && decide (a1 = b_1)) then
    r0 0 5
  else
    F1 k a a1 b_ b_1 c c1 fun v1 =>
    F2 k b_ b_1 a a1 fun v2 v3 =>
    F3 k v2 v3 fun v4 =>
    bif decide (v4 = 0) then
      none
    else
      r0 (w64 (Int.tdiv v1 v4)) 0
theorem impl_DistanceOf_gen {α : Type} (F0 : T13 α) (F1 : T24 α) (F2 : T23 α) (F3 : T29 α)  (n : Nat) (a : Int) (a1 : Int) (b_ : Int) (b_1 : Int) (c : Int) (c1 : Int) (κ : Res → Option α) : evFn Try.prog (impl_DistanceOf_XG F0 F1 F2 F3 n) Try.f21 (((buildDs impl_DistanceOf_sh [.int a, .int a1, .int b_, .int b_1, .int c, .int c1]).map Prod.fst).getD []) κ = impl_DistanceOf_body F0 F1 F2 F3 n a a1 b_ b_1 c c1 (fun v1 v2 => κ ⟨[.int .i64 v1, .int .i64 v2], []⟩) := by kernel_rfl
theorem impl_DistanceOf_eq {α : Type} (n : Nat) (a : Int) (a1 : Int) (b_ : Int) (b_1 : Int) (c : Int) (c1 : Int) (r0 : Int → Int → Option α) : impl_DistanceOf_body impl_points impl_area impl_Point_less impl_Point_length n a a1 b_ b_1 c c1 r0 = impl_DistanceOf n a a1 b_ b_1 c c1 r0 := (impl_DistanceOf_body.eq_1 impl_points impl_area impl_Point_less impl_Point_length n a a1 b_ b_1 c c1 r0).trans (impl_DistanceOf.eq_1 n a a1 b_ b_1 c c1 r0).symm
theorem impl_DistanceOf_rn {α : Type} (F : T25 α) (n : Nat) (a : Int) (a1 : Int) (b_ : Int) (b_1 : Int) (c : Int) (c1 : Int) (κ : Res → Option α) : impl_DistanceOf_runG F n [.int a, .int a1, .int b_, .int b_1, .int c, .int c1] κ = F n a a1 b_ b_1 c c1 (fun v1 v2 => κ ⟨[.int .i64 v1, .int .i64 v2], []⟩) := rfl
theorem impl_DistanceOf_ev {α : Type} (n : Nat) (a : Int) (a1 : Int) (b_ : Int) (b_1 : Int) (c : Int) (c1 : Int) (κ : Res → Option α) : evFn Try.prog (impl_DistanceOf_X n) Try.f21 (((buildDs impl_DistanceOf_sh [.int a, .int a1, .int b_, .int b_1, .int c, .int c1]).map Prod.fst).getD []) κ = impl_DistanceOf_run n [.int a, .int a1, .int b_, .int b_1, .int c, .int c1] κ := (impl_DistanceOf_gen impl_points impl_area impl_Point_less impl_Point_length n a a1 b_ b_1 c c1 κ).trans ((impl_DistanceOf_eq n a a1 b_ b_1 c c1 (fun v1 v2 => κ ⟨[.int .i64 v1, .int .i64 v2], []⟩)).trans ((impl_DistanceOf_run.eq_1 n [.int a, .int a1, .int b_, .int b_1, .int c, .int c1] κ).trans (impl_DistanceOf_rn impl_DistanceOf n a a1 b_ b_1 c c1 κ)).symm)
theorem impl_DistanceOf_en (a : Int) (a1 : Int) (b_ : Int) (b_1 : Int) (c : Int) (c1 : Int) : (entry 0 (((buildDs impl_DistanceOf_sh [.int a, .int a1, .int b_, .int b_1, .int c, .int c1]).map Prod.fst).getD [])).map (fun x => (x.1.length, x.2.lent)) = some (3, []) := by kernel_rfl
theorem impl_DistanceOf_good {α : Type} : ∀ n, GoodFn (α := α) Try.prog 21 (byShape impl_DistanceOf_sh (impl_DistanceOf_run n)) := by
  refine fn_good' Try.func21 (c := (Try.f21.body.getD .skip)) (by kernel_rfl) (by kernel_rfl) (by kernel_rfl) impl_DistanceOf_C impl_DistanceOf_M eqs impl_DistanceOf_lps impl_DistanceOf_jt (fun n => tabC_good (List.forall_mem_cons.2 ⟨(impl_points_good n), (List.forall_mem_cons.2 ⟨(impl_area_good n), (List.forall_mem_cons.2 ⟨(impl_Point_less_good n), (List.forall_mem_cons.2 ⟨(impl_Point_length_good n), (fun _ h => absurd h List.not_mem_nil)⟩)⟩)⟩)⟩)) eqs_ok impl_DistanceOf_Lt ?_ ?_ impl_DistanceOf_sh impl_DistanceOf_run ?_
  · exact (fun _ h => absurd h List.not_mem_nil)
  · exact (fun _ h => absurd h List.not_mem_nil)
  · intro n p κ r ds hd hr
    have hr0 := hr
    unfold impl_DistanceOf_run impl_DistanceOf_runG at hr
    split at hr
    · rw [← ds_of hd]
      exact ⟨en_of (impl_DistanceOf_en _ _ _ _ _ _) ⟨rfl, rfl⟩, (impl_DistanceOf_ev n _ _ _ _ _ _ κ).trans hr0⟩
    · cases hr

/-! loop.example/g01297/spec.l01Length -/
def spec_l01Length_sh : List SkD := [.agg [.int .i64, .int .i64], .agg [.int .i64, .int .i64]]
def spec_l01Length_runG {α : Type} (F : T15 α) (n : Nat) (p : List P1) (κ : Res → Option α) : Option α := match p with
  | [.int a, .int a1, .int b_, .int b_1] => F n a a1 b_ b_1 (fun v1 => κ ⟨[.int .i64 v1], []⟩)
  | _ => none
def spec_l01Length_run {α : Type} (n : Nat) (p : List P1) (κ : Res → Option α) : Option α := spec_l01Length_runG spec_l01Length n p κ
def spec_l01Length_CG {α : Type} (F0 : T29 α) (n : Nat) : FuncId → List D → (Res → Option α) → Option α := tabC [(61, (byShape spec_l01Gcd_sh (spec_l01Gcd_runG F0 n)))]
def spec_l01Length_C {α : Type} (n : Nat) : FuncId → List D → (Res → Option α) → Option α := spec_l01Length_CG spec_l01Gcd n
def spec_l01Length_M : FuncId → List Nat := tabM []
def spec_l01Length_lpsG {α : Type}  : List (LoopT α) := []
def spec_l01Length_lps {α : Type} : List (LoopT α) := spec_l01Length_lpsG
def spec_l01Length_jt : Nat → Option Tpl := jtOf []
def spec_l01Length_XG {α : Type} (F0 : T29 α)  (n : Nat) : Ctx α := ⟨spec_l01Length_CG F0 n, spec_l01Length_M, eqs, lpOf (spec_l01Length_lpsG) n, spec_l01Length_jt⟩
def spec_l01Length_X {α : Type} (n : Nat) : Ctx α := spec_l01Length_XG spec_l01Gcd n
def spec_l01Length_Lt (np : Nat) (lent : List (Bool × Nat × Blk)) : Prop := np = 2 ∧ lent = []
def spec_l01Length_body {α : Type} (F0 : T29 α)  (k : Nat) (a : Int) (a1 : Int) (b_ : Int) (b_1 : Int) (r0 : Int → Option α) : Option α :=
  F0 k (w64 (b_ - a)) (w64 (b_1 - a1)) fun v =>
  r0 v
theorem spec_l01Length_gen {α : Type} (F0 : T29 α)  (n : Nat) (a : Int) (a1 : Int) (b_ : Int) (b_1 : Int) (κ : Res → Option α) : evFn Try.prog (spec_l01Length_XG F0 n) Try.f64 (((buildDs spec_l01Length_sh [.int a, .int a1, .int b_, .int b_1]).map Prod.fst).getD []) κ = spec_l01Length_body F0 n a a1 b_ b_1 (fun v1 => κ ⟨[.int .i64 v1], []⟩) := by kernel_rfl
theorem spec_l01Length_eq {α : Type} (n : Nat) (a : Int) (a1 : Int) (b_ : Int) (b_1 : Int) (r0 : Int → Option α) : spec_l01Length_body spec_l01Gcd n a a1 b_ b_1 r0 = spec_l01Length n a a1 b_ b_1 r0 := (spec_l01Length_body.eq_1 spec_l01Gcd n a a1 b_ b_1 r0).trans (spec_l01Length.eq_1 n a a1 b_ b_1 r0).symm
theorem spec_l01Length_rn {α : Type} (F : T15 α) (n : Nat) (a : Int) (a1 : Int) (b_ : Int) (b_1 : Int) (κ : Res → Option α) : spec_l01Length_runG F n [.int a, .int a1, .int b_, .int b_1] κ = F n a a1 b_ b_1 (fun v1 => κ ⟨[.int .i64 v1], []⟩) := rfl
theorem spec_l01Length_ev {α : Type} (n : Nat) (a : Int) (a1 : Int) (b_ : Int) (b_1 : Int) (κ : Res → Option α) : evFn Try.prog (spec_l01Length_X n) Try.f64 (((buildDs spec_l01Length_sh [.int a, .int a1, .int b_, .int b_1]).map Prod.fst).getD []) κ = spec_l01Length_run n [.int a, .int a1, .int b_, .int b_1] κ := (spec_l01Length_gen spec_l01Gcd n a a1 b_ b_1 κ).trans ((spec_l01Length_eq n a a1 b_ b_1 (fun v1 => κ ⟨[.int .i64 v1], []⟩)).trans ((spec_l01Length_run.eq_1 n [.int a, .int a1, .int b_, .int b_1] κ).trans (spec_l01Length_rn spec_l01Length n a a1 b_ b_1 κ)).symm)
theorem spec_l01Length_en (a : Int) (a1 : Int) (b_ : Int) (b_1 : Int) : (entry 0 (((buildDs spec_l01Length_sh [.int a, .int a1, .int b_, .int b_1]).map Prod.fst).getD [])).map (fun x => (x.1.length, x.2.lent)) = some (2, []) := by kernel_rfl
theorem spec_l01Length_good {α : Type} : ∀ n, GoodFn (α := α) Try.prog 64 (byShape spec_l01Length_sh (spec_l01Length_run n)) := by
  refine fn_good' Try.func64 (c := (Try.f64.body.getD .skip)) (by kernel_rfl) (by kernel_rfl) (by kernel_rfl) spec_l01Length_C spec_l01Length_M eqs spec_l01Length_lps spec_l01Length_jt (fun n => tabC_good (List.forall_mem_cons.2 ⟨(spec_l01Gcd_good n), (fun _ h => absurd h List.not_mem_nil)⟩)) eqs_ok spec_l01Length_Lt ?_ ?_ spec_l01Length_sh spec_l01Length_run ?_
  · exact (fun _ h => absurd h List.not_mem_nil)
  · exact (fun _ h => absurd h List.not_mem_nil)
  · intro n p κ r ds hd hr
    have hr0 := hr
    unfold spec_l01Length_run spec_l01Length_runG at hr
    split at hr
    · rw [← ds_of hd]
      exact ⟨en_of (spec_l01Length_en _ _ _ _) ⟨rfl, rfl⟩, (spec_l01Length_ev n _ _ _ _ κ).trans hr0⟩
    · cases hr

/-! loop.example/g01297/spec.DistanceOf -/
def spec_DistanceOf_sh : List SkD := [.agg [.int .i64, .int .i64], .agg [.int .i64, .int .i64], .agg [.int .i64, .int .i64]]
def spec_DistanceOf_runG {α : Type} (F : T25 α) (n : Nat) (p : List P1) (κ : Res → Option α) : Option α := match p with
  | [.int a, .int a1, .int b_, .int b_1, .int c, .int c1] => F n a a1 b_ b_1 c c1 (fun v1 v2 => κ ⟨[.int .i64 v1, .int .i64 v2], []⟩)
  | _ => none
def spec_DistanceOf_run {α : Type} (n : Nat) (p : List P1) (κ : Res → Option α) : Option α := spec_DistanceOf_runG spec_DistanceOf n p κ
def spec_DistanceOf_CG {α : Type} (F0 : T12 α) (F1 : T24 α) (F2 : T15 α) (n : Nat) : FuncId → List D → (Res → Option α) → Option α := tabC [(46, (byShape spec_l01Code_sh (spec_l01Code_runG F0 n))), (47, (byShape spec_l01Area_sh (spec_l01Area_runG F1 n))), (64, (byShape spec_l01Length_sh (spec_l01Length_runG F2 n)))]
def spec_DistanceOf_C {α : Type} (n : Nat) : FuncId → List D → (Res → Option α) → Option α := spec_DistanceOf_CG spec_l01Code spec_l01Area spec_l01Length n
def spec_DistanceOf_M : FuncId → List Nat := tabM []
def spec_DistanceOf_lpsG {α : Type}  : List (LoopT α) := []
def spec_DistanceOf_lps {α : Type} : List (LoopT α) := spec_DistanceOf_lpsG
def spec_DistanceOf_jt : Nat → Option Tpl := jtOf []
def spec_DistanceOf_XG {α : Type} (F0 : T12 α) (F1 : T24 α) (F2 : T15 α)  (n : Nat) : Ctx α := ⟨spec_DistanceOf_CG F0 F1 F2 n, spec_DistanceOf_M, eqs, lpOf (spec_DistanceOf_lpsG) n, spec_DistanceOf_jt⟩
def spec_DistanceOf_X {α : Type} (n : Nat) : Ctx α := spec_DistanceOf_XG spec_l01Code spec_l01Area spec_l01Length n
def spec_DistanceOf_Lt (np : Nat) (lent : List (Bool × Nat × Blk)) : Prop := np = 3 ∧ lent = []
def spec_DistanceOf_body {α : Type} (F0 : T12 α) (F1 : T24 α) (F2 : T15 α)  (k : Nat) (a : Int) (a1 : Int) (b_ : Int) (b_1 : Int) (c : Int) (c1 : Int) (r0 : Int → Int → Option α) : Option α :=
  F0 k [(a, a1), (b_, b_1), (c, c1)] fun v =>
  bif (!decide (v = 0)) then
    r0 0 v
  else
  bif (decide (a = b_) && decide (a1 = b_1)) then
    r0 0 5
  else
    F1 k a a1 b_ b_1 c c1 fun v1 =>
    F2 k a a1 b_ b_1 fun v2 =>
    bif decide (v2 = 0) then
      none
    else
      r0 (w64 (Int.tdiv v1 v2)) 0
theorem spec_DistanceOf_gen {α : Type} (F0 : T12 α) (F1 : T24 α) (F2 : T15 α)  (n : Nat) (a : Int) (a1 : Int) (b_ : Int) (b_1 : Int) (c : Int) (c1 : Int) (κ : Res → Option α) : evFn Try.prog (spec_DistanceOf_XG F0 F1 F2 n) Try.f22 (((buildDs spec_DistanceOf_sh [.int a, .int a1, .int b_, .int b_1, .int c, .int c1]).map Prod.fst).getD []) κ = spec_DistanceOf_body F0 F1 F2 n a a1 b_ b_1 c c1 (fun v1 v2 => κ ⟨[.int .i64 v1, .int .i64 v2], []⟩) := by kernel_rfl
theorem spec_DistanceOf_eq {α : Type} (n : Nat) (a : Int) (a1 : Int) (b_ : Int) (b_1 : Int) (c : Int) (c1 : Int) (r0 : Int → Int → Option α) : spec_DistanceOf_body spec_l01Code spec_l01Area spec_l01Length n a a1 b_ b_1 c c1 r0 = spec_DistanceOf n a a1 b_ b_1 c c1 r0 := (spec_DistanceOf_body.eq_1 spec_l01Code spec_l01Area spec_l01Length n a a1 b_ b_1 c c1 r0).trans (spec_DistanceOf.eq_1 n a a1 b_ b_1 c c1 r0).symm
theorem spec_DistanceOf_rn {α : Type} (F : T25 α) (n : Nat) (a : Int) (a1 : Int) (b_ : Int) (b_1 : Int) (c : Int) (c1 : Int) (κ : Res → Option α) : spec_DistanceOf_runG F n [.int a, .int a1, .int b_, .int b_1, .int c, .int c1] κ = F n a a1 b_ b_1 c c1 (fun v1 v2 => κ ⟨[.int .i64 v1, .int .i64 v2], []⟩) := rfl
theorem spec_DistanceOf_ev {α : Type} (n : Nat) (a : Int) (a1 : Int) (b_ : Int) (b_1 : Int) (c : Int) (c1 : Int) (κ : Res → Option α) : evFn Try.prog (spec_DistanceOf_X n) Try.f22 (((buildDs spec_DistanceOf_sh [.int a, .int a1, .int b_, .int b_1, .int c, .int c1]).map Prod.fst).getD []) κ = spec_DistanceOf_run n [.int a, .int a1, .int b_, .int b_1, .int c, .int c1] κ := (spec_DistanceOf_gen spec_l01Code spec_l01Area spec_l01Length n a a1 b_ b_1 c c1 κ).trans ((spec_DistanceOf_eq n a a1 b_ b_1 c c1 (fun v1 v2 => κ ⟨[.int .i64 v1, .int .i64 v2], []⟩)).trans ((spec_DistanceOf_run.eq_1 n [.int a, .int a1, .int b_, .int b_1, .int c, .int c1] κ).trans (spec_DistanceOf_rn spec_DistanceOf n a a1 b_ b_1 c c1 κ)).symm)
theorem spec_DistanceOf_en (a : Int) (a1 : Int) (b_ : Int) (b_1 : Int) (c : Int) (c1 : Int) : (entry 0 (((buildDs spec_DistanceOf_sh [.int a, .int a1, .int b_, .int b_1, .int c, .int c1]).map Prod.fst).getD [])).map (fun x => (x.1.length, x.2.lent)) = some (3, []) := by kernel_rfl
theorem spec_DistanceOf_good {α : Type} : ∀ n, GoodFn (α := α) Try.prog 22 (byShape spec_DistanceOf_sh (spec_DistanceOf_run n)) := by
  refine fn_good' Try.func22 (c := (Try.f22.body.getD .skip)) (by kernel_rfl) (by kernel_rfl) (by kernel_rfl) spec_DistanceOf_C spec_DistanceOf_M eqs spec_DistanceOf_lps spec_DistanceOf_jt (fun n => tabC_good (List.forall_mem_cons.2 ⟨(spec_l01Code_good n), (List.forall_mem_cons.2 ⟨(spec_l01Area_good n), (List.forall_mem_cons.2 ⟨(spec_l01Length_good n), (fun _ h => absurd h List.not_mem_nil)⟩)⟩)⟩)) eqs_ok spec_DistanceOf_Lt ?_ ?_ spec_DistanceOf_sh spec_DistanceOf_run ?_
  · exact (fun _ h => absurd h List.not_mem_nil)
  · exact (fun _ h => absurd h List.not_mem_nil)
  · intro n p κ r ds hd hr
    have hr0 := hr
    unfold spec_DistanceOf_run spec_DistanceOf_runG at hr
    split at hr
    · rw [← ds_of hd]
      exact ⟨en_of (spec_DistanceOf_en _ _ _ _ _ _) ⟨rfl, rfl⟩, (spec_DistanceOf_ev n _ _ _ _ _ _ κ).trans hr0⟩
    · cases hr

/-! loop.example/g01297/spec.DrawPrimitiveOf -/
def spec_DrawPrimitiveOf_sh : List SkD := [.sl 5 (.int .u8)]
def spec_DrawPrimitiveOf_runG {α : Type} (F : T1 α) (n : Nat) (p : List P1) (κ : Res → Option α) : Option α := match p with
  | [.rows (.int .u8) code] => F n code (fun v1 v2 => κ ⟨[.agg [.int .i64 v1, .int .i64 v2]], []⟩)
  | _ => none
def spec_DrawPrimitiveOf_run {α : Type} (n : Nat) (p : List P1) (κ : Res → Option α) : Option α := spec_DrawPrimitiveOf_runG spec_DrawPrimitiveOf n p κ
def spec_DrawPrimitiveOf_CG {α : Type} (F0 : T1 α) (F1 : T20 α) (n : Nat) : FuncId → List D → (Res → Option α) → Option α := tabC [(36, (byShape spec_l01From_sh (spec_l01From_runG F0 n))), (43, (byShape spec_l01Spoil_sh (spec_l01Spoil_runG F1 n)))]
def spec_DrawPrimitiveOf_C {α : Type} (n : Nat) : FuncId → List D → (Res → Option α) → Option α := spec_DrawPrimitiveOf_CG spec_l01From spec_l01Spoil n
def spec_DrawPrimitiveOf_M : FuncId → List Nat := tabM [(43, [1])]
def spec_DrawPrimitiveOf_lpsG {α : Type}  : List (LoopT α) := []
def spec_DrawPrimitiveOf_lps {α : Type} : List (LoopT α) := spec_DrawPrimitiveOf_lpsG
def spec_DrawPrimitiveOf_jt : Nat → Option Tpl := jtOf []
def spec_DrawPrimitiveOf_XG {α : Type} (F0 : T1 α) (F1 : T20 α)  (n : Nat) : Ctx α := ⟨spec_DrawPrimitiveOf_CG F0 F1 n, spec_DrawPrimitiveOf_M, eqs, lpOf (spec_DrawPrimitiveOf_lpsG) n, spec_DrawPrimitiveOf_jt⟩
def spec_DrawPrimitiveOf_X {α : Type} (n : Nat) : Ctx α := spec_DrawPrimitiveOf_XG spec_l01From spec_l01Spoil n
def spec_DrawPrimitiveOf_Lt (np : Nat) (lent : List (Bool × Nat × Blk)) : Prop := np = 1 ∧ lent = []
def spec_DrawPrimitiveOf_body {α : Type} (F0 : T1 α) (F1 : T20 α)  (k : Nat) (code : List Int) (r0 : Int → Int → Option α) : Option α :=
  F0 k code fun v v1 =>
  F1 k code v v1 fun v2 v3 _ _ =>
  r0 v2 v3
theorem spec_DrawPrimitiveOf_gen {α : Type} (F0 : T1 α) (F1 : T20 α)  (n : Nat) (code : List Int) (κ : Res → Option α) : evFn Try.prog (spec_DrawPrimitiveOf_XG F0 F1 n) Try.f23 (((buildDs spec_DrawPrimitiveOf_sh [.rows (.int .u8) code]).map Prod.fst).getD []) κ = spec_DrawPrimitiveOf_body F0 F1 n code (fun v1 v2 => κ ⟨[.agg [.int .i64 v1, .int .i64 v2]], []⟩) := by kernel_rfl
theorem spec_DrawPrimitiveOf_eq {α : Type} (n : Nat) (code : List Int) (r0 : Int → Int → Option α) : spec_DrawPrimitiveOf_body spec_l01From spec_l01Spoil n code r0 = spec_DrawPrimitiveOf n code r0 := (spec_DrawPrimitiveOf_body.eq_1 spec_l01From spec_l01Spoil n code r0).trans (spec_DrawPrimitiveOf.eq_1 n code r0).symm
theorem spec_DrawPrimitiveOf_rn {α : Type} (F : T1 α) (n : Nat) (code : List Int) (κ : Res → Option α) : spec_DrawPrimitiveOf_runG F n [.rows (.int .u8) code] κ = F n code (fun v1 v2 => κ ⟨[.agg [.int .i64 v1, .int .i64 v2]], []⟩) := rfl
theorem spec_DrawPrimitiveOf_ev {α : Type} (n : Nat) (code : List Int) (κ : Res → Option α) : evFn Try.prog (spec_DrawPrimitiveOf_X n) Try.f23 (((buildDs spec_DrawPrimitiveOf_sh [.rows (.int .u8) code]).map Prod.fst).getD []) κ = spec_DrawPrimitiveOf_run n [.rows (.int .u8) code] κ := (spec_DrawPrimitiveOf_gen spec_l01From spec_l01Spoil n code κ).trans ((spec_DrawPrimitiveOf_eq n code (fun v1 v2 => κ ⟨[.agg [.int .i64 v1, .int .i64 v2]], []⟩)).trans ((spec_DrawPrimitiveOf_run.eq_1 n [.rows (.int .u8) code] κ).trans (spec_DrawPrimitiveOf_rn spec_DrawPrimitiveOf n code κ)).symm)
theorem spec_DrawPrimitiveOf_en (code : List Int) : (entry 0 (((buildDs spec_DrawPrimitiveOf_sh [.rows (.int .u8) code]).map Prod.fst).getD [])).map (fun x => (x.1.length, x.2.lent)) = some (1, []) := by kernel_rfl
theorem spec_DrawPrimitiveOf_good {α : Type} : ∀ n, GoodFn (α := α) Try.prog 23 (byShape spec_DrawPrimitiveOf_sh (spec_DrawPrimitiveOf_run n)) := by
  refine fn_good' Try.func23 (c := (Try.f23.body.getD .skip)) (by kernel_rfl) (by kernel_rfl) (by kernel_rfl) spec_DrawPrimitiveOf_C spec_DrawPrimitiveOf_M eqs spec_DrawPrimitiveOf_lps spec_DrawPrimitiveOf_jt (fun n => tabC_good (List.forall_mem_cons.2 ⟨(spec_l01From_good n), (List.forall_mem_cons.2 ⟨(spec_l01Spoil_good n), (fun _ h => absurd h List.not_mem_nil)⟩)⟩)) eqs_ok spec_DrawPrimitiveOf_Lt ?_ ?_ spec_DrawPrimitiveOf_sh spec_DrawPrimitiveOf_run ?_
  · exact (fun _ h => absurd h List.not_mem_nil)
  · exact (fun _ h => absurd h List.not_mem_nil)
  · intro n p κ r ds hd hr
    have hr0 := hr
    unfold spec_DrawPrimitiveOf_run spec_DrawPrimitiveOf_runG at hr
    split at hr
    · rw [← ds_of hd]
      exact ⟨en_of (spec_DrawPrimitiveOf_en _) ⟨rfl, rfl⟩, (spec_DrawPrimitiveOf_ev n _ κ).trans hr0⟩
    · cases hr

/-! (loop.example/g01297/impl.Point).primitive -/
def impl_Point_primitive_sh : List SkD := [.agg [.int .i64, .int .i64]]
def impl_Point_primitive_runG {α : Type} (F : T30 α) (n : Nat) (p : List P1) (κ : Res → Option α) : Option α := match p with
  | [.int a, .int a1] => F n a a1 (fun v1 v2 => κ ⟨[.agg [.int .i64 v1, .int .i64 v2]], []⟩)
  | _ => none
def impl_Point_primitive_run {α : Type} (n : Nat) (p : List P1) (κ : Res → Option α) : Option α := impl_Point_primitive_runG impl_Point_primitive n p κ
def impl_Point_primitive_CG {α : Type} (F0 : T29 α) (n : Nat) : FuncId → List D → (Res → Option α) → Option α := tabC [(53, (byShape impl_Point_length_sh (impl_Point_length_runG F0 n)))]
def impl_Point_primitive_C {α : Type} (n : Nat) : FuncId → List D → (Res → Option α) → Option α := impl_Point_primitive_CG impl_Point_length n
def impl_Point_primitive_M : FuncId → List Nat := tabM []
def impl_Point_primitive_lpsG {α : Type}  : List (LoopT α) := []
def impl_Point_primitive_lps {α : Type} : List (LoopT α) := impl_Point_primitive_lpsG
def impl_Point_primitive_jt : Nat → Option Tpl := jtOf []
def impl_Point_primitive_XG {α : Type} (F0 : T29 α)  (n : Nat) : Ctx α := ⟨impl_Point_primitive_CG F0 n, impl_Point_primitive_M, eqs, lpOf (impl_Point_primitive_lpsG) n, impl_Point_primitive_jt⟩
def impl_Point_primitive_X {α : Type} (n : Nat) : Ctx α := impl_Point_primitive_XG impl_Point_length n
def impl_Point_primitive_Lt (np : Nat) (lent : List (Bool × Nat × Blk)) : Prop := np = 1 ∧ lent = []
def impl_Point_primitive_body {α : Type} (F0 : T29 α)  (k : Nat) (a : Int) (a1 : Int) (r0 : Int → Int → Option α) : Option α :=
  F0 k a a1 fun v =>
  bif decide (v = 0) then
    none
  else
  bif decide (v = 0) then
    none
  else
    r0 (w64 (Int.tdiv a v)) (w64 (Int.tdiv a1 v))
theorem impl_Point_primitive_gen {α : Type} (F0 : T29 α)  (n : Nat) (a : Int) (a1 : Int) (κ : Res → Option α) : evFn Try.prog (impl_Point_primitive_XG F0 n) Try.f65 (((buildDs impl_Point_primitive_sh [.int a, .int a1]).map Prod.fst).getD []) κ = impl_Point_primitive_body F0 n a a1 (fun v1 v2 => κ ⟨[.agg [.int .i64 v1, .int .i64 v2]], []⟩) := by kernel_rfl
theorem impl_Point_primitive_eq {α : Type} (n : Nat) (a : Int) (a1 : Int) (r0 : Int → Int → Option α) : impl_Point_primitive_body impl_Point_length n a a1 r0 = impl_Point_primitive n a a1 r0 := (impl_Point_primitive_body.eq_1 impl_Point_length n a a1 r0).trans (impl_Point_primitive.eq_1 n a a1 r0).symm
theorem impl_Point_primitive_rn {α : Type} (F : T30 α) (n : Nat) (a : Int) (a1 : Int) (κ : Res → Option α) : impl_Point_primitive_runG F n [.int a, .int a1] κ = F n a a1 (fun v1 v2 => κ ⟨[.agg [.int .i64 v1, .int .i64 v2]], []⟩) := rfl
theorem impl_Point_primitive_ev {α : Type} (n : Nat) (a : Int) (a1 : Int) (κ : Res → Option α) : evFn Try.prog (impl_Point_primitive_X n) Try.f65 (((buildDs impl_Point_primitive_sh [.int a, .int a1]).map Prod.fst).getD []) κ = impl_Point_primitive_run n [.int a, .int a1] κ := (impl_Point_primitive_gen impl_Point_length n a a1 κ).trans ((impl_Point_primitive_eq n a a1 (fun v1 v2 => κ ⟨[.agg [.int .i64 v1, .int .i64 v2]], []⟩)).trans ((impl_Point_primitive_run.eq_1 n [.int a, .int a1] κ).trans (impl_Point_primitive_rn impl_Point_primitive n a a1 κ)).symm)
theorem impl_Point_primitive_en (a : Int) (a1 : Int) : (entry 0 (((buildDs impl_Point_primitive_sh [.int a, .int a1]).map Prod.fst).getD [])).map (fun x => (x.1.length, x.2.lent)) = some (1, []) := by kernel_rfl
theorem impl_Point_primitive_good {α : Type} : ∀ n, GoodFn (α := α) Try.prog 65 (byShape impl_Point_primitive_sh (impl_Point_primitive_run n)) := by
  refine fn_good' Try.func65 (c := (Try.f65.body.getD .skip)) (by kernel_rfl) (by kernel_rfl) (by kernel_rfl) impl_Point_primitive_C impl_Point_primitive_M eqs impl_Point_primitive_lps impl_Point_primitive_jt (fun n => tabC_good (List.forall_mem_cons.2 ⟨(impl_Point_length_good n), (fun _ h => absurd h List.not_mem_nil)⟩)) eqs_ok impl_Point_primitive_Lt ?_ ?_ impl_Point_primitive_sh impl_Point_primitive_run ?_
  · exact (fun _ h => absurd h List.not_mem_nil)
  · exact (fun _ h => absurd h List.not_mem_nil)
  · intro n p κ r ds hd hr
    have hr0 := hr
    unfold impl_Point_primitive_run impl_Point_primitive_runG at hr
    split at hr
    · rw [← ds_of hd]
      exact ⟨en_of (impl_Point_primitive_en _ _) ⟨rfl, rfl⟩, (impl_Point_primitive_ev n _ _ κ).trans hr0⟩
    · cases hr

/-! loop.example/g01297/impl.PrimitiveOf -/
def impl_PrimitiveOf_sh : List SkD := [.agg [.int .i64, .int .i64]]
def impl_PrimitiveOf_runG {α : Type} (F : T27 α) (n : Nat) (p : List P1) (κ : Res → Option α) : Option α := match p with
  | [.int a, .int a1] => F n a a1 (fun v1 v2 v3 => κ ⟨[.agg [.int .i64 v1, .int .i64 v2], .int .i64 v3], []⟩)
  | _ => none
def impl_PrimitiveOf_run {α : Type} (n : Nat) (p : List P1) (κ : Res → Option α) : Option α := impl_PrimitiveOf_runG impl_PrimitiveOf n p κ
def impl_PrimitiveOf_CG {α : Type} (F0 : T11 α) (F1 : T30 α) (n : Nat) : FuncId → List D → (Res → Option α) → Option α := tabC [(49, (byShape impl_IsPoint_sh (impl_IsPoint_runG F0 n))), (65, (byShape impl_Point_primitive_sh (impl_Point_primitive_runG F1 n)))]
def impl_PrimitiveOf_C {α : Type} (n : Nat) : FuncId → List D → (Res → Option α) → Option α := impl_PrimitiveOf_CG impl_IsPoint impl_Point_primitive n
def impl_PrimitiveOf_M : FuncId → List Nat := tabM []
def impl_PrimitiveOf_lpsG {α : Type}  : List (LoopT α) := []
def impl_PrimitiveOf_lps {α : Type} : List (LoopT α) := impl_PrimitiveOf_lpsG
def impl_PrimitiveOf_jt : Nat → Option Tpl := jtOf []
def impl_PrimitiveOf_XG {α : Type} (F0 : T11 α) (F1 : T30 α)  (n : Nat) : Ctx α := ⟨impl_PrimitiveOf_CG F0 F1 n, impl_PrimitiveOf_M, eqs, lpOf (impl_PrimitiveOf_lpsG) n, impl_PrimitiveOf_jt⟩
def impl_PrimitiveOf_X {α : Type} (n : Nat) : Ctx α := impl_PrimitiveOf_XG impl_IsPoint impl_Point_primitive n
def impl_PrimitiveOf_Lt (np : Nat) (lent : List (Bool × Nat × Blk)) : Prop := np = 1 ∧ lent = []
def impl_PrimitiveOf_body {α : Type} (F0 : T11 α) (F1 : T30 α)  (k : Nat) (a : Int) (a1 : Int) (r0 : Int → Int → Int → Option α) : Option α :=
  F0 k a a1 fun v =>
  bif (!v) then
    r0 0 0 1
  else
  bif (decide (a = 0) && decide (a1 = 0)) then
    r0 0 0 5
  else
    F1 k a a1 fun v1 v2 =>
    r0 v1 v2 0
theorem impl_PrimitiveOf_gen {α : Type} (F0 : T11 α) (F1 : T30 α)  (n : Nat) (a : Int) (a1 : Int) (κ : Res → Option α) : evFn Try.prog (impl_PrimitiveOf_XG F0 F1 n) Try.f24 (((buildDs impl_PrimitiveOf_sh [.int a, .int a1]).map Prod.fst).getD []) κ = impl_PrimitiveOf_body F0 F1 n a a1 (fun v1 v2 v3 => κ ⟨[.agg [.int .i64 v1, .int .i64 v2], .int .i64 v3], []⟩) := by kernel_rfl
theorem impl_PrimitiveOf_eq {α : Type} (n : Nat) (a : Int) (a1 : Int) (r0 : Int → Int → Int → Option α) : impl_PrimitiveOf_body impl_IsPoint impl_Point_primitive n a a1 r0 = impl_PrimitiveOf n a a1 r0 := (impl_PrimitiveOf_body.eq_1 impl_IsPoint impl_Point_primitive n a a1 r0).trans (impl_PrimitiveOf.eq_1 n a a1 r0).symm
theorem impl_PrimitiveOf_rn {α : Type} (F : T27 α) (n : Nat) (a : Int) (a1 : Int) (κ : Res → Option α) : impl_PrimitiveOf_runG F n [.int a, .int a1] κ = F n a a1 (fun v1 v2 v3 => κ ⟨[.agg [.int .i64 v1, .int .i64 v2], .int .i64 v3], []⟩) := rfl
theorem impl_PrimitiveOf_ev {α : Type} (n : Nat) (a : Int) (a1 : Int) (κ : Res → Option α) : evFn Try.prog (impl_PrimitiveOf_X n) Try.f24 (((buildDs impl_PrimitiveOf_sh [.int a, .int a1]).map Prod.fst).getD []) κ = impl_PrimitiveOf_run n [.int a, .int a1] κ := (impl_PrimitiveOf_gen impl_IsPoint impl_Point_primitive n a a1 κ).trans ((impl_PrimitiveOf_eq n a a1 (fun v1 v2 v3 => κ ⟨[.agg [.int .i64 v1, .int .i64 v2], .int .i64 v3], []⟩)).trans ((impl_PrimitiveOf_run.eq_1 n [.int a, .int a1] κ).trans (impl_PrimitiveOf_rn impl_PrimitiveOf n a a1 κ)).symm)
theorem impl_PrimitiveOf_en (a : Int) (a1 : Int) : (entry 0 (((buildDs impl_PrimitiveOf_sh [.int a, .int a1]).map Prod.fst).getD [])).map (fun x => (x.1.length, x.2.lent)) = some (1, []) := by kernel_rfl
theorem impl_PrimitiveOf_good {α : Type} : ∀ n, GoodFn (α := α) Try.prog 24 (byShape impl_PrimitiveOf_sh (impl_PrimitiveOf_run n)) := by
  refine fn_good' Try.func24 (c := (Try.f24.body.getD .skip)) (by kernel_rfl) (by kernel_rfl) (by kernel_rfl) impl_PrimitiveOf_C impl_PrimitiveOf_M eqs impl_PrimitiveOf_lps impl_PrimitiveOf_jt (fun n => tabC_good (List.forall_mem_cons.2 ⟨(impl_IsPoint_good n), (List.forall_mem_cons.2 ⟨(impl_Point_primitive_good n), (fun _ h => absurd h List.not_mem_nil)⟩)⟩)) eqs_ok impl_PrimitiveOf_Lt ?_ ?_ impl_PrimitiveOf_sh impl_PrimitiveOf_run ?_
  · exact (fun _ h => absurd h List.not_mem_nil)
  · exact (fun _ h => absurd h List.not_mem_nil)
  · intro n p κ r ds hd hr
    have hr0 := hr
    unfold impl_PrimitiveOf_run impl_PrimitiveOf_runG at hr
    split at hr
    · rw [← ds_of hd]
      exact ⟨en_of (impl_PrimitiveOf_en _ _) ⟨rfl, rfl⟩, (impl_PrimitiveOf_ev n _ _ κ).trans hr0⟩
    · cases hr

/-! loop.example/g01297/spec.PrimitiveOf -/
def spec_PrimitiveOf_sh : List SkD := [.agg [.int .i64, .int .i64]]
def spec_PrimitiveOf_runG {α : Type} (F : T27 α) (n : Nat) (p : List P1) (κ : Res → Option α) : Option α := match p with
  | [.int a, .int a1] => F n a a1 (fun v1 v2 v3 => κ ⟨[.agg [.int .i64 v1, .int .i64 v2], .int .i64 v3], []⟩)
  | _ => none
def spec_PrimitiveOf_run {α : Type} (n : Nat) (p : List P1) (κ : Res → Option α) : Option α := spec_PrimitiveOf_runG spec_PrimitiveOf n p κ
def spec_PrimitiveOf_CG {α : Type} (F0 : T11 α) (F1 : T30 α) (n : Nat) : FuncId → List D → (Res → Option α) → Option α := tabC [(60, (byShape spec_l01Is_sh (spec_l01Is_runG F0 n))), (66, (byShape spec_l01Part_sh (spec_l01Part_runG F1 n)))]
def spec_PrimitiveOf_C {α : Type} (n : Nat) : FuncId → List D → (Res → Option α) → Option α := spec_PrimitiveOf_CG spec_l01Is spec_l01Part n
def spec_PrimitiveOf_M : FuncId → List Nat := tabM []
def spec_PrimitiveOf_lpsG {α : Type}  : List (LoopT α) := []
def spec_PrimitiveOf_lps {α : Type} : List (LoopT α) := spec_PrimitiveOf_lpsG
def spec_PrimitiveOf_jt : Nat → Option Tpl := jtOf []
def spec_PrimitiveOf_XG {α : Type} (F0 : T11 α) (F1 : T30 α)  (n : Nat) : Ctx α := ⟨spec_PrimitiveOf_CG F0 F1 n, spec_PrimitiveOf_M, eqs, lpOf (spec_PrimitiveOf_lpsG) n, spec_PrimitiveOf_jt⟩
def spec_PrimitiveOf_X {α : Type} (n : Nat) : Ctx α := spec_PrimitiveOf_XG spec_l01Is spec_l01Part n
def spec_PrimitiveOf_Lt (np : Nat) (lent : List (Bool × Nat × Blk)) : Prop := np = 1 ∧ lent = []
def spec_PrimitiveOf_body {α : Type} (F0 : T11 α) (F1 : T30 α)  (k : Nat) (a : Int) (a1 : Int) (r0 : Int → Int → Int → Option α) : Option α :=
  F0 k a a1 fun v =>
  bif (!v) then
    r0 0 0 1
  else
  bif (decide (a = 0) && decide (a1 = 0)) then
    r0 0 0 5
  else
    F1 k a a1 fun v1 v2 =>
    r0 v1 v2 0
theorem spec_PrimitiveOf_gen {α : Type} (F0 : T11 α) (F1 : T30 α)  (n : Nat) (a : Int) (a1 : Int) (κ : Res → Option α) : evFn Try.prog (spec_PrimitiveOf_XG F0 F1 n) Try.f25 (((buildDs spec_PrimitiveOf_sh [.int a, .int a1]).map Prod.fst).getD []) κ = spec_PrimitiveOf_body F0 F1 n a a1 (fun v1 v2 v3 => κ ⟨[.agg [.int .i64 v1, .int .i64 v2], .int .i64 v3], []⟩) := by kernel_rfl
theorem spec_PrimitiveOf_eq {α : Type} (n : Nat) (a : Int) (a1 : Int) (r0 : Int → Int → Int → Option α) : spec_PrimitiveOf_body spec_l01Is spec_l01Part n a a1 r0 = spec_PrimitiveOf n a a1 r0 := (spec_PrimitiveOf_body.eq_1 spec_l01Is spec_l01Part n a a1 r0).trans (spec_PrimitiveOf.eq_1 n a a1 r0).symm
theorem spec_PrimitiveOf_rn {α : Type} (F : T27 α) (n : Nat) (a : Int) (a1 : Int) (κ : Res → Option α) : spec_PrimitiveOf_runG F n [.int a, .int a1] κ = F n a a1 (fun v1 v2 v3 => κ ⟨[.agg [.int .i64 v1, .int .i64 v2], .int .i64 v3], []⟩) := rfl
theorem spec_PrimitiveOf_ev {α : Type} (n : Nat) (a : Int) (a1 : Int) (κ : Res → Option α) : evFn Try.prog (spec_PrimitiveOf_X n) Try.f25 (((buildDs spec_PrimitiveOf_sh [.int a, .int a1]).map Prod.fst).getD []) κ = spec_PrimitiveOf_run n [.int a, .int a1] κ := (spec_PrimitiveOf_gen spec_l01Is spec_l01Part n a a1 κ).trans ((spec_PrimitiveOf_eq n a a1 (fun v1 v2 v3 => κ ⟨[.agg [.int .i64 v1, .int .i64 v2], .int .i64 v3], []⟩)).trans ((spec_PrimitiveOf_run.eq_1 n [.int a, .int a1] κ).trans (spec_PrimitiveOf_rn spec_PrimitiveOf n a a1 κ)).symm)
theorem spec_PrimitiveOf_en (a : Int) (a1 : Int) : (entry 0 (((buildDs spec_PrimitiveOf_sh [.int a, .int a1]).map Prod.fst).getD [])).map (fun x => (x.1.length, x.2.lent)) = some (1, []) := by kernel_rfl
theorem spec_PrimitiveOf_good {α : Type} : ∀ n, GoodFn (α := α) Try.prog 25 (byShape spec_PrimitiveOf_sh (spec_PrimitiveOf_run n)) := by
  refine fn_good' Try.func25 (c := (Try.f25.body.getD .skip)) (by kernel_rfl) (by kernel_rfl) (by kernel_rfl) spec_PrimitiveOf_C spec_PrimitiveOf_M eqs spec_PrimitiveOf_lps spec_PrimitiveOf_jt (fun n => tabC_good (List.forall_mem_cons.2 ⟨(spec_l01Is_good n), (List.forall_mem_cons.2 ⟨(spec_l01Part_good n), (fun _ h => absurd h List.not_mem_nil)⟩)⟩)) eqs_ok spec_PrimitiveOf_Lt ?_ ?_ spec_PrimitiveOf_sh spec_PrimitiveOf_run ?_
  · exact (fun _ h => absurd h List.not_mem_nil)
  · exact (fun _ h => absurd h List.not_mem_nil)
  · intro n p κ r ds hd hr
    have hr0 := hr
    unfold spec_PrimitiveOf_run spec_PrimitiveOf_runG at hr
    split at hr
    · rw [← ds_of hd]
      exact ⟨en_of (spec_PrimitiveOf_en _ _) ⟨rfl, rfl⟩, (spec_PrimitiveOf_ev n _ _ κ).trans hr0⟩
    · cases hr

/-! loop.example/g01297/spec.DrawAddPoints -/
def spec_DrawAddPoints_sh : List SkD := [.sl 5 (.int .u8)]
def spec_DrawAddPoints_runG {α : Type} (F : T31 α) (n : Nat) (p : List P1) (κ : Res → Option α) : Option α := match p with
  | [.rows (.int .u8) code] => F n code (fun v1 v2 v3 v4 v5 => κ ⟨[.agg [.int .i64 v1, .int .i64 v2], .agg [.int .i64 v3, .int .i64 v4], .int .i64 v5], []⟩)
  | _ => none
def spec_DrawAddPoints_run {α : Type} (n : Nat) (p : List P1) (κ : Res → Option α) : Option α := spec_DrawAddPoints_runG spec_DrawAddPoints n p κ
def spec_DrawAddPoints_CG {α : Type} (F0 : T1 α) (F1 : T20 α) (F2 : T5 α) (n : Nat) : FuncId → List D → (Res → Option α) → Option α := tabC [(36, (byShape spec_l01From_sh (spec_l01From_runG F0 n))), (43, (byShape spec_l01Spoil_sh (spec_l01Spoil_runG F1 n))), (67, (byShape spec_l01Pick_sh (spec_l01Pick_runG F2 n)))]
def spec_DrawAddPoints_C {α : Type} (n : Nat) : FuncId → List D → (Res → Option α) → Option α := spec_DrawAddPoints_CG spec_l01From spec_l01Spoil spec_l01Pick n
def spec_DrawAddPoints_M : FuncId → List Nat := tabM [(43, [1]), (67, [1])]
def spec_DrawAddPoints_lpsG {α : Type}  : List (LoopT α) := []
def spec_DrawAddPoints_lps {α : Type} : List (LoopT α) := spec_DrawAddPoints_lpsG
def spec_DrawAddPoints_jt : Nat → Option Tpl := jtOf []
def spec_DrawAddPoints_XG {α : Type} (F0 : T1 α) (F1 : T20 α) (F2 : T5 α)  (n : Nat) : Ctx α := ⟨spec_DrawAddPoints_CG F0 F1 F2 n, spec_DrawAddPoints_M, eqs, lpOf (spec_DrawAddPoints_lpsG) n, spec_DrawAddPoints_jt⟩
def spec_DrawAddPoints_X {α : Type} (n : Nat) : Ctx α := spec_DrawAddPoints_XG spec_l01From spec_l01Spoil spec_l01Pick n
def spec_DrawAddPoints_Lt (np : Nat) (lent : List (Bool × Nat × Blk)) : Prop := np = 1 ∧ lent = []
def spec_DrawAddPoints_body {α : Type} (F0 : T1 α) (F1 : T20 α) (F2 : T5 α)  (k : Nat) (code : List Int) (r0 : Int → Int → Int → Int → Int → Option α) : Option α :=
  F0 k code fun v v1 =>
  F1 k code v v1 fun v2 v3 v4 v5 =>
  F1 k code v4 v5 fun v6 v7 v8 v9 =>
  F2 k code v8 v9 [1, (-1), 2, (-7), 1000, 1000001] fun v10 _ _ =>
  r0 v2 v3 v6 v7 v10
theorem spec_DrawAddPoints_gen {α : Type} (F0 : T1 α) (F1 : T20 α) (F2 : T5 α)  (n : Nat) (code : List Int) (κ : Res → Option α) : evFn Try.prog (spec_DrawAddPoints_XG F0 F1 F2 n) Try.f26 (((buildDs spec_DrawAddPoints_sh [.rows (.int .u8) code]).map Prod.fst).getD []) κ = spec_DrawAddPoints_body F0 F1 F2 n code (fun v1 v2 v3 v4 v5 => κ ⟨[.agg [.int .i64 v1, .int .i64 v2], .agg [.int .i64 v3, .int .i64 v4], .int .i64 v5], []⟩) := by kernel_rfl
theorem spec_DrawAddPoints_eq {α : Type} (n : Nat) (code : List Int) (r0 : Int → Int → Int → Int → Int → Option α) : spec_DrawAddPoints_body spec_l01From spec_l01Spoil spec_l01Pick n code r0 = spec_DrawAddPoints n code r0 := (spec_DrawAddPoints_body.eq_1 spec_l01From spec_l01Spoil spec_l01Pick n code r0).trans (spec_DrawAddPoints.eq_1 n code r0).symm
theorem spec_DrawAddPoints_rn {α : Type} (F : T31 α) (n : Nat) (code : List Int) (κ : Res → Option α) : spec_DrawAddPoints_runG F n [.rows (.int .u8) code] κ = F n code (fun v1 v2 v3 v4 v5 => κ ⟨[.agg [.int .i64 v1, .int .i64 v2], .agg [.int .i64 v3, .int .i64 v4], .int .i64 v5], []⟩) := rfl
theorem spec_DrawAddPoints_ev {α : Type} (n : Nat) (code : List Int) (κ : Res → Option α) : evFn Try.prog (spec_DrawAddPoints_X n) Try.f26 (((buildDs spec_DrawAddPoints_sh [.rows (.int .u8) code]).map Prod.fst).getD []) κ = spec_DrawAddPoints_run n [.rows (.int .u8) code] κ := (spec_DrawAddPoints_gen spec_l01From spec_l01Spoil spec_l01Pick n code κ).trans ((spec_DrawAddPoints_eq n code (fun v1 v2 v3 v4 v5 => κ ⟨[.agg [.int .i64 v1, .int .i64 v2], .agg [.int .i64 v3, .int .i64 v4], .int .i64 v5], []⟩)).trans ((spec_DrawAddPoints_run.eq_1 n [.rows (.int .u8) code] κ).trans (spec_DrawAddPoints_rn spec_DrawAddPoints n code κ)).symm)
theorem spec_DrawAddPoints_en (code : List Int) : (entry 0 (((buildDs spec_DrawAddPoints_sh [.rows (.int .u8) code]).map Prod.fst).getD [])).map (fun x => (x.1.length, x.2.lent)) = some (1, []) := by kernel_rfl
theorem spec_DrawAddPoints_good {α : Type} : ∀ n, GoodFn (α := α) Try.prog 26 (byShape spec_DrawAddPoints_sh (spec_DrawAddPoints_run n)) := by
  refine fn_good' Try.func26 (c := (Try.f26.body.getD .skip)) (by kernel_rfl) (by kernel_rfl) (by kernel_rfl) spec_DrawAddPoints_C spec_DrawAddPoints_M eqs spec_DrawAddPoints_lps spec_DrawAddPoints_jt (fun n => tabC_good (List.forall_mem_cons.2 ⟨(spec_l01From_good n), (List.forall_mem_cons.2 ⟨(spec_l01Spoil_good n), (List.forall_mem_cons.2 ⟨(spec_l01Pick_good n), (fun _ h => absurd h List.not_mem_nil)⟩)⟩)⟩)) eqs_ok spec_DrawAddPoints_Lt ?_ ?_ spec_DrawAddPoints_sh spec_DrawAddPoints_run ?_
  · exact (fun _ h => absurd h List.not_mem_nil)
  · exact (fun _ h => absurd h List.not_mem_nil)
  · intro n p κ r ds hd hr
    have hr0 := hr
    unfold spec_DrawAddPoints_run spec_DrawAddPoints_runG at hr
    split at hr
    · rw [← ds_of hd]
      exact ⟨en_of (spec_DrawAddPoints_en _) ⟨rfl, rfl⟩, (spec_DrawAddPoints_ev n _ κ).trans hr0⟩
    · cases hr

/-! loop.example/g01297/impl.AddPoints -/
def impl_AddPoints_sh : List SkD := [.agg [.int .i64, .int .i64], .agg [.int .i64, .int .i64], .int .i64]
def impl_AddPoints_runG {α : Type} (F : T32 α) (n : Nat) (p : List P1) (κ : Res → Option α) : Option α := match p with
  | [.int a, .int a1, .int b_, .int b_1, .int k_] => F n a a1 b_ b_1 k_ (fun v1 v2 v3 => κ ⟨[.agg [.int .i64 v1, .int .i64 v2], .int .i64 v3], []⟩)
  | _ => none
def impl_AddPoints_run {α : Type} (n : Nat) (p : List P1) (κ : Res → Option α) : Option α := impl_AddPoints_runG impl_AddPoints n p κ
def impl_AddPoints_CG {α : Type} (F0 : T13 α) (F1 : T10 α) (F2 : T22 α) (F3 : T27 α) (n : Nat) : FuncId → List D → (Res → Option α) → Option α := tabC [(44, (byShape impl_points_sh (impl_points_runG F0 n))), (68, (byShape impl_isCoord_sh (impl_isCoord_runG F1 n))), (69, (byShape impl_Point_plus_sh (impl_Point_plus_runG F2 n))), (51, (byShape impl_Point_told_sh (impl_Point_told_runG F3 n)))]
def impl_AddPoints_C {α : Type} (n : Nat) : FuncId → List D → (Res → Option α) → Option α := impl_AddPoints_CG impl_points impl_isCoord impl_Point_plus impl_Point_told n
def impl_AddPoints_M : FuncId → List Nat := tabM []
def impl_AddPoints_lpsG {α : Type}  : List (LoopT α) := []
def impl_AddPoints_lps {α : Type} : List (LoopT α) := impl_AddPoints_lpsG
def impl_AddPoints_jt : Nat → Option Tpl := jtOf []
def impl_AddPoints_XG {α : Type} (F0 : T13 α) (F1 : T10 α) (F2 : T22 α) (F3 : T27 α)  (n : Nat) : Ctx α := ⟨impl_AddPoints_CG F0 F1 F2 F3 n, impl_AddPoints_M, eqs, lpOf (impl_AddPoints_lpsG) n, impl_AddPoints_jt⟩
def impl_AddPoints_X {α : Type} (n : Nat) : Ctx α := impl_AddPoints_XG impl_points impl_isCoord impl_Point_plus impl_Point_told n
def impl_AddPoints_Lt (np : Nat) (lent : List (Bool × Nat × Blk)) : Prop := np = 3 ∧ lent = []
def impl_AddPoints_body {α : Type} (F0 : T13 α) (F1 : T10 α) (F2 : T22 α) (F3 : T27 α)  (k : Nat) (a : Int) (a1 : Int) (b_ : Int) (b_1 : Int) (k_ : Int) (r0 : Int → Int → Int → Option α) : Option α :=
  F0 k [(a, a1), (b_, b_1)] fun v =>
  bif (!v) then
    r0 0 0 1
  else
    F1 k k_ fun v1 =>
    bif (!v1) then
      r0 0 0 2
    else
      F2 k a a1 b_ b_1 k_ fun v2 v3 =>
      F3 k v2 v3 fun v4 v5 v6 =>
      r0 v4 v5 v6
theorem impl_AddPoints_gen {α : Type} (F0 : T13 α) (F1 : T10 α) (F2 : T22 α) (F3 : T27 α)  (n : Nat) (a : Int) (a1 : Int) (b_ : Int) (b_1 : Int) (k_ : Int) (κ : Res → Option α) : evFn Try.prog (impl_AddPoints_XG F0 F1 F2 F3 n) Try.f27 (((buildDs impl_AddPoints_sh [.int a, .int a1, .int b_, .int b_1, .int k_]).map Prod.fst).getD []) κ = impl_AddPoints_body F0 F1 F2 F3 n a a1 b_ b_1 k_ (fun v1 v2 v3 => κ ⟨[.agg [.int .i64 v1, .int .i64 v2], .int .i64 v3], []⟩) := by kernel_rfl
theorem impl_AddPoints_eq {α : Type} (n : Nat) (a : Int) (a1 : Int) (b_ : Int) (b_1 : Int) (k_ : Int) (r0 : Int → Int → Int → Option α) : impl_AddPoints_body impl_points impl_isCoord impl_Point_plus impl_Point_told n a a1 b_ b_1 k_ r0 = impl_AddPoints n a a1 b_ b_1 k_ r0 := (impl_AddPoints_body.eq_1 impl_points impl_isCoord impl_Point_plus impl_Point_told n a a1 b_ b_1 k_ r0).trans (impl_AddPoints.eq_1 n a a1 b_ b_1 k_ r0).symm
theorem impl_AddPoints_rn {α : Type} (F : T32 α) (n : Nat) (a : Int) (a1 : Int) (b_ : Int) (b_1 : Int) (k_ : Int) (κ : Res → Option α) : impl_AddPoints_runG F n [.int a, .int a1, .int b_, .int b_1, .int k_] κ = F n a a1 b_ b_1 k_ (fun v1 v2 v3 => κ ⟨[.agg [.int .i64 v1, .int .i64 v2], .int .i64 v3], []⟩) := rfl
theorem impl_AddPoints_ev {α : Type} (n : Nat) (a : Int) (a1 : Int) (b_ : Int) (b_1 : Int) (k_ : Int) (κ : Res → Option α) : evFn Try.prog (impl_AddPoints_X n) Try.f27 (((buildDs impl_AddPoints_sh [.int a, .int a1, .int b_, .int b_1, .int k_]).map Prod.fst).getD []) κ = impl_AddPoints_run n [.int a, .int a1, .int b_, .int b_1, .int k_] κ := (impl_AddPoints_gen impl_points impl_isCoord impl_Point_plus impl_Point_told n a a1 b_ b_1 k_ κ).trans ((impl_AddPoints_eq n a a1 b_ b_1 k_ (fun v1 v2 v3 => κ ⟨[.agg [.int .i64 v1, .int .i64 v2], .int .i64 v3], []⟩)).trans ((impl_AddPoints_run.eq_1 n [.int a, .int a1, .int b_, .int b_1, .int k_] κ).trans (impl_AddPoints_rn impl_AddPoints n a a1 b_ b_1 k_ κ)).symm)
theorem impl_AddPoints_en (a : Int) (a1 : Int) (b_ : Int) (b_1 : Int) (k_ : Int) : (entry 0 (((buildDs impl_AddPoints_sh [.int a, .int a1, .int b_, .int b_1, .int k_]).map Prod.fst).getD [])).map (fun x => (x.1.length, x.2.lent)) = some (3, []) := by kernel_rfl
theorem impl_AddPoints_good {α : Type} : ∀ n, GoodFn (α := α) Try.prog 27 (byShape impl_AddPoints_sh (impl_AddPoints_run n)) := by
  refine fn_good' Try.func27 (c := (Try.f27.body.getD .skip)) (by kernel_rfl) (by kernel_rfl) (by kernel_rfl) impl_AddPoints_C impl_AddPoints_M eqs impl_AddPoints_lps impl_AddPoints_jt (fun n => tabC_good (List.forall_mem_cons.2 ⟨(impl_points_good n), (List.forall_mem_cons.2 ⟨(impl_isCoord_good n), (List.forall_mem_cons.2 ⟨(impl_Point_plus_good n), (List.forall_mem_cons.2 ⟨(impl_Point_told_good n), (fun _ h => absurd h List.not_mem_nil)⟩)⟩)⟩)⟩)) eqs_ok impl_AddPoints_Lt ?_ ?_ impl_AddPoints_sh impl_AddPoints_run ?_
  · exact (fun _ h => absurd h List.not_mem_nil)
  · exact (fun _ h => absurd h List.not_mem_nil)
  · intro n p κ r ds hd hr
    have hr0 := hr
    unfold impl_AddPoints_run impl_AddPoints_runG at hr
    split at hr
    · rw [← ds_of hd]
      exact ⟨en_of (impl_AddPoints_en _ _ _ _ _) ⟨rfl, rfl⟩, (impl_AddPoints_ev n _ _ _ _ _ κ).trans hr0⟩
    · cases hr

/-! loop.example/g01297/spec.l01Told -/
def spec_l01Told_sh : List SkD := [.agg [.int .i64, .int .i64]]
def spec_l01Told_runG {α : Type} (F : T27 α) (n : Nat) (p : List P1) (κ : Res → Option α) : Option α := match p with
  | [.int a, .int a1] => F n a a1 (fun v1 v2 v3 => κ ⟨[.agg [.int .i64 v1, .int .i64 v2], .int .i64 v3], []⟩)
  | _ => none
def spec_l01Told_run {α : Type} (n : Nat) (p : List P1) (κ : Res → Option α) : Option α := spec_l01Told_runG spec_l01Told n p κ
def spec_l01Told_CG {α : Type} (F0 : T11 α) (n : Nat) : FuncId → List D → (Res → Option α) → Option α := tabC [(60, (byShape spec_l01Is_sh (spec_l01Is_runG F0 n)))]
def spec_l01Told_C {α : Type} (n : Nat) : FuncId → List D → (Res → Option α) → Option α := spec_l01Told_CG spec_l01Is n
def spec_l01Told_M : FuncId → List Nat := tabM []
def spec_l01Told_lpsG {α : Type}  : List (LoopT α) := []
def spec_l01Told_lps {α : Type} : List (LoopT α) := spec_l01Told_lpsG
def spec_l01Told_jt : Nat → Option Tpl := jtOf []
def spec_l01Told_XG {α : Type} (F0 : T11 α)  (n : Nat) : Ctx α := ⟨spec_l01Told_CG F0 n, spec_l01Told_M, eqs, lpOf (spec_l01Told_lpsG) n, spec_l01Told_jt⟩
def spec_l01Told_X {α : Type} (n : Nat) : Ctx α := spec_l01Told_XG spec_l01Is n
def spec_l01Told_Lt (np : Nat) (lent : List (Bool × Nat × Blk)) : Prop := np = 1 ∧ lent = []
def spec_l01Told_body {α : Type} (F0 : T11 α)  (k : Nat) (a : Int) (a1 : Int) (r0 : Int → Int → Int → Option α) : Option α :=
  F0 k a a1 fun v =>
  bif (!v) then
    r0 0 0 3
  else
    r0 a a1 0
theorem spec_l01Told_gen {α : Type} (F0 : T11 α)  (n : Nat) (a : Int) (a1 : Int) (κ : Res → Option α) : evFn Try.prog (spec_l01Told_XG F0 n) Try.f71 (((buildDs spec_l01Told_sh [.int a, .int a1]).map Prod.fst).getD []) κ = spec_l01Told_body F0 n a a1 (fun v1 v2 v3 => κ ⟨[.agg [.int .i64 v1, .int .i64 v2], .int .i64 v3], []⟩) := by kernel_rfl
theorem spec_l01Told_eq {α : Type} (n : Nat) (a : Int) (a1 : Int) (r0 : Int → Int → Int → Option α) : spec_l01Told_body spec_l01Is n a a1 r0 = spec_l01Told n a a1 r0 := (spec_l01Told_body.eq_1 spec_l01Is n a a1 r0).trans (spec_l01Told.eq_1 n a a1 r0).symm
theorem spec_l01Told_rn {α : Type} (F : T27 α) (n : Nat) (a : Int) (a1 : Int) (κ : Res → Option α) : spec_l01Told_runG F n [.int a, .int a1] κ = F n a a1 (fun v1 v2 v3 => κ ⟨[.agg [.int .i64 v1, .int .i64 v2], .int .i64 v3], []⟩) := rfl
theorem spec_l01Told_ev {α : Type} (n : Nat) (a : Int) (a1 : Int) (κ : Res → Option α) : evFn Try.prog (spec_l01Told_X n) Try.f71 (((buildDs spec_l01Told_sh [.int a, .int a1]).map Prod.fst).getD []) κ = spec_l01Told_run n [.int a, .int a1] κ := (spec_l01Told_gen spec_l01Is n a a1 κ).trans ((spec_l01Told_eq n a a1 (fun v1 v2 v3 => κ ⟨[.agg [.int .i64 v1, .int .i64 v2], .int .i64 v3], []⟩)).trans ((spec_l01Told_run.eq_1 n [.int a, .int a1] κ).trans (spec_l01Told_rn spec_l01Told n a a1 κ)).symm)
theorem spec_l01Told_en (a : Int) (a1 : Int) : (entry 0 (((buildDs spec_l01Told_sh [.int a, .int a1]).map Prod.fst).getD [])).map (fun x => (x.1.length, x.2.lent)) = some (1, []) := by kernel_rfl
theorem spec_l01Told_good {α : Type} : ∀ n, GoodFn (α := α) Try.prog 71 (byShape spec_l01Told_sh (spec_l01Told_run n)) := by
  refine fn_good' Try.func71 (c := (Try.f71.body.getD .skip)) (by kernel_rfl) (by kernel_rfl) (by kernel_rfl) spec_l01Told_C spec_l01Told_M eqs spec_l01Told_lps spec_l01Told_jt (fun n => tabC_good (List.forall_mem_cons.2 ⟨(spec_l01Is_good n), (fun _ h => absurd h List.not_mem_nil)⟩)) eqs_ok spec_l01Told_Lt ?_ ?_ spec_l01Told_sh spec_l01Told_run ?_
  · exact (fun _ h => absurd h List.not_mem_nil)
  · exact (fun _ h => absurd h List.not_mem_nil)
  · intro n p κ r ds hd hr
    have hr0 := hr
    unfold spec_l01Told_run spec_l01Told_runG at hr
    split at hr
    · rw [← ds_of hd]
      exact ⟨en_of (spec_l01Told_en _ _) ⟨rfl, rfl⟩, (spec_l01Told_ev n _ _ κ).trans hr0⟩
    · cases hr

/-! loop.example/g01297/spec.AddPoints -/
def spec_AddPoints_sh : List SkD := [.agg [.int .i64, .int .i64], .agg [.int .i64, .int .i64], .int .i64]
def spec_AddPoints_runG {α : Type} (F : T32 α) (n : Nat) (p : List P1) (κ : Res → Option α) : Option α := match p with
  | [.int a, .int a1, .int b_, .int b_1, .int k_] => F n a a1 b_ b_1 k_ (fun v1 v2 v3 => κ ⟨[.agg [.int .i64 v1, .int .i64 v2], .int .i64 v3], []⟩)
  | _ => none
def spec_AddPoints_run {α : Type} (n : Nat) (p : List P1) (κ : Res → Option α) : Option α := spec_AddPoints_runG spec_AddPoints n p κ
def spec_AddPoints_CG {α : Type} (F0 : T12 α) (F1 : T10 α) (F2 : T22 α) (F3 : T27 α) (n : Nat) : FuncId → List D → (Res → Option α) → Option α := tabC [(46, (byShape spec_l01Code_sh (spec_l01Code_runG F0 n))), (70, (byShape spec_l01Fits_sh (spec_l01Fits_runG F1 n))), (72, (byShape spec_l01Plus_sh (spec_l01Plus_runG F2 n))), (71, (byShape spec_l01Told_sh (spec_l01Told_runG F3 n)))]
def spec_AddPoints_C {α : Type} (n : Nat) : FuncId → List D → (Res → Option α) → Option α := spec_AddPoints_CG spec_l01Code spec_l01Fits spec_l01Plus spec_l01Told n
def spec_AddPoints_M : FuncId → List Nat := tabM []
def spec_AddPoints_lpsG {α : Type}  : List (LoopT α) := []
def spec_AddPoints_lps {α : Type} : List (LoopT α) := spec_AddPoints_lpsG
def spec_AddPoints_jt : Nat → Option Tpl := jtOf []
def spec_AddPoints_XG {α : Type} (F0 : T12 α) (F1 : T10 α) (F2 : T22 α) (F3 : T27 α)  (n : Nat) : Ctx α := ⟨spec_AddPoints_CG F0 F1 F2 F3 n, spec_AddPoints_M, eqs, lpOf (spec_AddPoints_lpsG) n, spec_AddPoints_jt⟩
def spec_AddPoints_X {α : Type} (n : Nat) : Ctx α := spec_AddPoints_XG spec_l01Code spec_l01Fits spec_l01Plus spec_l01Told n
def spec_AddPoints_Lt (np : Nat) (lent : List (Bool × Nat × Blk)) : Prop := np = 3 ∧ lent = []
def spec_AddPoints_body {α : Type} (F0 : T12 α) (F1 : T10 α) (F2 : T22 α) (F3 : T27 α)  (k : Nat) (a : Int) (a1 : Int) (b_ : Int) (b_1 : Int) (k_ : Int) (r0 : Int → Int → Int → Option α) : Option α :=
  F0 k [(a, a1), (b_, b_1)] fun v =>
  bif (!decide (v = 0)) then
    r0 0 0 v
  else
    F1 k k_ fun v1 =>
    bif (!v1) then
      r0 0 0 2
    else
      F2 k a a1 b_ b_1 k_ fun v2 v3 =>
      F3 k v2 v3 fun v4 v5 v6 =>
      r0 v4 v5 v6
theorem spec_AddPoints_gen {α : Type} (F0 : T12 α) (F1 : T10 α) (F2 : T22 α) (F3 : T27 α)  (n : Nat) (a : Int) (a1 : Int) (b_ : Int) (b_1 : Int) (k_ : Int) (κ : Res → Option α) : evFn Try.prog (spec_AddPoints_XG F0 F1 F2 F3 n) Try.f28 (((buildDs spec_AddPoints_sh [.int a, .int a1, .int b_, .int b_1, .int k_]).map Prod.fst).getD []) κ = spec_AddPoints_body F0 F1 F2 F3 n a a1 b_ b_1 k_ (fun v1 v2 v3 => κ ⟨[.agg [.int .i64 v1, .int .i64 v2], .int .i64 v3], []⟩) := by kernel_rfl
theorem spec_AddPoints_eq {α : Type} (n : Nat) (a : Int) (a1 : Int) (b_ : Int) (b_1 : Int) (k_ : Int) (r0 : Int → Int → Int → Option α) : spec_AddPoints_body spec_l01Code spec_l01Fits spec_l01Plus spec_l01Told n a a1 b_ b_1 k_ r0 = spec_AddPoints n a a1 b_ b_1 k_ r0 := (spec_AddPoints_body.eq_1 spec_l01Code spec_l01Fits spec_l01Plus spec_l01Told n a a1 b_ b_1 k_ r0).trans (spec_AddPoints.eq_1 n a a1 b_ b_1 k_ r0).symm
theorem spec_AddPoints_rn {α : Type} (F : T32 α) (n : Nat) (a : Int) (a1 : Int) (b_ : Int) (b_1 : Int) (k_ : Int) (κ : Res → Option α) : spec_AddPoints_runG F n [.int a, .int a1, .int b_, .int b_1, .int k_] κ = F n a a1 b_ b_1 k_ (fun v1 v2 v3 => κ ⟨[.agg [.int .i64 v1, .int .i64 v2], .int .i64 v3], []⟩) := rfl
theorem spec_AddPoints_ev {α : Type} (n : Nat) (a : Int) (a1 : Int) (b_ : Int) (b_1 : Int) (k_ : Int) (κ : Res → Option α) : evFn Try.prog (spec_AddPoints_X n) Try.f28 (((buildDs spec_AddPoints_sh [.int a, .int a1, .int b_, .int b_1, .int k_]).map Prod.fst).getD []) κ = spec_AddPoints_run n [.int a, .int a1, .int b_, .int b_1, .int k_] κ := (spec_AddPoints_gen spec_l01Code spec_l01Fits spec_l01Plus spec_l01Told n a a1 b_ b_1 k_ κ).trans ((spec_AddPoints_eq n a a1 b_ b_1 k_ (fun v1 v2 v3 => κ ⟨[.agg [.int .i64 v1, .int .i64 v2], .int .i64 v3], []⟩)).trans ((spec_AddPoints_run.eq_1 n [.int a, .int a1, .int b_, .int b_1, .int k_] κ).trans (spec_AddPoints_rn spec_AddPoints n a a1 b_ b_1 k_ κ)).symm)
theorem spec_AddPoints_en (a : Int) (a1 : Int) (b_ : Int) (b_1 : Int) (k_ : Int) : (entry 0 (((buildDs spec_AddPoints_sh [.int a, .int a1, .int b_, .int b_1, .int k_]).map Prod.fst).getD [])).map (fun x => (x.1.length, x.2.lent)) = some (3, []) := by kernel_rfl
theorem spec_AddPoints_good {α : Type} : ∀ n, GoodFn (α := α) Try.prog 28 (byShape spec_AddPoints_sh (spec_AddPoints_run n)) := by
  refine fn_good' Try.func28 (c := (Try.f28.body.getD .skip)) (by kernel_rfl) (by kernel_rfl) (by kernel_rfl) spec_AddPoints_C spec_AddPoints_M eqs spec_AddPoints_lps spec_AddPoints_jt (fun n => tabC_good (List.forall_mem_cons.2 ⟨(spec_l01Code_good n), (List.forall_mem_cons.2 ⟨(spec_l01Fits_good n), (List.forall_mem_cons.2 ⟨(spec_l01Plus_good n), (List.forall_mem_cons.2 ⟨(spec_l01Told_good n), (fun _ h => absurd h List.not_mem_nil)⟩)⟩)⟩)⟩)) eqs_ok spec_AddPoints_Lt ?_ ?_ spec_AddPoints_sh spec_AddPoints_run ?_
  · exact (fun _ h => absurd h List.not_mem_nil)
  · exact (fun _ h => absurd h List.not_mem_nil)
  · intro n p κ r ds hd hr
    have hr0 := hr
    unfold spec_AddPoints_run spec_AddPoints_runG at hr
    split at hr
    · rw [← ds_of hd]
      exact ⟨en_of (spec_AddPoints_en _ _ _ _ _) ⟨rfl, rfl⟩, (spec_AddPoints_ev n _ _ _ _ _ κ).trans hr0⟩
    · cases hr

/-! loop.example/g01297/spec.DrawApplyMatrix -/
def spec_DrawApplyMatrix_sh : List SkD := [.sl 5 (.int .u8)]
def spec_DrawApplyMatrix_runG {α : Type} (F : T21 α) (n : Nat) (p : List P1) (κ : Res → Option α) : Option α := match p with
  | [.rows (.int .u8) code] => F n code (fun v1 v2 v3 v4 v5 v6 => κ ⟨[.agg [.int .i64 v1, .int .i64 v2, .int .i64 v3, .int .i64 v4], .agg [.int .i64 v5, .int .i64 v6]], []⟩)
  | _ => none
def spec_DrawApplyMatrix_run {α : Type} (n : Nat) (p : List P1) (κ : Res → Option α) : Option α := spec_DrawApplyMatrix_runG spec_DrawApplyMatrix n p κ
def spec_DrawApplyMatrix_CG {α : Type} (F0 : T1 α) (F1 : T4 α) (F2 : T20 α) (n : Nat) : FuncId → List D → (Res → Option α) → Option α := tabC [(36, (byShape spec_l01From_sh (spec_l01From_runG F0 n))), (35, (byShape spec_l01AnyMatrix_sh (spec_l01AnyMatrix_runG F1 n))), (43, (byShape spec_l01Spoil_sh (spec_l01Spoil_runG F2 n)))]
def spec_DrawApplyMatrix_C {α : Type} (n : Nat) : FuncId → List D → (Res → Option α) → Option α := spec_DrawApplyMatrix_CG spec_l01From spec_l01AnyMatrix spec_l01Spoil n
def spec_DrawApplyMatrix_M : FuncId → List Nat := tabM [(35, [1]), (43, [1])]
def spec_DrawApplyMatrix_lpsG {α : Type}  : List (LoopT α) := []
def spec_DrawApplyMatrix_lps {α : Type} : List (LoopT α) := spec_DrawApplyMatrix_lpsG
def spec_DrawApplyMatrix_jt : Nat → Option Tpl := jtOf []
def spec_DrawApplyMatrix_XG {α : Type} (F0 : T1 α) (F1 : T4 α) (F2 : T20 α)  (n : Nat) : Ctx α := ⟨spec_DrawApplyMatrix_CG F0 F1 F2 n, spec_DrawApplyMatrix_M, eqs, lpOf (spec_DrawApplyMatrix_lpsG) n, spec_DrawApplyMatrix_jt⟩
def spec_DrawApplyMatrix_X {α : Type} (n : Nat) : Ctx α := spec_DrawApplyMatrix_XG spec_l01From spec_l01AnyMatrix spec_l01Spoil n
def spec_DrawApplyMatrix_Lt (np : Nat) (lent : List (Bool × Nat × Blk)) : Prop := np = 1 ∧ lent = []
def spec_DrawApplyMatrix_body {α : Type} (F0 : T1 α) (F1 : T4 α) (F2 : T20 α)  (k : Nat) (code : List Int) (r0 : Int → Int → Int → Int → Int → Int → Option α) : Option α :=
  F0 k code fun v v1 =>
  F1 k code v v1 fun v2 v3 v4 v5 v6 v7 =>
  F2 k code v6 v7 fun v8 v9 _ _ =>
  r0 v2 v3 v4 v5 v8 v9
theorem spec_DrawApplyMatrix_gen {α : Type} (F0 : T1 α) (F1 : T4 α) (F2 : T20 α)  (n : Nat) (code : List Int) (κ : Res → Option α) : evFn Try.prog (spec_DrawApplyMatrix_XG F0 F1 F2 n) Try.f29 (((buildDs spec_DrawApplyMatrix_sh [.rows (.int .u8) code]).map Prod.fst).getD []) κ = spec_DrawApplyMatrix_body F0 F1 F2 n code (fun v1 v2 v3 v4 v5 v6 => κ ⟨[.agg [.int .i64 v1, .int .i64 v2, .int .i64 v3, .int .i64 v4], .agg [.int .i64 v5, .int .i64 v6]], []⟩) := by kernel_rfl
theorem spec_DrawApplyMatrix_eq {α : Type} (n : Nat) (code : List Int) (r0 : Int → Int → Int → Int → Int → Int → Option α) : spec_DrawApplyMatrix_body spec_l01From spec_l01AnyMatrix spec_l01Spoil n code r0 = spec_DrawApplyMatrix n code r0 := (spec_DrawApplyMatrix_body.eq_1 spec_l01From spec_l01AnyMatrix spec_l01Spoil n code r0).trans (spec_DrawApplyMatrix.eq_1 n code r0).symm
theorem spec_DrawApplyMatrix_rn {α : Type} (F : T21 α) (n : Nat) (code : List Int) (κ : Res → Option α) : spec_DrawApplyMatrix_runG F n [.rows (.int .u8) code] κ = F n code (fun v1 v2 v3 v4 v5 v6 => κ ⟨[.agg [.int .i64 v1, .int .i64 v2, .int .i64 v3, .int .i64 v4], .agg [.int .i64 v5, .int .i64 v6]], []⟩) := rfl
theorem spec_DrawApplyMatrix_ev {α : Type} (n : Nat) (code : List Int) (κ : Res → Option α) : evFn Try.prog (spec_DrawApplyMatrix_X n) Try.f29 (((buildDs spec_DrawApplyMatrix_sh [.rows (.int .u8) code]).map Prod.fst).getD []) κ = spec_DrawApplyMatrix_run n [.rows (.int .u8) code] κ := (spec_DrawApplyMatrix_gen spec_l01From spec_l01AnyMatrix spec_l01Spoil n code κ).trans ((spec_DrawApplyMatrix_eq n code (fun v1 v2 v3 v4 v5 v6 => κ ⟨[.agg [.int .i64 v1, .int .i64 v2, .int .i64 v3, .int .i64 v4], .agg [.int .i64 v5, .int .i64 v6]], []⟩)).trans ((spec_DrawApplyMatrix_run.eq_1 n [.rows (.int .u8) code] κ).trans (spec_DrawApplyMatrix_rn spec_DrawApplyMatrix n code κ)).symm)
theorem spec_DrawApplyMatrix_en (code : List Int) : (entry 0 (((buildDs spec_DrawApplyMatrix_sh [.rows (.int .u8) code]).map Prod.fst).getD [])).map (fun x => (x.1.length, x.2.lent)) = some (1, []) := by kernel_rfl
theorem spec_DrawApplyMatrix_good {α : Type} : ∀ n, GoodFn (α := α) Try.prog 29 (byShape spec_DrawApplyMatrix_sh (spec_DrawApplyMatrix_run n)) := by
  refine fn_good' Try.func29 (c := (Try.f29.body.getD .skip)) (by kernel_rfl) (by kernel_rfl) (by kernel_rfl) spec_DrawApplyMatrix_C spec_DrawApplyMatrix_M eqs spec_DrawApplyMatrix_lps spec_DrawApplyMatrix_jt (fun n => tabC_good (List.forall_mem_cons.2 ⟨(spec_l01From_good n), (List.forall_mem_cons.2 ⟨(spec_l01AnyMatrix_good n), (List.forall_mem_cons.2 ⟨(spec_l01Spoil_good n), (fun _ h => absurd h List.not_mem_nil)⟩)⟩)⟩)) eqs_ok spec_DrawApplyMatrix_Lt ?_ ?_ spec_DrawApplyMatrix_sh spec_DrawApplyMatrix_run ?_
  · exact (fun _ h => absurd h List.not_mem_nil)
  · exact (fun _ h => absurd h List.not_mem_nil)
  · intro n p κ r ds hd hr
    have hr0 := hr
    unfold spec_DrawApplyMatrix_run spec_DrawApplyMatrix_runG at hr
    split at hr
    · rw [← ds_of hd]
      exact ⟨en_of (spec_DrawApplyMatrix_en _) ⟨rfl, rfl⟩, (spec_DrawApplyMatrix_ev n _ κ).trans hr0⟩
    · cases hr

/-! loop.example/g01297/spec.l01Apply -/
def spec_l01Apply_sh : List SkD := [.agg [.int .i64, .int .i64, .int .i64, .int .i64], .agg [.int .i64, .int .i64]]
def spec_l01Apply_runG {α : Type} (F : T25 α) (n : Nat) (p : List P1) (κ : Res → Option α) : Option α := match p with
  | [.int m, .int m1, .int m2, .int m3, .int a, .int a1] => F n m m1 m2 m3 a a1 (fun v1 v2 => κ ⟨[.agg [.int .i64 v1, .int .i64 v2]], []⟩)
  | _ => none
def spec_l01Apply_run {α : Type} (n : Nat) (p : List P1) (κ : Res → Option α) : Option α := spec_l01Apply_runG spec_l01Apply n p κ
def spec_l01Apply_CG {α : Type}  (n : Nat) : FuncId → List D → (Res → Option α) → Option α := tabC []
def spec_l01Apply_C {α : Type} (n : Nat) : FuncId → List D → (Res → Option α) → Option α := spec_l01Apply_CG n
def spec_l01Apply_M : FuncId → List Nat := tabM []
def spec_l01Apply_lpsG {α : Type}  : List (LoopT α) := []
def spec_l01Apply_lps {α : Type} : List (LoopT α) := spec_l01Apply_lpsG
def spec_l01Apply_jt : Nat → Option Tpl := jtOf []
def spec_l01Apply_XG {α : Type}   (n : Nat) : Ctx α := ⟨spec_l01Apply_CG n, spec_l01Apply_M, eqs, lpOf (spec_l01Apply_lpsG) n, spec_l01Apply_jt⟩
def spec_l01Apply_X {α : Type} (n : Nat) : Ctx α := spec_l01Apply_XG n
def spec_l01Apply_Lt (np : Nat) (lent : List (Bool × Nat × Blk)) : Prop := np = 2 ∧ lent = []
def spec_l01Apply_body {α : Type}   (k : Nat) (m : Int) (m1 : Int) (m2 : Int) (m3 : Int) (a : Int) (a1 : Int) (r0 : Int → Int → Option α) : Option α :=
  r0 (w64 ((w64 (m * a)) + (w64 (m1 * a1)))) (w64 ((w64 (m2 * a)) + (w64 (m3 * a1))))
theorem spec_l01Apply_gen {α : Type}   (n : Nat) (m : Int) (m1 : Int) (m2 : Int) (m3 : Int) (a : Int) (a1 : Int) (κ : Res → Option α) : evFn Try.prog (spec_l01Apply_XG n) Try.f73 (((buildDs spec_l01Apply_sh [.int m, .int m1, .int m2, .int m3, .int a, .int a1]).map Prod.fst).getD []) κ = spec_l01Apply_body n m m1 m2 m3 a a1 (fun v1 v2 => κ ⟨[.agg [.int .i64 v1, .int .i64 v2]], []⟩) := by kernel_rfl
theorem spec_l01Apply_eq {α : Type} (n : Nat) (m : Int) (m1 : Int) (m2 : Int) (m3 : Int) (a : Int) (a1 : Int) (r0 : Int → Int → Option α) : spec_l01Apply_body n m m1 m2 m3 a a1 r0 = spec_l01Apply n m m1 m2 m3 a a1 r0 := (spec_l01Apply_body.eq_1 n m m1 m2 m3 a a1 r0).trans (spec_l01Apply.eq_1 n m m1 m2 m3 a a1 r0).symm
theorem spec_l01Apply_rn {α : Type} (F : T25 α) (n : Nat) (m : Int) (m1 : Int) (m2 : Int) (m3 : Int) (a : Int) (a1 : Int) (κ : Res → Option α) : spec_l01Apply_runG F n [.int m, .int m1, .int m2, .int m3, .int a, .int a1] κ = F n m m1 m2 m3 a a1 (fun v1 v2 => κ ⟨[.agg [.int .i64 v1, .int .i64 v2]], []⟩) := rfl
theorem spec_l01Apply_ev {α : Type} (n : Nat) (m : Int) (m1 : Int) (m2 : Int) (m3 : Int) (a : Int) (a1 : Int) (κ : Res → Option α) : evFn Try.prog (spec_l01Apply_X n) Try.f73 (((buildDs spec_l01Apply_sh [.int m, .int m1, .int m2, .int m3, .int a, .int a1]).map Prod.fst).getD []) κ = spec_l01Apply_run n [.int m, .int m1, .int m2, .int m3, .int a, .int a1] κ := (spec_l01Apply_gen n m m1 m2 m3 a a1 κ).trans ((spec_l01Apply_eq n m m1 m2 m3 a a1 (fun v1 v2 => κ ⟨[.agg [.int .i64 v1, .int .i64 v2]], []⟩)).trans ((spec_l01Apply_run.eq_1 n [.int m, .int m1, .int m2, .int m3, .int a, .int a1] κ).trans (spec_l01Apply_rn spec_l01Apply n m m1 m2 m3 a a1 κ)).symm)
theorem spec_l01Apply_en (m : Int) (m1 : Int) (m2 : Int) (m3 : Int) (a : Int) (a1 : Int) : (entry 0 (((buildDs spec_l01Apply_sh [.int m, .int m1, .int m2, .int m3, .int a, .int a1]).map Prod.fst).getD [])).map (fun x => (x.1.length, x.2.lent)) = some (2, []) := by kernel_rfl
theorem spec_l01Apply_good {α : Type} : ∀ n, GoodFn (α := α) Try.prog 73 (byShape spec_l01Apply_sh (spec_l01Apply_run n)) := by
  refine fn_good' Try.func73 (c := (Try.f73.body.getD .skip)) (by kernel_rfl) (by kernel_rfl) (by kernel_rfl) spec_l01Apply_C spec_l01Apply_M eqs spec_l01Apply_lps spec_l01Apply_jt (fun n => tabC_good (fun _ h => absurd h List.not_mem_nil)) eqs_ok spec_l01Apply_Lt ?_ ?_ spec_l01Apply_sh spec_l01Apply_run ?_
  · exact (fun _ h => absurd h List.not_mem_nil)
  · exact (fun _ h => absurd h List.not_mem_nil)
  · intro n p κ r ds hd hr
    have hr0 := hr
    unfold spec_l01Apply_run spec_l01Apply_runG at hr
    split at hr
    · rw [← ds_of hd]
      exact ⟨en_of (spec_l01Apply_en _ _ _ _ _ _) ⟨rfl, rfl⟩, (spec_l01Apply_ev n _ _ _ _ _ _ κ).trans hr0⟩
    · cases hr

/-! loop.example/g01297/spec.ApplyMatrix -/
def spec_ApplyMatrix_sh : List SkD := [.agg [.int .i64, .int .i64, .int .i64, .int .i64], .agg [.int .i64, .int .i64]]
def spec_ApplyMatrix_runG {α : Type} (F : T28 α) (n : Nat) (p : List P1) (κ : Res → Option α) : Option α := match p with
  | [.int m, .int m1, .int m2, .int m3, .int a, .int a1] => F n m m1 m2 m3 a a1 (fun v1 v2 v3 => κ ⟨[.agg [.int .i64 v1, .int .i64 v2], .int .i64 v3], []⟩)
  | _ => none
def spec_ApplyMatrix_run {α : Type} (n : Nat) (p : List P1) (κ : Res → Option α) : Option α := spec_ApplyMatrix_runG spec_ApplyMatrix n p κ
def spec_ApplyMatrix_CG {α : Type} (F0 : T14 α) (F1 : T11 α) (F2 : T25 α) (F3 : T27 α) (n : Nat) : FuncId → List D → (Res → Option α) → Option α := tabC [(40, (byShape spec_l01Matrix_sh (spec_l01Matrix_runG F0 n))), (60, (byShape spec_l01Is_sh (spec_l01Is_runG F1 n))), (73, (byShape spec_l01Apply_sh (spec_l01Apply_runG F2 n))), (71, (byShape spec_l01Told_sh (spec_l01Told_runG F3 n)))]
def spec_ApplyMatrix_C {α : Type} (n : Nat) : FuncId → List D → (Res → Option α) → Option α := spec_ApplyMatrix_CG spec_l01Matrix spec_l01Is spec_l01Apply spec_l01Told n
def spec_ApplyMatrix_M : FuncId → List Nat := tabM []
def spec_ApplyMatrix_lpsG {α : Type}  : List (LoopT α) := []
def spec_ApplyMatrix_lps {α : Type} : List (LoopT α) := spec_ApplyMatrix_lpsG
def spec_ApplyMatrix_jt : Nat → Option Tpl := jtOf []
def spec_ApplyMatrix_XG {α : Type} (F0 : T14 α) (F1 : T11 α) (F2 : T25 α) (F3 : T27 α)  (n : Nat) : Ctx α := ⟨spec_ApplyMatrix_CG F0 F1 F2 F3 n, spec_ApplyMatrix_M, eqs, lpOf (spec_ApplyMatrix_lpsG) n, spec_ApplyMatrix_jt⟩
def spec_ApplyMatrix_X {α : Type} (n : Nat) : Ctx α := spec_ApplyMatrix_XG spec_l01Matrix spec_l01Is spec_l01Apply spec_l01Told n
def spec_ApplyMatrix_Lt (np : Nat) (lent : List (Bool × Nat × Blk)) : Prop := np = 2 ∧ lent = []
def spec_ApplyMatrix_body {α : Type} (F0 : T14 α) (F1 : T11 α) (F2 : T25 α) (F3 : T27 α)  (k : Nat) (m : Int) (m1 : Int) (m2 : Int) (m3 : Int) (a : Int) (a1 : Int) (r0 : Int → Int → Int → Option α) : Option α :=
  F0 k m m1 m2 m3 fun v =>
  bif (!v) then
    r0 0 0 1
  else
    F1 k a a1 fun v1 =>
    bif (!v1) then
      r0 0 0 1
    else
      F2 k m m1 m2 m3 a a1 fun v2 v3 =>
      F3 k v2 v3 fun v4 v5 v6 =>
      r0 v4 v5 v6
theorem spec_ApplyMatrix_gen {α : Type} (F0 : T14 α) (F1 : T11 α) (F2 : T25 α) (F3 : T27 α)  (n : Nat) (m : Int) (m1 : Int) (m2 : Int) (m3 : Int) (a : Int) (a1 : Int) (κ : Res → Option α) : evFn Try.prog (spec_ApplyMatrix_XG F0 F1 F2 F3 n) Try.f30 (((buildDs spec_ApplyMatrix_sh [.int m, .int m1, .int m2, .int m3, .int a, .int a1]).map Prod.fst).getD []) κ = spec_ApplyMatrix_body F0 F1 F2 F3 n m m1 m2 m3 a a1 (fun v1 v2 v3 => κ ⟨[.agg [.int .i64 v1, .int .i64 v2], .int .i64 v3], []⟩) := by kernel_rfl
theorem spec_ApplyMatrix_eq {α : Type} (n : Nat) (m : Int) (m1 : Int) (m2 : Int) (m3 : Int) (a : Int) (a1 : Int) (r0 : Int → Int → Int → Option α) : spec_ApplyMatrix_body spec_l01Matrix spec_l01Is spec_l01Apply spec_l01Told n m m1 m2 m3 a a1 r0 = spec_ApplyMatrix n m m1 m2 m3 a a1 r0 := (spec_ApplyMatrix_body.eq_1 spec_l01Matrix spec_l01Is spec_l01Apply spec_l01Told n m m1 m2 m3 a a1 r0).trans (spec_ApplyMatrix.eq_1 n m m1 m2 m3 a a1 r0).symm
theorem spec_ApplyMatrix_rn {α : Type} (F : T28 α) (n : Nat) (m : Int) (m1 : Int) (m2 : Int) (m3 : Int) (a : Int) (a1 : Int) (κ : Res → Option α) : spec_ApplyMatrix_runG F n [.int m, .int m1, .int m2, .int m3, .int a, .int a1] κ = F n m m1 m2 m3 a a1 (fun v1 v2 v3 => κ ⟨[.agg [.int .i64 v1, .int .i64 v2], .int .i64 v3], []⟩) := rfl
theorem spec_ApplyMatrix_ev {α : Type} (n : Nat) (m : Int) (m1 : Int) (m2 : Int) (m3 : Int) (a : Int) (a1 : Int) (κ : Res → Option α) : evFn Try.prog (spec_ApplyMatrix_X n) Try.f30 (((buildDs spec_ApplyMatrix_sh [.int m, .int m1, .int m2, .int m3, .int a, .int a1]).map Prod.fst).getD []) κ = spec_ApplyMatrix_run n [.int m, .int m1, .int m2, .int m3, .int a, .int a1] κ := (spec_ApplyMatrix_gen spec_l01Matrix spec_l01Is spec_l01Apply spec_l01Told n m m1 m2 m3 a a1 κ).trans ((spec_ApplyMatrix_eq n m m1 m2 m3 a a1 (fun v1 v2 v3 => κ ⟨[.agg [.int .i64 v1, .int .i64 v2], .int .i64 v3], []⟩)).trans ((spec_ApplyMatrix_run.eq_1 n [.int m, .int m1, .int m2, .int m3, .int a, .int a1] κ).trans (spec_ApplyMatrix_rn spec_ApplyMatrix n m m1 m2 m3 a a1 κ)).symm)
theorem spec_ApplyMatrix_en (m : Int) (m1 : Int) (m2 : Int) (m3 : Int) (a : Int) (a1 : Int) : (entry 0 (((buildDs spec_ApplyMatrix_sh [.int m, .int m1, .int m2, .int m3, .int a, .int a1]).map Prod.fst).getD [])).map (fun x => (x.1.length, x.2.lent)) = some (2, []) := by kernel_rfl
theorem spec_ApplyMatrix_good {α : Type} : ∀ n, GoodFn (α := α) Try.prog 30 (byShape spec_ApplyMatrix_sh (spec_ApplyMatrix_run n)) := by
  refine fn_good' Try.func30 (c := (Try.f30.body.getD .skip)) (by kernel_rfl) (by kernel_rfl) (by kernel_rfl) spec_ApplyMatrix_C spec_ApplyMatrix_M eqs spec_ApplyMatrix_lps spec_ApplyMatrix_jt (fun n => tabC_good (List.forall_mem_cons.2 ⟨(spec_l01Matrix_good n), (List.forall_mem_cons.2 ⟨(spec_l01Is_good n), (List.forall_mem_cons.2 ⟨(spec_l01Apply_good n), (List.forall_mem_cons.2 ⟨(spec_l01Told_good n), (fun _ h => absurd h List.not_mem_nil)⟩)⟩)⟩)⟩)) eqs_ok spec_ApplyMatrix_Lt ?_ ?_ spec_ApplyMatrix_sh spec_ApplyMatrix_run ?_
  · exact (fun _ h => absurd h List.not_mem_nil)
  · exact (fun _ h => absurd h List.not_mem_nil)
  · intro n p κ r ds hd hr
    have hr0 := hr
    unfold spec_ApplyMatrix_run spec_ApplyMatrix_runG at hr
    split at hr
    · rw [← ds_of hd]
      exact ⟨en_of (spec_ApplyMatrix_en _ _ _ _ _ _) ⟨rfl, rfl⟩, (spec_ApplyMatrix_ev n _ _ _ _ _ _ κ).trans hr0⟩
    · cases hr

/-! loop.example/g01297/spec.DrawMultiplyMatrices -/
def spec_DrawMultiplyMatrices_sh : List SkD := [.sl 5 (.int .u8)]
def spec_DrawMultiplyMatrices_runG {α : Type} (F : T33 α) (n : Nat) (p : List P1) (κ : Res → Option α) : Option α := match p with
  | [.rows (.int .u8) code] => F n code (fun v1 v2 v3 v4 v5 v6 v7 v8 => κ ⟨[.agg [.int .i64 v1, .int .i64 v2, .int .i64 v3, .int .i64 v4], .agg [.int .i64 v5, .int .i64 v6, .int .i64 v7, .int .i64 v8]], []⟩)
  | _ => none
def spec_DrawMultiplyMatrices_run {α : Type} (n : Nat) (p : List P1) (κ : Res → Option α) : Option α := spec_DrawMultiplyMatrices_runG spec_DrawMultiplyMatrices n p κ
def spec_DrawMultiplyMatrices_CG {α : Type} (F0 : T1 α) (F1 : T4 α) (n : Nat) : FuncId → List D → (Res → Option α) → Option α := tabC [(36, (byShape spec_l01From_sh (spec_l01From_runG F0 n))), (35, (byShape spec_l01AnyMatrix_sh (spec_l01AnyMatrix_runG F1 n)))]
def spec_DrawMultiplyMatrices_C {α : Type} (n : Nat) : FuncId → List D → (Res → Option α) → Option α := spec_DrawMultiplyMatrices_CG spec_l01From spec_l01AnyMatrix n
def spec_DrawMultiplyMatrices_M : FuncId → List Nat := tabM [(35, [1])]
def spec_DrawMultiplyMatrices_lpsG {α : Type}  : List (LoopT α) := []
def spec_DrawMultiplyMatrices_lps {α : Type} : List (LoopT α) := spec_DrawMultiplyMatrices_lpsG
def spec_DrawMultiplyMatrices_jt : Nat → Option Tpl := jtOf []
def spec_DrawMultiplyMatrices_XG {α : Type} (F0 : T1 α) (F1 : T4 α)  (n : Nat) : Ctx α := ⟨spec_DrawMultiplyMatrices_CG F0 F1 n, spec_DrawMultiplyMatrices_M, eqs, lpOf (spec_DrawMultiplyMatrices_lpsG) n, spec_DrawMultiplyMatrices_jt⟩
def spec_DrawMultiplyMatrices_X {α : Type} (n : Nat) : Ctx α := spec_DrawMultiplyMatrices_XG spec_l01From spec_l01AnyMatrix n
def spec_DrawMultiplyMatrices_Lt (np : Nat) (lent : List (Bool × Nat × Blk)) : Prop := np = 1 ∧ lent = []
def spec_DrawMultiplyMatrices_body {α : Type} (F0 : T1 α) (F1 : T4 α)  (k : Nat) (code : List Int) (r0 : Int → Int → Int → Int → Int → Int → Int → Int → Option α) : Option α :=
  F0 k code fun v v1 =>
  F1 k code v v1 fun v2 v3 v4 v5 v6 v7 =>
  F1 k code v6 v7 fun v8 v9 v10 v11 _ _ =>
  r0 v2 v3 v4 v5 v8 v9 v10 v11
theorem spec_DrawMultiplyMatrices_gen {α : Type} (F0 : T1 α) (F1 : T4 α)  (n : Nat) (code : List Int) (κ : Res → Option α) : evFn Try.prog (spec_DrawMultiplyMatrices_XG F0 F1 n) Try.f31 (((buildDs spec_DrawMultiplyMatrices_sh [.rows (.int .u8) code]).map Prod.fst).getD []) κ = spec_DrawMultiplyMatrices_body F0 F1 n code (fun v1 v2 v3 v4 v5 v6 v7 v8 => κ ⟨[.agg [.int .i64 v1, .int .i64 v2, .int .i64 v3, .int .i64 v4], .agg [.int .i64 v5, .int .i64 v6, .int .i64 v7, .int .i64 v8]], []⟩) := by kernel_rfl
theorem spec_DrawMultiplyMatrices_eq {α : Type} (n : Nat) (code : List Int) (r0 : Int → Int → Int → Int → Int → Int → Int → Int → Option α) : spec_DrawMultiplyMatrices_body spec_l01From spec_l01AnyMatrix n code r0 = spec_DrawMultiplyMatrices n code r0 := (spec_DrawMultiplyMatrices_body.eq_1 spec_l01From spec_l01AnyMatrix n code r0).trans (spec_DrawMultiplyMatrices.eq_1 n code r0).symm
theorem spec_DrawMultiplyMatrices_rn {α : Type} (F : T33 α) (n : Nat) (code : List Int) (κ : Res → Option α) : spec_DrawMultiplyMatrices_runG F n [.rows (.int .u8) code] κ = F n code (fun v1 v2 v3 v4 v5 v6 v7 v8 => κ ⟨[.agg [.int .i64 v1, .int .i64 v2, .int .i64 v3, .int .i64 v4], .agg [.int .i64 v5, .int .i64 v6, .int .i64 v7, .int .i64 v8]], []⟩) := rfl
theorem spec_DrawMultiplyMatrices_ev {α : Type} (n : Nat) (code : List Int) (κ : Res → Option α) : evFn Try.prog (spec_DrawMultiplyMatrices_X n) Try.f31 (((buildDs spec_DrawMultiplyMatrices_sh [.rows (.int .u8) code]).map Prod.fst).getD []) κ = spec_DrawMultiplyMatrices_run n [.rows (.int .u8) code] κ := (spec_DrawMultiplyMatrices_gen spec_l01From spec_l01AnyMatrix n code κ).trans ((spec_DrawMultiplyMatrices_eq n code (fun v1 v2 v3 v4 v5 v6 v7 v8 => κ ⟨[.agg [.int .i64 v1, .int .i64 v2, .int .i64 v3, .int .i64 v4], .agg [.int .i64 v5, .int .i64 v6, .int .i64 v7, .int .i64 v8]], []⟩)).trans ((spec_DrawMultiplyMatrices_run.eq_1 n [.rows (.int .u8) code] κ).trans (spec_DrawMultiplyMatrices_rn spec_DrawMultiplyMatrices n code κ)).symm)
theorem spec_DrawMultiplyMatrices_en (code : List Int) : (entry 0 (((buildDs spec_DrawMultiplyMatrices_sh [.rows (.int .u8) code]).map Prod.fst).getD [])).map (fun x => (x.1.length, x.2.lent)) = some (1, []) := by kernel_rfl
theorem spec_DrawMultiplyMatrices_good {α : Type} : ∀ n, GoodFn (α := α) Try.prog 31 (byShape spec_DrawMultiplyMatrices_sh (spec_DrawMultiplyMatrices_run n)) := by
  refine fn_good' Try.func31 (c := (Try.f31.body.getD .skip)) (by kernel_rfl) (by kernel_rfl) (by kernel_rfl) spec_DrawMultiplyMatrices_C spec_DrawMultiplyMatrices_M eqs spec_DrawMultiplyMatrices_lps spec_DrawMultiplyMatrices_jt (fun n => tabC_good (List.forall_mem_cons.2 ⟨(spec_l01From_good n), (List.forall_mem_cons.2 ⟨(spec_l01AnyMatrix_good n), (fun _ h => absurd h List.not_mem_nil)⟩)⟩)) eqs_ok spec_DrawMultiplyMatrices_Lt ?_ ?_ spec_DrawMultiplyMatrices_sh spec_DrawMultiplyMatrices_run ?_
  · exact (fun _ h => absurd h List.not_mem_nil)
  · exact (fun _ h => absurd h List.not_mem_nil)
  · intro n p κ r ds hd hr
    have hr0 := hr
    unfold spec_DrawMultiplyMatrices_run spec_DrawMultiplyMatrices_runG at hr
    split at hr
    · rw [← ds_of hd]
      exact ⟨en_of (spec_DrawMultiplyMatrices_en _) ⟨rfl, rfl⟩, (spec_DrawMultiplyMatrices_ev n _ κ).trans hr0⟩
    · cases hr

/-! loop.example/g01297/spec.MultiplyMatrices -/
def spec_MultiplyMatrices_sh : List SkD := [.agg [.int .i64, .int .i64, .int .i64, .int .i64], .agg [.int .i64, .int .i64, .int .i64, .int .i64]]
def spec_MultiplyMatrices_runG {α : Type} (F : T26 α) (n : Nat) (p : List P1) (κ : Res → Option α) : Option α := match p with
  | [.int m, .int m1, .int m2, .int m3, .int n_, .int n_1, .int n_2, .int n_3] => F n m m1 m2 m3 n_ n_1 n_2 n_3 (fun v1 v2 v3 v4 v5 => κ ⟨[.agg [.int .i64 v1, .int .i64 v2, .int .i64 v3, .int .i64 v4], .int .i64 v5], []⟩)
  | _ => none
def spec_MultiplyMatrices_run {α : Type} (n : Nat) (p : List P1) (κ : Res → Option α) : Option α := spec_MultiplyMatrices_runG spec_MultiplyMatrices n p κ
def spec_MultiplyMatrices_CG {α : Type} (F0 : T14 α) (F1 : T3 α) (n : Nat) : FuncId → List D → (Res → Option α) → Option α := tabC [(40, (byShape spec_l01Matrix_sh (spec_l01Matrix_runG F0 n))), (74, (byShape spec_l01Times_sh (spec_l01Times_runG F1 n)))]
def spec_MultiplyMatrices_C {α : Type} (n : Nat) : FuncId → List D → (Res → Option α) → Option α := spec_MultiplyMatrices_CG spec_l01Matrix spec_l01Times n
def spec_MultiplyMatrices_M : FuncId → List Nat := tabM []
def spec_MultiplyMatrices_lpsG {α : Type}  : List (LoopT α) := []
def spec_MultiplyMatrices_lps {α : Type} : List (LoopT α) := spec_MultiplyMatrices_lpsG
def spec_MultiplyMatrices_jt : Nat → Option Tpl := jtOf []
def spec_MultiplyMatrices_XG {α : Type} (F0 : T14 α) (F1 : T3 α)  (n : Nat) : Ctx α := ⟨spec_MultiplyMatrices_CG F0 F1 n, spec_MultiplyMatrices_M, eqs, lpOf (spec_MultiplyMatrices_lpsG) n, spec_MultiplyMatrices_jt⟩
def spec_MultiplyMatrices_X {α : Type} (n : Nat) : Ctx α := spec_MultiplyMatrices_XG spec_l01Matrix spec_l01Times n
def spec_MultiplyMatrices_Lt (np : Nat) (lent : List (Bool × Nat × Blk)) : Prop := np = 2 ∧ lent = []
def spec_MultiplyMatrices_body {α : Type} (F0 : T14 α) (F1 : T3 α)  (k : Nat) (m : Int) (m1 : Int) (m2 : Int) (m3 : Int) (n_ : Int) (n_1 : Int) (n_2 : Int) (n_3 : Int) (r0 : Int → Int → Int → Int → Int → Option α) : Option α :=
  F0 k m m1 m2 m3 fun v =>
  bif (!v) then
    r0 0 0 0 0 1
  else
    F0 k n_ n_1 n_2 n_3 fun v1 =>
    bif (!v1) then
      r0 0 0 0 0 1
    else
      F1 k m m1 m2 m3 n_ n_1 n_2 n_3 fun v2 v3 v4 v5 =>
      F0 k v2 v3 v4 v5 fun v6 =>
      bif (!v6) then
        r0 0 0 0 0 3
      else
        r0 v2 v3 v4 v5 0
theorem spec_MultiplyMatrices_gen {α : Type} (F0 : T14 α) (F1 : T3 α)  (n : Nat) (m : Int) (m1 : Int) (m2 : Int) (m3 : Int) (n_ : Int) (n_1 : Int) (n_2 : Int) (n_3 : Int) (κ : Res → Option α) : evFn Try.prog (spec_MultiplyMatrices_XG F0 F1 n) Try.f32 (((buildDs spec_MultiplyMatrices_sh [.int m, .int m1, .int m2, .int m3, .int n_, .int n_1, .int n_2, .int n_3]).map Prod.fst).getD []) κ = spec_MultiplyMatrices_body F0 F1 n m m1 m2 m3 n_ n_1 n_2 n_3 (fun v1 v2 v3 v4 v5 => κ ⟨[.agg [.int .i64 v1, .int .i64 v2, .int .i64 v3, .int .i64 v4], .int .i64 v5], []⟩) := by kernel_rfl
theorem spec_MultiplyMatrices_eq {α : Type} (n : Nat) (m : Int) (m1 : Int) (m2 : Int) (m3 : Int) (n_ : Int) (n_1 : Int) (n_2 : Int) (n_3 : Int) (r0 : Int → Int → Int → Int → Int → Option α) : spec_MultiplyMatrices_body spec_l01Matrix spec_l01Times n m m1 m2 m3 n_ n_1 n_2 n_3 r0 = spec_MultiplyMatrices n m m1 m2 m3 n_ n_1 n_2 n_3 r0 := (spec_MultiplyMatrices_body.eq_1 spec_l01Matrix spec_l01Times n m m1 m2 m3 n_ n_1 n_2 n_3 r0).trans (spec_MultiplyMatrices.eq_1 n m m1 m2 m3 n_ n_1 n_2 n_3 r0).symm
theorem spec_MultiplyMatrices_rn {α : Type} (F : T26 α) (n : Nat) (m : Int) (m1 : Int) (m2 : Int) (m3 : Int) (n_ : Int) (n_1 : Int) (n_2 : Int) (n_3 : Int) (κ : Res → Option α) : spec_MultiplyMatrices_runG F n [.int m, .int m1, .int m2, .int m3, .int n_, .int n_1, .int n_2, .int n_3] κ = F n m m1 m2 m3 n_ n_1 n_2 n_3 (fun v1 v2 v3 v4 v5 => κ ⟨[.agg [.int .i64 v1, .int .i64 v2, .int .i64 v3, .int .i64 v4], .int .i64 v5], []⟩) := rfl
theorem spec_MultiplyMatrices_ev {α : Type} (n : Nat) (m : Int) (m1 : Int) (m2 : Int) (m3 : Int) (n_ : Int) (n_1 : Int) (n_2 : Int) (n_3 : Int) (κ : Res → Option α) : evFn Try.prog (spec_MultiplyMatrices_X n) Try.f32 (((buildDs spec_MultiplyMatrices_sh [.int m, .int m1, .int m2, .int m3, .int n_, .int n_1, .int n_2, .int n_3]).map Prod.fst).getD []) κ = spec_MultiplyMatrices_run n [.int m, .int m1, .int m2, .int m3, .int n_, .int n_1, .int n_2, .int n_3] κ := (spec_MultiplyMatrices_gen spec_l01Matrix spec_l01Times n m m1 m2 m3 n_ n_1 n_2 n_3 κ).trans ((spec_MultiplyMatrices_eq n m m1 m2 m3 n_ n_1 n_2 n_3 (fun v1 v2 v3 v4 v5 => κ ⟨[.agg [.int .i64 v1, .int .i64 v2, .int .i64 v3, .int .i64 v4], .int .i64 v5], []⟩)).trans ((spec_MultiplyMatrices_run.eq_1 n [.int m, .int m1, .int m2, .int m3, .int n_, .int n_1, .int n_2, .int n_3] κ).trans (spec_MultiplyMatrices_rn spec_MultiplyMatrices n m m1 m2 m3 n_ n_1 n_2 n_3 κ)).symm)
theorem spec_MultiplyMatrices_en (m : Int) (m1 : Int) (m2 : Int) (m3 : Int) (n_ : Int) (n_1 : Int) (n_2 : Int) (n_3 : Int) : (entry 0 (((buildDs spec_MultiplyMatrices_sh [.int m, .int m1, .int m2, .int m3, .int n_, .int n_1, .int n_2, .int n_3]).map Prod.fst).getD [])).map (fun x => (x.1.length, x.2.lent)) = some (2, []) := by kernel_rfl
theorem spec_MultiplyMatrices_good {α : Type} : ∀ n, GoodFn (α := α) Try.prog 32 (byShape spec_MultiplyMatrices_sh (spec_MultiplyMatrices_run n)) := by
  refine fn_good' Try.func32 (c := (Try.f32.body.getD .skip)) (by kernel_rfl) (by kernel_rfl) (by kernel_rfl) spec_MultiplyMatrices_C spec_MultiplyMatrices_M eqs spec_MultiplyMatrices_lps spec_MultiplyMatrices_jt (fun n => tabC_good (List.forall_mem_cons.2 ⟨(spec_l01Matrix_good n), (List.forall_mem_cons.2 ⟨(spec_l01Times_good n), (fun _ h => absurd h List.not_mem_nil)⟩)⟩)) eqs_ok spec_MultiplyMatrices_Lt ?_ ?_ spec_MultiplyMatrices_sh spec_MultiplyMatrices_run ?_
  · exact (fun _ h => absurd h List.not_mem_nil)
  · exact (fun _ h => absurd h List.not_mem_nil)
  · intro n p κ r ds hd hr
    have hr0 := hr
    unfold spec_MultiplyMatrices_run spec_MultiplyMatrices_runG at hr
    split at hr
    · rw [← ds_of hd]
      exact ⟨en_of (spec_MultiplyMatrices_en _ _ _ _ _ _ _ _) ⟨rfl, rfl⟩, (spec_MultiplyMatrices_ev n _ _ _ _ _ _ _ _ κ).trans hr0⟩
    · cases hr

/-! loop.example/g01297/spec.DrawLengthOf -/
def spec_DrawLengthOf_sh : List SkD := [.sl 5 (.int .u8)]
def spec_DrawLengthOf_runG {α : Type} (F : T8 α) (n : Nat) (p : List P1) (κ : Res → Option α) : Option α := match p with
  | [.rows (.int .u8) code] => F n code (fun v1 v2 v3 v4 => κ ⟨[.agg [.int .i64 v1, .int .i64 v2], .agg [.int .i64 v3, .int .i64 v4]], []⟩)
  | _ => none
def spec_DrawLengthOf_run {α : Type} (n : Nat) (p : List P1) (κ : Res → Option α) : Option α := spec_DrawLengthOf_runG spec_DrawLengthOf n p κ
def spec_DrawLengthOf_CG {α : Type} (F0 : T1 α) (F1 : T20 α) (F2 : T2 α) (F3 : T7 α) (F4 : T22 α) (F5 : T19 α) (n : Nat) : FuncId → List D → (Res → Option α) → Option α := tabC [(36, (byShape spec_l01From_sh (spec_l01From_runG F0 n))), (43, (byShape spec_l01Spoil_sh (spec_l01Spoil_runG F1 n))), (54, (byShape spec_l01Next_sh (spec_l01Next_runG F2 n))), (75, (byShape spec_l01DrawPoint_sh (spec_l01DrawPoint_runG F3 n))), (72, (byShape spec_l01Plus_sh (spec_l01Plus_runG F4 n))), (55, (byShape spec_l01Bad_sh (spec_l01Bad_runG F5 n)))]
def spec_DrawLengthOf_C {α : Type} (n : Nat) : FuncId → List D → (Res → Option α) → Option α := spec_DrawLengthOf_CG spec_l01From spec_l01Spoil spec_l01Next spec_l01DrawPoint spec_l01Plus spec_l01Bad n
def spec_DrawLengthOf_M : FuncId → List Nat := tabM [(43, [1]), (54, [1]), (75, [1]), (55, [1])]
def spec_DrawLengthOf_lpsG {α : Type}  : List (LoopT α) := []
def spec_DrawLengthOf_lps {α : Type} : List (LoopT α) := spec_DrawLengthOf_lpsG
def spec_DrawLengthOf_jt : Nat → Option Tpl := jtOf []
def spec_DrawLengthOf_XG {α : Type} (F0 : T1 α) (F1 : T20 α) (F2 : T2 α) (F3 : T7 α) (F4 : T22 α) (F5 : T19 α)  (n : Nat) : Ctx α := ⟨spec_DrawLengthOf_CG F0 F1 F2 F3 F4 F5 n, spec_DrawLengthOf_M, eqs, lpOf (spec_DrawLengthOf_lpsG) n, spec_DrawLengthOf_jt⟩
def spec_DrawLengthOf_X {α : Type} (n : Nat) : Ctx α := spec_DrawLengthOf_XG spec_l01From spec_l01Spoil spec_l01Next spec_l01DrawPoint spec_l01Plus spec_l01Bad n
def spec_DrawLengthOf_Lt (np : Nat) (lent : List (Bool × Nat × Blk)) : Prop := np = 1 ∧ lent = []
def spec_DrawLengthOf_body {α : Type} (F0 : T1 α) (F1 : T20 α) (F2 : T2 α) (F3 : T7 α) (F4 : T22 α) (F5 : T19 α)  (k : Nat) (code : List Int) (r0 : Int → Int → Int → Int → Option α) : Option α :=
  F0 k code fun v v1 =>
  F1 k code v v1 fun v2 v3 v4 v5 =>
  F2 k code v4 v5 3 fun v6 v7 v8 =>
  bif decide (v6 = 0) then
    F3 k code v7 v8 3 fun v9 v10 v11 v12 =>
    F2 k code v11 v12 6 fun v13 v14 v15 =>
    F4 k v2 v3 v9 v10 (w64 (1 + v13)) fun v16 v17 =>
    F5 k code v14 v15 v16 v17 fun v18 v19 _ _ =>
    r0 v2 v3 v18 v19
  else
    F1 k code v7 v8 fun v22 v23 _ _ =>
    r0 v2 v3 v22 v23
theorem spec_DrawLengthOf_gen {α : Type} (F0 : T1 α) (F1 : T20 α) (F2 : T2 α) (F3 : T7 α) (F4 : T22 α) (F5 : T19 α)  (n : Nat) (code : List Int) (κ : Res → Option α) : evFn Try.prog (spec_DrawLengthOf_XG F0 F1 F2 F3 F4 F5 n) Try.f33 (((buildDs spec_DrawLengthOf_sh [.rows (.int .u8) code]).map Prod.fst).getD []) κ = spec_DrawLengthOf_body F0 F1 F2 F3 F4 F5 n code (fun v1 v2 v3 v4 => κ ⟨[.agg [.int .i64 v1, .int .i64 v2], .agg [.int .i64 v3, .int .i64 v4]], []⟩) := by kernel_rfl
theorem spec_DrawLengthOf_eq {α : Type} (n : Nat) (code : List Int) (r0 : Int → Int → Int → Int → Option α) : spec_DrawLengthOf_body spec_l01From spec_l01Spoil spec_l01Next spec_l01DrawPoint spec_l01Plus spec_l01Bad n code r0 = spec_DrawLengthOf n code r0 := (spec_DrawLengthOf_body.eq_1 spec_l01From spec_l01Spoil spec_l01Next spec_l01DrawPoint spec_l01Plus spec_l01Bad n code r0).trans (spec_DrawLengthOf.eq_1 n code r0).symm
theorem spec_DrawLengthOf_rn {α : Type} (F : T8 α) (n : Nat) (code : List Int) (κ : Res → Option α) : spec_DrawLengthOf_runG F n [.rows (.int .u8) code] κ = F n code (fun v1 v2 v3 v4 => κ ⟨[.agg [.int .i64 v1, .int .i64 v2], .agg [.int .i64 v3, .int .i64 v4]], []⟩) := rfl
theorem spec_DrawLengthOf_ev {α : Type} (n : Nat) (code : List Int) (κ : Res → Option α) : evFn Try.prog (spec_DrawLengthOf_X n) Try.f33 (((buildDs spec_DrawLengthOf_sh [.rows (.int .u8) code]).map Prod.fst).getD []) κ = spec_DrawLengthOf_run n [.rows (.int .u8) code] κ := (spec_DrawLengthOf_gen spec_l01From spec_l01Spoil spec_l01Next spec_l01DrawPoint spec_l01Plus spec_l01Bad n code κ).trans ((spec_DrawLengthOf_eq n code (fun v1 v2 v3 v4 => κ ⟨[.agg [.int .i64 v1, .int .i64 v2], .agg [.int .i64 v3, .int .i64 v4]], []⟩)).trans ((spec_DrawLengthOf_run.eq_1 n [.rows (.int .u8) code] κ).trans (spec_DrawLengthOf_rn spec_DrawLengthOf n code κ)).symm)
theorem spec_DrawLengthOf_en (code : List Int) : (entry 0 (((buildDs spec_DrawLengthOf_sh [.rows (.int .u8) code]).map Prod.fst).getD [])).map (fun x => (x.1.length, x.2.lent)) = some (1, []) := by kernel_rfl
theorem spec_DrawLengthOf_good {α : Type} : ∀ n, GoodFn (α := α) Try.prog 33 (byShape spec_DrawLengthOf_sh (spec_DrawLengthOf_run n)) := by
  refine fn_good' Try.func33 (c := (Try.f33.body.getD .skip)) (by kernel_rfl) (by kernel_rfl) (by kernel_rfl) spec_DrawLengthOf_C spec_DrawLengthOf_M eqs spec_DrawLengthOf_lps spec_DrawLengthOf_jt (fun n => tabC_good (List.forall_mem_cons.2 ⟨(spec_l01From_good n), (List.forall_mem_cons.2 ⟨(spec_l01Spoil_good n), (List.forall_mem_cons.2 ⟨(spec_l01Next_good n), (List.forall_mem_cons.2 ⟨(spec_l01DrawPoint_good n), (List.forall_mem_cons.2 ⟨(spec_l01Plus_good n), (List.forall_mem_cons.2 ⟨(spec_l01Bad_good n), (fun _ h => absurd h List.not_mem_nil)⟩)⟩)⟩)⟩)⟩)⟩)) eqs_ok spec_DrawLengthOf_Lt ?_ ?_ spec_DrawLengthOf_sh spec_DrawLengthOf_run ?_
  · exact (fun _ h => absurd h List.not_mem_nil)
  · exact (fun _ h => absurd h List.not_mem_nil)
  · intro n p κ r ds hd hr
    have hr0 := hr
    unfold spec_DrawLengthOf_run spec_DrawLengthOf_runG at hr
    split at hr
    · rw [← ds_of hd]
      exact ⟨en_of (spec_DrawLengthOf_en _) ⟨rfl, rfl⟩, (spec_DrawLengthOf_ev n _ κ).trans hr0⟩
    · cases hr

end Go.Proofs.Ytglpddfibcikgaa
