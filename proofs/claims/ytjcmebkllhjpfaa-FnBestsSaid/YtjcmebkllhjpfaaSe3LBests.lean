/- The program's functions hold to their readings without memory: printed by a program of ours. -/
import Derived.Test.YtjcmebkllhjpfaaSe2LBests
namespace Go.Proofs.Ytjcmebkllhjpfaa
open Go Go.Ev Go.Sh Go.Proofs

/-! cmp.Compare[int64] -/
def cmp_Compare_int64_sh : List SkD := [.int .i64, .int .i64]
def cmp_Compare_int64_runG {α : Type} (F : T10 α) (n : Nat) (p : List P1) (κ : Res → Option α) : Option α := match p with
  | [.int x, .int y] => F n x y (fun v1 => κ ⟨[.int .i64 v1], []⟩)
  | _ => none
def cmp_Compare_int64_run {α : Type} (n : Nat) (p : List P1) (κ : Res → Option α) : Option α := cmp_Compare_int64_runG cmp_Compare_int64 n p κ
def cmp_Compare_int64_CG {α : Type} (F0 : T8 α) (n : Nat) : FuncId → List D → (Res → Option α) → Option α := tabC [(51, (byShape cmp_isNaN_int64_sh (cmp_isNaN_int64_runG F0 n)))]
def cmp_Compare_int64_C {α : Type} (n : Nat) : FuncId → List D → (Res → Option α) → Option α := cmp_Compare_int64_CG cmp_isNaN_int64 n
def cmp_Compare_int64_M : FuncId → List Nat := tabM []
def cmp_Compare_int64_lpsG {α : Type}  : List (LoopT α) := []
def cmp_Compare_int64_lps {α : Type} : List (LoopT α) := cmp_Compare_int64_lpsG
def cmp_Compare_int64_jt : Nat → Option Tpl := jtOf []
def cmp_Compare_int64_XG {α : Type} (F0 : T8 α)  (n : Nat) : Ctx α := ⟨cmp_Compare_int64_CG F0 n, cmp_Compare_int64_M, eqs, lpOf (cmp_Compare_int64_lpsG) n, cmp_Compare_int64_jt⟩
def cmp_Compare_int64_X {α : Type} (n : Nat) : Ctx α := cmp_Compare_int64_XG cmp_isNaN_int64 n
def cmp_Compare_int64_Lt (np : Nat) (lent : List (Bool × Nat × Blk)) : Prop := np = 2 ∧ lent = []
def cmp_Compare_int64_body {α : Type} (F0 : T8 α)  (k : Nat) (x : Int) (y : Int) (r0 : Int → Option α) : Option α :=
  F0 k x fun v =>
  F0 k y fun v1 =>
  bif v then
    bif v1 then
      r0 0
    else
      r0 (-1)
  else
  bif v1 then
    r0 1
  else
  bif decide (x < y) then
    r0 (-1)
  else
  bif decide (y < x) then
    r0 1
  else
    r0 0
theorem cmp_Compare_int64_gen {α : Type} (F0 : T8 α)  (n : Nat) (x : Int) (y : Int) (κ : Res → Option α) : evFn Try.prog (cmp_Compare_int64_XG F0 n) Try.f36 (((buildDs cmp_Compare_int64_sh [.int x, .int y]).map Prod.fst).getD []) κ = cmp_Compare_int64_body F0 n x y (fun v1 => κ ⟨[.int .i64 v1], []⟩) := by kernel_rfl
theorem cmp_Compare_int64_eq {α : Type} (n : Nat) (x : Int) (y : Int) (r0 : Int → Option α) : cmp_Compare_int64_body cmp_isNaN_int64 n x y r0 = cmp_Compare_int64 n x y r0 := (cmp_Compare_int64_body.eq_1 cmp_isNaN_int64 n x y r0).trans (cmp_Compare_int64.eq_1 n x y r0).symm
theorem cmp_Compare_int64_rn {α : Type} (F : T10 α) (n : Nat) (x : Int) (y : Int) (κ : Res → Option α) : cmp_Compare_int64_runG F n [.int x, .int y] κ = F n x y (fun v1 => κ ⟨[.int .i64 v1], []⟩) := rfl
theorem cmp_Compare_int64_ev {α : Type} (n : Nat) (x : Int) (y : Int) (κ : Res → Option α) : evFn Try.prog (cmp_Compare_int64_X n) Try.f36 (((buildDs cmp_Compare_int64_sh [.int x, .int y]).map Prod.fst).getD []) κ = cmp_Compare_int64_run n [.int x, .int y] κ := (cmp_Compare_int64_gen cmp_isNaN_int64 n x y κ).trans ((cmp_Compare_int64_eq n x y (fun v1 => κ ⟨[.int .i64 v1], []⟩)).trans ((cmp_Compare_int64_run.eq_1 n [.int x, .int y] κ).trans (cmp_Compare_int64_rn cmp_Compare_int64 n x y κ)).symm)
theorem cmp_Compare_int64_en (x : Int) (y : Int) : (entry 0 (((buildDs cmp_Compare_int64_sh [.int x, .int y]).map Prod.fst).getD [])).map (fun x => (x.1.length, x.2.lent)) = some (2, []) := by kernel_rfl
theorem cmp_Compare_int64_good {α : Type} : ∀ n, GoodFn (α := α) Try.prog 36 (byShape cmp_Compare_int64_sh (cmp_Compare_int64_run n)) := by
  refine fn_good' Try.func36 (c := (Try.f36.body.getD .skip)) (by kernel_rfl) (by kernel_rfl) (by kernel_rfl) cmp_Compare_int64_C cmp_Compare_int64_M eqs cmp_Compare_int64_lps cmp_Compare_int64_jt (fun n => tabC_good (List.forall_mem_cons.2 ⟨(cmp_isNaN_int64_good n), (fun _ h => absurd h List.not_mem_nil)⟩)) eqs_ok cmp_Compare_int64_Lt ?_ ?_ cmp_Compare_int64_sh cmp_Compare_int64_run ?_
  · exact (fun _ h => absurd h List.not_mem_nil)
  · exact (fun _ h => absurd h List.not_mem_nil)
  · intro n p κ r ds hd hr
    have hr0 := hr
    unfold cmp_Compare_int64_run cmp_Compare_int64_runG at hr
    split at hr
    · rw [← ds_of hd]
      exact ⟨en_of (cmp_Compare_int64_en _ _) ⟨rfl, rfl⟩, (cmp_Compare_int64_ev n _ _ κ).trans hr0⟩
    · cases hr

/-! loop.example/g01297/impl.CompareRatios -/
def impl_CompareRatios_sh : List SkD := [.int .i64, .int .i64, .int .i64, .int .i64]
def impl_CompareRatios_runG {α : Type} (F : T27 α) (n : Nat) (p : List P1) (κ : Res → Option α) : Option α := match p with
  | [.int p_, .int q_, .int r_, .int s] => F n p_ q_ r_ s (fun v1 v2 => κ ⟨[.int .i64 v1, .int .i64 v2], []⟩)
  | _ => none
def impl_CompareRatios_run {α : Type} (n : Nat) (p : List P1) (κ : Res → Option α) : Option α := impl_CompareRatios_runG impl_CompareRatios n p κ
def impl_CompareRatios_CG {α : Type} (F0 : T9 α) (F1 : T10 α) (n : Nat) : FuncId → List D → (Res → Option α) → Option α := tabC [(33, (byShape impl_ratioOk_sh (impl_ratioOk_runG F0 n))), (36, (byShape cmp_Compare_int64_sh (cmp_Compare_int64_runG F1 n)))]
def impl_CompareRatios_C {α : Type} (n : Nat) : FuncId → List D → (Res → Option α) → Option α := impl_CompareRatios_CG impl_ratioOk cmp_Compare_int64 n
def impl_CompareRatios_M : FuncId → List Nat := tabM []
def impl_CompareRatios_lpsG {α : Type}  : List (LoopT α) := []
def impl_CompareRatios_lps {α : Type} : List (LoopT α) := impl_CompareRatios_lpsG
def impl_CompareRatios_jt : Nat → Option Tpl := jtOf []
def impl_CompareRatios_XG {α : Type} (F0 : T9 α) (F1 : T10 α)  (n : Nat) : Ctx α := ⟨impl_CompareRatios_CG F0 F1 n, impl_CompareRatios_M, eqs, lpOf (impl_CompareRatios_lpsG) n, impl_CompareRatios_jt⟩
def impl_CompareRatios_X {α : Type} (n : Nat) : Ctx α := impl_CompareRatios_XG impl_ratioOk cmp_Compare_int64 n
def impl_CompareRatios_Lt (np : Nat) (lent : List (Bool × Nat × Blk)) : Prop := np = 4 ∧ lent = []
def impl_CompareRatios_body {α : Type} (F0 : T9 α) (F1 : T10 α)  (k : Nat) (p_ : Int) (q_ : Int) (r_ : Int) (s : Int) (r0 : Int → Int → Option α) : Option α :=
  F0 k p_ q_ fun v =>
  bif (!v) then
    r0 0 2
  else
    F0 k r_ s fun v1 =>
    bif (!v1) then
      r0 0 2
    else
      F1 k (w64 (p_ * s)) (w64 (r_ * q_)) fun v2 =>
      r0 v2 0
theorem impl_CompareRatios_gen {α : Type} (F0 : T9 α) (F1 : T10 α)  (n : Nat) (p_ : Int) (q_ : Int) (r_ : Int) (s : Int) (κ : Res → Option α) : evFn Try.prog (impl_CompareRatios_XG F0 F1 n) Try.f19 (((buildDs impl_CompareRatios_sh [.int p_, .int q_, .int r_, .int s]).map Prod.fst).getD []) κ = impl_CompareRatios_body F0 F1 n p_ q_ r_ s (fun v1 v2 => κ ⟨[.int .i64 v1, .int .i64 v2], []⟩) := by kernel_rfl
theorem impl_CompareRatios_eq {α : Type} (n : Nat) (p_ : Int) (q_ : Int) (r_ : Int) (s : Int) (r0 : Int → Int → Option α) : impl_CompareRatios_body impl_ratioOk cmp_Compare_int64 n p_ q_ r_ s r0 = impl_CompareRatios n p_ q_ r_ s r0 := (impl_CompareRatios_body.eq_1 impl_ratioOk cmp_Compare_int64 n p_ q_ r_ s r0).trans (impl_CompareRatios.eq_1 n p_ q_ r_ s r0).symm
theorem impl_CompareRatios_rn {α : Type} (F : T27 α) (n : Nat) (p_ : Int) (q_ : Int) (r_ : Int) (s : Int) (κ : Res → Option α) : impl_CompareRatios_runG F n [.int p_, .int q_, .int r_, .int s] κ = F n p_ q_ r_ s (fun v1 v2 => κ ⟨[.int .i64 v1, .int .i64 v2], []⟩) := rfl
theorem impl_CompareRatios_ev {α : Type} (n : Nat) (p_ : Int) (q_ : Int) (r_ : Int) (s : Int) (κ : Res → Option α) : evFn Try.prog (impl_CompareRatios_X n) Try.f19 (((buildDs impl_CompareRatios_sh [.int p_, .int q_, .int r_, .int s]).map Prod.fst).getD []) κ = impl_CompareRatios_run n [.int p_, .int q_, .int r_, .int s] κ := (impl_CompareRatios_gen impl_ratioOk cmp_Compare_int64 n p_ q_ r_ s κ).trans ((impl_CompareRatios_eq n p_ q_ r_ s (fun v1 v2 => κ ⟨[.int .i64 v1, .int .i64 v2], []⟩)).trans ((impl_CompareRatios_run.eq_1 n [.int p_, .int q_, .int r_, .int s] κ).trans (impl_CompareRatios_rn impl_CompareRatios n p_ q_ r_ s κ)).symm)
theorem impl_CompareRatios_en (p_ : Int) (q_ : Int) (r_ : Int) (s : Int) : (entry 0 (((buildDs impl_CompareRatios_sh [.int p_, .int q_, .int r_, .int s]).map Prod.fst).getD [])).map (fun x => (x.1.length, x.2.lent)) = some (4, []) := by kernel_rfl
theorem impl_CompareRatios_good {α : Type} : ∀ n, GoodFn (α := α) Try.prog 19 (byShape impl_CompareRatios_sh (impl_CompareRatios_run n)) := by
  refine fn_good' Try.func19 (c := (Try.f19.body.getD .skip)) (by kernel_rfl) (by kernel_rfl) (by kernel_rfl) impl_CompareRatios_C impl_CompareRatios_M eqs impl_CompareRatios_lps impl_CompareRatios_jt (fun n => tabC_good (List.forall_mem_cons.2 ⟨(impl_ratioOk_good n), (List.forall_mem_cons.2 ⟨(cmp_Compare_int64_good n), (fun _ h => absurd h List.not_mem_nil)⟩)⟩)) eqs_ok impl_CompareRatios_Lt ?_ ?_ impl_CompareRatios_sh impl_CompareRatios_run ?_
  · exact (fun _ h => absurd h List.not_mem_nil)
  · exact (fun _ h => absurd h List.not_mem_nil)
  · intro n p κ r ds hd hr
    have hr0 := hr
    unfold impl_CompareRatios_run impl_CompareRatios_runG at hr
    split at hr
    · rw [← ds_of hd]
      exact ⟨en_of (impl_CompareRatios_en _ _ _ _) ⟨rfl, rfl⟩, (impl_CompareRatios_ev n _ _ _ _ κ).trans hr0⟩
    · cases hr

/-! loop.example/g01297/spec.CompareRatios -/
def spec_CompareRatios_sh : List SkD := [.int .i64, .int .i64, .int .i64, .int .i64]
def spec_CompareRatios_runG {α : Type} (F : T27 α) (n : Nat) (p : List P1) (κ : Res → Option α) : Option α := match p with
  | [.int p_, .int q_, .int r_, .int s] => F n p_ q_ r_ s (fun v1 v2 => κ ⟨[.int .i64 v1, .int .i64 v2], []⟩)
  | _ => none
def spec_CompareRatios_run {α : Type} (n : Nat) (p : List P1) (κ : Res → Option α) : Option α := spec_CompareRatios_runG spec_CompareRatios n p κ
def spec_CompareRatios_CG {α : Type} (F0 : T7 α) (n : Nat) : FuncId → List D → (Res → Option α) → Option α := tabC [(25, (byShape spec_l10Ratio_sh (spec_l10Ratio_runG F0 n)))]
def spec_CompareRatios_C {α : Type} (n : Nat) : FuncId → List D → (Res → Option α) → Option α := spec_CompareRatios_CG spec_l10Ratio n
def spec_CompareRatios_M : FuncId → List Nat := tabM []
def spec_CompareRatios_lpsG {α : Type}  : List (LoopT α) := []
def spec_CompareRatios_lps {α : Type} : List (LoopT α) := spec_CompareRatios_lpsG
def spec_CompareRatios_jt : Nat → Option Tpl := jtOf []
def spec_CompareRatios_XG {α : Type} (F0 : T7 α)  (n : Nat) : Ctx α := ⟨spec_CompareRatios_CG F0 n, spec_CompareRatios_M, eqs, lpOf (spec_CompareRatios_lpsG) n, spec_CompareRatios_jt⟩
def spec_CompareRatios_X {α : Type} (n : Nat) : Ctx α := spec_CompareRatios_XG spec_l10Ratio n
def spec_CompareRatios_Lt (np : Nat) (lent : List (Bool × Nat × Blk)) : Prop := np = 4 ∧ lent = []
def spec_CompareRatios_body {α : Type} (F0 : T7 α)  (k : Nat) (p_ : Int) (q_ : Int) (r_ : Int) (s : Int) (r0 : Int → Int → Option α) : Option α :=
  F0 k p_ q_ 1 fun v =>
  bif (!v) then
    r0 0 2
  else
    F0 k r_ s 1 fun v1 =>
    bif (!v1) then
      r0 0 2
    else
    bif decide ((w64 (p_ * s)) < (w64 (r_ * q_))) then
      r0 (-1) 0
    else
    bif decide ((w64 (r_ * q_)) < (w64 (p_ * s))) then
      r0 1 0
    else
      r0 0 0
theorem spec_CompareRatios_gen {α : Type} (F0 : T7 α)  (n : Nat) (p_ : Int) (q_ : Int) (r_ : Int) (s : Int) (κ : Res → Option α) : evFn Try.prog (spec_CompareRatios_XG F0 n) Try.f20 (((buildDs spec_CompareRatios_sh [.int p_, .int q_, .int r_, .int s]).map Prod.fst).getD []) κ = spec_CompareRatios_body F0 n p_ q_ r_ s (fun v1 v2 => κ ⟨[.int .i64 v1, .int .i64 v2], []⟩) := by kernel_rfl
theorem spec_CompareRatios_eq {α : Type} (n : Nat) (p_ : Int) (q_ : Int) (r_ : Int) (s : Int) (r0 : Int → Int → Option α) : spec_CompareRatios_body spec_l10Ratio n p_ q_ r_ s r0 = spec_CompareRatios n p_ q_ r_ s r0 := (spec_CompareRatios_body.eq_1 spec_l10Ratio n p_ q_ r_ s r0).trans (spec_CompareRatios.eq_1 n p_ q_ r_ s r0).symm
theorem spec_CompareRatios_rn {α : Type} (F : T27 α) (n : Nat) (p_ : Int) (q_ : Int) (r_ : Int) (s : Int) (κ : Res → Option α) : spec_CompareRatios_runG F n [.int p_, .int q_, .int r_, .int s] κ = F n p_ q_ r_ s (fun v1 v2 => κ ⟨[.int .i64 v1, .int .i64 v2], []⟩) := rfl
theorem spec_CompareRatios_ev {α : Type} (n : Nat) (p_ : Int) (q_ : Int) (r_ : Int) (s : Int) (κ : Res → Option α) : evFn Try.prog (spec_CompareRatios_X n) Try.f20 (((buildDs spec_CompareRatios_sh [.int p_, .int q_, .int r_, .int s]).map Prod.fst).getD []) κ = spec_CompareRatios_run n [.int p_, .int q_, .int r_, .int s] κ := (spec_CompareRatios_gen spec_l10Ratio n p_ q_ r_ s κ).trans ((spec_CompareRatios_eq n p_ q_ r_ s (fun v1 v2 => κ ⟨[.int .i64 v1, .int .i64 v2], []⟩)).trans ((spec_CompareRatios_run.eq_1 n [.int p_, .int q_, .int r_, .int s] κ).trans (spec_CompareRatios_rn spec_CompareRatios n p_ q_ r_ s κ)).symm)
theorem spec_CompareRatios_en (p_ : Int) (q_ : Int) (r_ : Int) (s : Int) : (entry 0 (((buildDs spec_CompareRatios_sh [.int p_, .int q_, .int r_, .int s]).map Prod.fst).getD [])).map (fun x => (x.1.length, x.2.lent)) = some (4, []) := by kernel_rfl
theorem spec_CompareRatios_good {α : Type} : ∀ n, GoodFn (α := α) Try.prog 20 (byShape spec_CompareRatios_sh (spec_CompareRatios_run n)) := by
  refine fn_good' Try.func20 (c := (Try.f20.body.getD .skip)) (by kernel_rfl) (by kernel_rfl) (by kernel_rfl) spec_CompareRatios_C spec_CompareRatios_M eqs spec_CompareRatios_lps spec_CompareRatios_jt (fun n => tabC_good (List.forall_mem_cons.2 ⟨(spec_l10Ratio_good n), (fun _ h => absurd h List.not_mem_nil)⟩)) eqs_ok spec_CompareRatios_Lt ?_ ?_ spec_CompareRatios_sh spec_CompareRatios_run ?_
  · exact (fun _ h => absurd h List.not_mem_nil)
  · exact (fun _ h => absurd h List.not_mem_nil)
  · intro n p κ r ds hd hr
    have hr0 := hr
    unfold spec_CompareRatios_run spec_CompareRatios_runG at hr
    split at hr
    · rw [← ds_of hd]
      exact ⟨en_of (spec_CompareRatios_en _ _ _ _) ⟨rfl, rfl⟩, (spec_CompareRatios_ev n _ _ _ _ κ).trans hr0⟩
    · cases hr

/-! loop.example/g01297/laws.points9 -/
def laws_points9_0N_sh : List SkD := [.nilsl, .sl 31 .pt]
def laws_points9_0N_runG {α : Type} (F : T28 α) (n : Nat) (p : List P1) (κ : Res → Option α) : Option α := match p with
  | [.rows .pt b_] => F n b_ (fun v1 => κ ⟨[.bool v1], []⟩)
  | _ => none
def laws_points9_0N_run {α : Type} (n : Nat) (p : List P1) (κ : Res → Option α) : Option α := laws_points9_0N_runG laws_points9_0N n p κ
def laws_points9_0N_CG {α : Type}  (n : Nat) : FuncId → List D → (Res → Option α) → Option α := tabC []
def laws_points9_0N_C {α : Type} (n : Nat) : FuncId → List D → (Res → Option α) → Option α := laws_points9_0N_CG n
def laws_points9_0N_M : FuncId → List Nat := tabM []
def laws_points9_0N_lpsG {α : Type}  : List (LoopT α) := []
def laws_points9_0N_lps {α : Type} : List (LoopT α) := laws_points9_0N_lpsG
def laws_points9_0N_jt : Nat → Option Tpl := jtOf []
def laws_points9_0N_XG {α : Type}   (n : Nat) : Ctx α := ⟨laws_points9_0N_CG n, laws_points9_0N_M, eqs, lpOf (laws_points9_0N_lpsG) n, laws_points9_0N_jt⟩
def laws_points9_0N_X {α : Type} (n : Nat) : Ctx α := laws_points9_0N_XG n
def laws_points9_0N_Lt (np : Nat) (lent : List (Bool × Nat × Blk)) : Prop := np = 2 ∧ lent = []
def laws_points9_0N_body {α : Type}   (k : Nat) (b_ : List (Int × Int)) (r0 : Bool → Option α) : Option α :=
  bif (!decide (0 = (((List.length b_) : Nat) : Int))) then
    r0 false
  else
    r0 true
theorem laws_points9_0N_gen {α : Type}   (n : Nat) (b_ : List (Int × Int)) (κ : Res → Option α) : evFn Try.prog (laws_points9_0N_XG n) Try.f8 (((buildDs laws_points9_0N_sh [.rows .pt b_]).map Prod.fst).getD []) κ = laws_points9_0N_body n b_ (fun v1 => κ ⟨[.bool v1], []⟩) := by kernel_rfl
theorem laws_points9_0N_eq {α : Type} (n : Nat) (b_ : List (Int × Int)) (r0 : Bool → Option α) : laws_points9_0N_body n b_ r0 = laws_points9_0N n b_ r0 := (laws_points9_0N_body.eq_1 n b_ r0).trans (laws_points9_0N.eq_1 n b_ r0).symm
theorem laws_points9_0N_rn {α : Type} (F : T28 α) (n : Nat) (b_ : List (Int × Int)) (κ : Res → Option α) : laws_points9_0N_runG F n [.rows .pt b_] κ = F n b_ (fun v1 => κ ⟨[.bool v1], []⟩) := rfl
theorem laws_points9_0N_ev {α : Type} (n : Nat) (b_ : List (Int × Int)) (κ : Res → Option α) : evFn Try.prog (laws_points9_0N_X n) Try.f8 (((buildDs laws_points9_0N_sh [.rows .pt b_]).map Prod.fst).getD []) κ = laws_points9_0N_run n [.rows .pt b_] κ := (laws_points9_0N_gen n b_ κ).trans ((laws_points9_0N_eq n b_ (fun v1 => κ ⟨[.bool v1], []⟩)).trans ((laws_points9_0N_run.eq_1 n [.rows .pt b_] κ).trans (laws_points9_0N_rn laws_points9_0N n b_ κ)).symm)
theorem laws_points9_0N_en (b_ : List (Int × Int)) : (entry 0 (((buildDs laws_points9_0N_sh [.rows .pt b_]).map Prod.fst).getD [])).map (fun x => (x.1.length, x.2.lent)) = some (2, []) := by kernel_rfl
theorem laws_points9_0N_good {α : Type} : ∀ n, GoodFn (α := α) Try.prog 8 (byShape laws_points9_0N_sh (laws_points9_0N_run n)) := by
  refine fn_good' Try.func8 (c := (Try.f8.body.getD .skip)) (by kernel_rfl) (by kernel_rfl) (by kernel_rfl) laws_points9_0N_C laws_points9_0N_M eqs laws_points9_0N_lps laws_points9_0N_jt (fun n => tabC_good (fun _ h => absurd h List.not_mem_nil)) eqs_ok laws_points9_0N_Lt ?_ ?_ laws_points9_0N_sh laws_points9_0N_run ?_
  · exact (fun _ h => absurd h List.not_mem_nil)
  · exact (fun _ h => absurd h List.not_mem_nil)
  · intro n p κ r ds hd hr
    have hr0 := hr
    unfold laws_points9_0N_run laws_points9_0N_runG at hr
    split at hr
    · rw [← ds_of hd]
      exact ⟨en_of (laws_points9_0N_en _) ⟨rfl, rfl⟩, (laws_points9_0N_ev n _ κ).trans hr0⟩
    · cases hr

/-! loop.example/g01297/laws.points9 -/
def laws_points9_1N_sh : List SkD := [.sl 31 .pt, .nilsl]
def laws_points9_1N_runG {α : Type} (F : T28 α) (n : Nat) (p : List P1) (κ : Res → Option α) : Option α := match p with
  | [.rows .pt a] => F n a (fun v1 => κ ⟨[.bool v1], []⟩)
  | _ => none
def laws_points9_1N_run {α : Type} (n : Nat) (p : List P1) (κ : Res → Option α) : Option α := laws_points9_1N_runG laws_points9_1N n p κ
def laws_points9_1N_CG {α : Type}  (n : Nat) : FuncId → List D → (Res → Option α) → Option α := tabC []
def laws_points9_1N_C {α : Type} (n : Nat) : FuncId → List D → (Res → Option α) → Option α := laws_points9_1N_CG n
def laws_points9_1N_M : FuncId → List Nat := tabM []
def laws_points9_1N_t4 : Tpl := ⟨[.sl 0, .nilsl, .any, .any, .any, .int .i64, .any, .any, .any, .any, .any, .any, .any, .any, .any, .any, .any, .any, .any, .any, .any, .any, .any, .any, .any, .any], [(0, .rows 0 31 .pt)], []⟩
def laws_points9_1N_uG4 {α : Type} (G : Nat → Int → (List (Int × Int)) → (Int → (List (Int × Int)) → Option α) → (Bool → Option α) → Option α) (n : Nat) (p : List P1) (brk : Nat → List P1 → Option α) (ret : Res → Option α) : Option α := match p with
  | [.int i, .rows .pt a1] => G n i a1 (fun i a1 => brk 0 [.int i, .rows .pt a1]) (fun v1 => ret ⟨[.bool v1], []⟩)
  | _ => none
def laws_points9_1N_u4 {α : Type} (n : Nat) (p : List P1) (brk : Nat → List P1 → Option α) (ret : Res → Option α) : Option α := laws_points9_1N_uG4 laws_points9_1N_l4 n p brk ret
def laws_points9_1N_lpsG {α : Type} (G4 : Nat → Int → (List (Int × Int)) → (Int → (List (Int × Int)) → Option α) → (Bool → Option α) → Option α) : List (LoopT α) := [⟨4, laws_points9_1N_t4, laws_points9_1N_uG4 G4⟩]
def laws_points9_1N_lps {α : Type} : List (LoopT α) := laws_points9_1N_lpsG laws_points9_1N_l4
def laws_points9_1N_jt : Nat → Option Tpl := jtOf []
def laws_points9_1N_XG {α : Type}  (G4 : Nat → Int → (List (Int × Int)) → (Int → (List (Int × Int)) → Option α) → (Bool → Option α) → Option α) (n : Nat) : Ctx α := ⟨laws_points9_1N_CG n, laws_points9_1N_M, eqs, lpOf (laws_points9_1N_lpsG G4) n, laws_points9_1N_jt⟩
def laws_points9_1N_X {α : Type} (n : Nat) : Ctx α := laws_points9_1N_XG laws_points9_1N_l4 n
def laws_points9_1N_Lt (np : Nat) (lent : List (Bool × Nat × Blk)) : Prop := np = 2 ∧ lent = []
def laws_points9_1N_lb4 {α : Type}  (G4 : Nat → Int → (List (Int × Int)) → (Int → (List (Int × Int)) → Option α) → (Bool → Option α) → Option α) (k : Nat) (i : Int) (a1 : List (Int × Int)) (b0 : Int → (List (Int × Int)) → Option α) (r0 : Bool → Option α) : Option α :=
  bif decide (i < (((List.length a1) : Nat) : Int)) then
    bif (decide (0 ≤ i) && decide (i < (((List.length a1) : Nat) : Int))) then
      (a1[i.toNat]?).bind fun _ =>
      none
    else
      none
  else
    b0 i a1
theorem laws_points9_1N_l4_gen {α : Type}  (G4 : Nat → Int → (List (Int × Int)) → (Int → (List (Int × Int)) → Option α) → (Bool → Option α) → Option α) (n : Nat) (i : Int) (a1 : List (Int × Int)) (brk : Nat → List P1 → Option α) (ret : Res → Option α) : ev ((laws_points9_1N_XG G4 n).env Try.prog Try.f8 2 []) (findLoop (loopsIn (Try.f8.body.getD .skip)) 4) ((laws_points9_1N_t4.build [.int i, .rows .pt a1]).getD ⟨[], []⟩) (roundK (2 * 64) laws_points9_1N_t4 (fun q => laws_points9_1N_uG4 G4 n q brk ret) brk ret) = laws_points9_1N_lb4 G4 n i a1 (fun i a1 => brk 0 [.int i, .rows .pt a1]) (fun v1 => ret ⟨[.bool v1], []⟩) := by kernel_rfl
theorem laws_points9_1N_l4_eq {α : Type} (k : Nat) (i : Int) (a1 : List (Int × Int)) (b0 : Int → (List (Int × Int)) → Option α) (r0 : Bool → Option α) : laws_points9_1N_lb4 laws_points9_1N_l4 k i a1 b0 r0 = laws_points9_1N_l4 (k + 1) i a1 b0 r0 := (laws_points9_1N_lb4.eq_1 laws_points9_1N_l4 k i a1 b0 r0).trans (show laws_points9_1N_l4 (k + 1) i a1 b0 r0 = _ from laws_points9_1N_l4.eq_2 _ _ _ _ _ ).symm
theorem laws_points9_1N_l4_rn {α : Type} (G : Nat → Int → (List (Int × Int)) → (Int → (List (Int × Int)) → Option α) → (Bool → Option α) → Option α) (n : Nat) (i : Int) (a1 : List (Int × Int)) (brk : Nat → List P1 → Option α) (ret : Res → Option α) : laws_points9_1N_uG4 G n [.int i, .rows .pt a1] brk ret = G n i a1 (fun i a1 => brk 0 [.int i, .rows .pt a1]) (fun v1 => ret ⟨[.bool v1], []⟩) := rfl
theorem laws_points9_1N_l4_ev {α : Type} (n : Nat) (i : Int) (a1 : List (Int × Int)) (brk : Nat → List P1 → Option α) (ret : Res → Option α) : ev ((laws_points9_1N_X n).env Try.prog Try.f8 2 []) (findLoop (loopsIn (Try.f8.body.getD .skip)) 4) ((laws_points9_1N_t4.build [.int i, .rows .pt a1]).getD ⟨[], []⟩) (roundK (2 * 64) laws_points9_1N_t4 (fun q => laws_points9_1N_u4 n q brk ret) brk ret) = laws_points9_1N_u4 (n + 1) [.int i, .rows .pt a1] brk ret := (laws_points9_1N_l4_gen laws_points9_1N_l4 n i a1 brk ret).trans ((laws_points9_1N_l4_eq n i a1 (fun i a1 => brk 0 [.int i, .rows .pt a1]) (fun v1 => ret ⟨[.bool v1], []⟩)).trans ((laws_points9_1N_u4.eq_1 (n + 1) [.int i, .rows .pt a1] brk ret).trans (laws_points9_1N_l4_rn laws_points9_1N_l4 (n + 1) i a1 brk ret)).symm)
def laws_points9_1N_body {α : Type}  (G4 : Nat → Int → (List (Int × Int)) → (Int → (List (Int × Int)) → Option α) → (Bool → Option α) → Option α) (k : Nat) (a : List (Int × Int)) (r0 : Bool → Option α) : Option α :=
  bif (!decide ((((List.length a) : Nat) : Int) = 0)) then
    r0 false
  else
    G4 k 0 a
      (fun _ _ =>
        r0 true)
      r0
theorem laws_points9_1N_gen {α : Type}  (G4 : Nat → Int → (List (Int × Int)) → (Int → (List (Int × Int)) → Option α) → (Bool → Option α) → Option α) (n : Nat) (a : List (Int × Int)) (κ : Res → Option α) : evFn Try.prog (laws_points9_1N_XG G4 n) Try.f8 (((buildDs laws_points9_1N_sh [.rows .pt a]).map Prod.fst).getD []) κ = laws_points9_1N_body G4 n a (fun v1 => κ ⟨[.bool v1], []⟩) := by kernel_rfl
theorem laws_points9_1N_eq {α : Type} (n : Nat) (a : List (Int × Int)) (r0 : Bool → Option α) : laws_points9_1N_body laws_points9_1N_l4 n a r0 = laws_points9_1N n a r0 := (laws_points9_1N_body.eq_1 laws_points9_1N_l4 n a r0).trans (laws_points9_1N.eq_1 n a r0).symm
theorem laws_points9_1N_rn {α : Type} (F : T28 α) (n : Nat) (a : List (Int × Int)) (κ : Res → Option α) : laws_points9_1N_runG F n [.rows .pt a] κ = F n a (fun v1 => κ ⟨[.bool v1], []⟩) := rfl
theorem laws_points9_1N_ev {α : Type} (n : Nat) (a : List (Int × Int)) (κ : Res → Option α) : evFn Try.prog (laws_points9_1N_X n) Try.f8 (((buildDs laws_points9_1N_sh [.rows .pt a]).map Prod.fst).getD []) κ = laws_points9_1N_run n [.rows .pt a] κ := (laws_points9_1N_gen laws_points9_1N_l4 n a κ).trans ((laws_points9_1N_eq n a (fun v1 => κ ⟨[.bool v1], []⟩)).trans ((laws_points9_1N_run.eq_1 n [.rows .pt a] κ).trans (laws_points9_1N_rn laws_points9_1N n a κ)).symm)
theorem laws_points9_1N_en (a : List (Int × Int)) : (entry 0 (((buildDs laws_points9_1N_sh [.rows .pt a]).map Prod.fst).getD [])).map (fun x => (x.1.length, x.2.lent)) = some (2, []) := by kernel_rfl
theorem laws_points9_1N_good {α : Type} : ∀ n, GoodFn (α := α) Try.prog 8 (byShape laws_points9_1N_sh (laws_points9_1N_run n)) := by
  refine fn_good' Try.func8 (c := (Try.f8.body.getD .skip)) (by kernel_rfl) (by kernel_rfl) (by kernel_rfl) laws_points9_1N_C laws_points9_1N_M eqs laws_points9_1N_lps laws_points9_1N_jt (fun n => tabC_good (fun _ h => absurd h List.not_mem_nil)) eqs_ok laws_points9_1N_Lt ?_ ?_ laws_points9_1N_sh laws_points9_1N_run ?_
  · refine List.forall_mem_cons.2 ⟨?_, (fun _ h => absurd h List.not_mem_nil)⟩
    · intro p brk ret; show laws_points9_1N_u4 0 p brk ret = none; unfold laws_points9_1N_u4 laws_points9_1N_uG4; split <;> rfl
  · refine List.forall_mem_cons.2 ⟨?_, (fun _ h => absurd h List.not_mem_nil)⟩
    · intro np lent hL n p brk ret st r hb hr
      obtain ⟨rfl, rfl⟩ := hL
      rw [← tpl_of hb]
      change laws_points9_1N_u4 (n + 1) p brk ret = some r at hr
      have hr0 := hr
      unfold laws_points9_1N_u4 laws_points9_1N_uG4 at hr
      split at hr
      · exact (laws_points9_1N_l4_ev n _ _ brk ret).trans hr0
      · cases hr
  · intro n p κ r ds hd hr
    have hr0 := hr
    unfold laws_points9_1N_run laws_points9_1N_runG at hr
    split at hr
    · rw [← ds_of hd]
      exact ⟨en_of (laws_points9_1N_en _) ⟨rfl, rfl⟩, (laws_points9_1N_ev n _ κ).trans hr0⟩
    · cases hr

/-! loop.example/g01297/laws.points9 -/
def laws_points9_sh : List SkD := [.sl 31 .pt, .sl 31 .pt]
def laws_points9_runG {α : Type} (F : T29 α) (n : Nat) (p : List P1) (κ : Res → Option α) : Option α := match p with
  | [.rows .pt a, .rows .pt b_] => F n a b_ (fun v1 => κ ⟨[.bool v1], []⟩)
  | _ => none
def laws_points9_run {α : Type} (n : Nat) (p : List P1) (κ : Res → Option α) : Option α := laws_points9_runG laws_points9 n p κ
def laws_points9_CG {α : Type}  (n : Nat) : FuncId → List D → (Res → Option α) → Option α := tabC []
def laws_points9_C {α : Type} (n : Nat) : FuncId → List D → (Res → Option α) → Option α := laws_points9_CG n
def laws_points9_M : FuncId → List Nat := tabM []
def laws_points9_t4 : Tpl := ⟨[.sl 0, .sl 64, .any, .any, .any, .int .i64, .any, .any, .any, .any, .any, .any, .any, .any, .any, .any, .any, .any, .any, .any, .any, .any, .any, .any, .any, .any], [(0, .rows 0 31 .pt), (64, .rows 0 31 .pt)], []⟩
def laws_points9_uG4 {α : Type} (G : Nat → Int → (List (Int × Int)) → (List (Int × Int)) → (Int → (List (Int × Int)) → (List (Int × Int)) → Option α) → (Bool → Option α) → Option α) (n : Nat) (p : List P1) (brk : Nat → List P1 → Option α) (ret : Res → Option α) : Option α := match p with
  | [.int i, .rows .pt a1, .rows .pt b_1] => G n i a1 b_1 (fun i a1 b_1 => brk 0 [.int i, .rows .pt a1, .rows .pt b_1]) (fun v1 => ret ⟨[.bool v1], []⟩)
  | _ => none
def laws_points9_u4 {α : Type} (n : Nat) (p : List P1) (brk : Nat → List P1 → Option α) (ret : Res → Option α) : Option α := laws_points9_uG4 laws_points9_l4 n p brk ret
def laws_points9_lpsG {α : Type} (G4 : Nat → Int → (List (Int × Int)) → (List (Int × Int)) → (Int → (List (Int × Int)) → (List (Int × Int)) → Option α) → (Bool → Option α) → Option α) : List (LoopT α) := [⟨4, laws_points9_t4, laws_points9_uG4 G4⟩]
def laws_points9_lps {α : Type} : List (LoopT α) := laws_points9_lpsG laws_points9_l4
def laws_points9_jt : Nat → Option Tpl := jtOf []
def laws_points9_XG {α : Type}  (G4 : Nat → Int → (List (Int × Int)) → (List (Int × Int)) → (Int → (List (Int × Int)) → (List (Int × Int)) → Option α) → (Bool → Option α) → Option α) (n : Nat) : Ctx α := ⟨laws_points9_CG n, laws_points9_M, eqs, lpOf (laws_points9_lpsG G4) n, laws_points9_jt⟩
def laws_points9_X {α : Type} (n : Nat) : Ctx α := laws_points9_XG laws_points9_l4 n
def laws_points9_Lt (np : Nat) (lent : List (Bool × Nat × Blk)) : Prop := np = 2 ∧ lent = []
def laws_points9_lb4 {α : Type}  (G4 : Nat → Int → (List (Int × Int)) → (List (Int × Int)) → (Int → (List (Int × Int)) → (List (Int × Int)) → Option α) → (Bool → Option α) → Option α) (k : Nat) (i : Int) (a1 : List (Int × Int)) (b_1 : List (Int × Int)) (b0 : Int → (List (Int × Int)) → (List (Int × Int)) → Option α) (r0 : Bool → Option α) : Option α :=
  bif decide (i < (((List.length a1) : Nat) : Int)) then
    bif (decide (0 ≤ i) && decide (i < (((List.length a1) : Nat) : Int))) then
      (a1[i.toNat]?).bind fun e_ =>
      bif (decide (0 ≤ i) && decide (i < (((List.length b_1) : Nat) : Int))) then
        (b_1[i.toNat]?).bind fun e_1 =>
        bif (!(decide (e_.1 = e_1.1) && decide (e_.2 = e_1.2))) then
          r0 false
        else
          G4 k (w64 (i + 1)) a1 b_1 b0 r0
      else
        none
    else
      none
  else
    b0 i a1 b_1
theorem laws_points9_l4_gen {α : Type}  (G4 : Nat → Int → (List (Int × Int)) → (List (Int × Int)) → (Int → (List (Int × Int)) → (List (Int × Int)) → Option α) → (Bool → Option α) → Option α) (n : Nat) (i : Int) (a1 : List (Int × Int)) (b_1 : List (Int × Int)) (brk : Nat → List P1 → Option α) (ret : Res → Option α) : ev ((laws_points9_XG G4 n).env Try.prog Try.f8 2 []) (findLoop (loopsIn (Try.f8.body.getD .skip)) 4) ((laws_points9_t4.build [.int i, .rows .pt a1, .rows .pt b_1]).getD ⟨[], []⟩) (roundK (2 * 64) laws_points9_t4 (fun q => laws_points9_uG4 G4 n q brk ret) brk ret) = laws_points9_lb4 G4 n i a1 b_1 (fun i a1 b_1 => brk 0 [.int i, .rows .pt a1, .rows .pt b_1]) (fun v1 => ret ⟨[.bool v1], []⟩) := by kernel_rfl
theorem laws_points9_l4_eq {α : Type} (k : Nat) (i : Int) (a1 : List (Int × Int)) (b_1 : List (Int × Int)) (b0 : Int → (List (Int × Int)) → (List (Int × Int)) → Option α) (r0 : Bool → Option α) : laws_points9_lb4 laws_points9_l4 k i a1 b_1 b0 r0 = laws_points9_l4 (k + 1) i a1 b_1 b0 r0 := (laws_points9_lb4.eq_1 laws_points9_l4 k i a1 b_1 b0 r0).trans (show laws_points9_l4 (k + 1) i a1 b_1 b0 r0 = _ from laws_points9_l4.eq_2 _ _ _ _ _ _ ).symm
theorem laws_points9_l4_rn {α : Type} (G : Nat → Int → (List (Int × Int)) → (List (Int × Int)) → (Int → (List (Int × Int)) → (List (Int × Int)) → Option α) → (Bool → Option α) → Option α) (n : Nat) (i : Int) (a1 : List (Int × Int)) (b_1 : List (Int × Int)) (brk : Nat → List P1 → Option α) (ret : Res → Option α) : laws_points9_uG4 G n [.int i, .rows .pt a1, .rows .pt b_1] brk ret = G n i a1 b_1 (fun i a1 b_1 => brk 0 [.int i, .rows .pt a1, .rows .pt b_1]) (fun v1 => ret ⟨[.bool v1], []⟩) := rfl
theorem laws_points9_l4_ev {α : Type} (n : Nat) (i : Int) (a1 : List (Int × Int)) (b_1 : List (Int × Int)) (brk : Nat → List P1 → Option α) (ret : Res → Option α) : ev ((laws_points9_X n).env Try.prog Try.f8 2 []) (findLoop (loopsIn (Try.f8.body.getD .skip)) 4) ((laws_points9_t4.build [.int i, .rows .pt a1, .rows .pt b_1]).getD ⟨[], []⟩) (roundK (2 * 64) laws_points9_t4 (fun q => laws_points9_u4 n q brk ret) brk ret) = laws_points9_u4 (n + 1) [.int i, .rows .pt a1, .rows .pt b_1] brk ret := (laws_points9_l4_gen laws_points9_l4 n i a1 b_1 brk ret).trans ((laws_points9_l4_eq n i a1 b_1 (fun i a1 b_1 => brk 0 [.int i, .rows .pt a1, .rows .pt b_1]) (fun v1 => ret ⟨[.bool v1], []⟩)).trans ((laws_points9_u4.eq_1 (n + 1) [.int i, .rows .pt a1, .rows .pt b_1] brk ret).trans (laws_points9_l4_rn laws_points9_l4 (n + 1) i a1 b_1 brk ret)).symm)
def laws_points9_body {α : Type}  (G4 : Nat → Int → (List (Int × Int)) → (List (Int × Int)) → (Int → (List (Int × Int)) → (List (Int × Int)) → Option α) → (Bool → Option α) → Option α) (k : Nat) (a : List (Int × Int)) (b_ : List (Int × Int)) (r0 : Bool → Option α) : Option α :=
  bif (!decide ((((List.length a) : Nat) : Int) = (((List.length b_) : Nat) : Int))) then
    r0 false
  else
    G4 k 0 a b_
      (fun _ _ _ =>
        r0 true)
      r0
theorem laws_points9_gen {α : Type}  (G4 : Nat → Int → (List (Int × Int)) → (List (Int × Int)) → (Int → (List (Int × Int)) → (List (Int × Int)) → Option α) → (Bool → Option α) → Option α) (n : Nat) (a : List (Int × Int)) (b_ : List (Int × Int)) (κ : Res → Option α) : evFn Try.prog (laws_points9_XG G4 n) Try.f8 (((buildDs laws_points9_sh [.rows .pt a, .rows .pt b_]).map Prod.fst).getD []) κ = laws_points9_body G4 n a b_ (fun v1 => κ ⟨[.bool v1], []⟩) := by kernel_rfl
theorem laws_points9_eq {α : Type} (n : Nat) (a : List (Int × Int)) (b_ : List (Int × Int)) (r0 : Bool → Option α) : laws_points9_body laws_points9_l4 n a b_ r0 = laws_points9 n a b_ r0 := (laws_points9_body.eq_1 laws_points9_l4 n a b_ r0).trans (laws_points9.eq_1 n a b_ r0).symm
theorem laws_points9_rn {α : Type} (F : T29 α) (n : Nat) (a : List (Int × Int)) (b_ : List (Int × Int)) (κ : Res → Option α) : laws_points9_runG F n [.rows .pt a, .rows .pt b_] κ = F n a b_ (fun v1 => κ ⟨[.bool v1], []⟩) := rfl
theorem laws_points9_ev {α : Type} (n : Nat) (a : List (Int × Int)) (b_ : List (Int × Int)) (κ : Res → Option α) : evFn Try.prog (laws_points9_X n) Try.f8 (((buildDs laws_points9_sh [.rows .pt a, .rows .pt b_]).map Prod.fst).getD []) κ = laws_points9_run n [.rows .pt a, .rows .pt b_] κ := (laws_points9_gen laws_points9_l4 n a b_ κ).trans ((laws_points9_eq n a b_ (fun v1 => κ ⟨[.bool v1], []⟩)).trans ((laws_points9_run.eq_1 n [.rows .pt a, .rows .pt b_] κ).trans (laws_points9_rn laws_points9 n a b_ κ)).symm)
theorem laws_points9_en (a : List (Int × Int)) (b_ : List (Int × Int)) : (entry 0 (((buildDs laws_points9_sh [.rows .pt a, .rows .pt b_]).map Prod.fst).getD [])).map (fun x => (x.1.length, x.2.lent)) = some (2, []) := by kernel_rfl
theorem laws_points9_good {α : Type} : ∀ n, GoodFn (α := α) Try.prog 8 (byShape laws_points9_sh (laws_points9_run n)) := by
  refine fn_good' Try.func8 (c := (Try.f8.body.getD .skip)) (by kernel_rfl) (by kernel_rfl) (by kernel_rfl) laws_points9_C laws_points9_M eqs laws_points9_lps laws_points9_jt (fun n => tabC_good (fun _ h => absurd h List.not_mem_nil)) eqs_ok laws_points9_Lt ?_ ?_ laws_points9_sh laws_points9_run ?_
  · refine List.forall_mem_cons.2 ⟨?_, (fun _ h => absurd h List.not_mem_nil)⟩
    · intro p brk ret; show laws_points9_u4 0 p brk ret = none; unfold laws_points9_u4 laws_points9_uG4; split <;> rfl
  · refine List.forall_mem_cons.2 ⟨?_, (fun _ h => absurd h List.not_mem_nil)⟩
    · intro np lent hL n p brk ret st r hb hr
      obtain ⟨rfl, rfl⟩ := hL
      rw [← tpl_of hb]
      change laws_points9_u4 (n + 1) p brk ret = some r at hr
      have hr0 := hr
      unfold laws_points9_u4 laws_points9_uG4 at hr
      split at hr
      · exact (laws_points9_l4_ev n _ _ _ brk ret).trans hr0
      · cases hr
  · intro n p κ r ds hd hr
    have hr0 := hr
    unfold laws_points9_run laws_points9_runG at hr
    split at hr
    · rw [← ds_of hd]
      exact ⟨en_of (laws_points9_en _ _) ⟨rfl, rfl⟩, (laws_points9_ev n _ _ κ).trans hr0⟩
    · cases hr

end Go.Proofs.Ytjcmebkllhjpfaa
