/- The program's functions hold to their readings without memory: printed by a program of ours. -/
import Derived.Test.YtegnnbhphgeocaaSeXCommonRecords
namespace Go.Proofs.Ytegnnbhphgeocaa
open Go Go.Ev Go.Sh Go.Proofs

/-! loop.example/g01297/spec.l01In -/
def spec_l01In_sh : List SkD := [.int .i64, .int .i64, .int .i64]
def spec_l01In_runG {α : Type} (F : Nat → Int → Int → Int → (Bool → Option α) → Option α) (n : Nat) (p : List P1) (κ : Res → Option α) : Option α := match p with
  | [.int n_, .int low, .int high] => F n n_ low high (fun v1 => κ ⟨[.bool v1], []⟩)
  | _ => none
def spec_l01In_run {α : Type} (n : Nat) (p : List P1) (κ : Res → Option α) : Option α := spec_l01In_runG spec_l01In n p κ
def spec_l01In_CG {α : Type}  (n : Nat) : FuncId → List D → (Res → Option α) → Option α := tabC []
def spec_l01In_C {α : Type} (n : Nat) : FuncId → List D → (Res → Option α) → Option α := spec_l01In_CG n
def spec_l01In_M : FuncId → List Nat := tabM []
def spec_l01In_lpsG {α : Type}  : List (LoopT α) := []
def spec_l01In_lps {α : Type} : List (LoopT α) := spec_l01In_lpsG
def spec_l01In_XG {α : Type}   (n : Nat) : Ctx α := ⟨spec_l01In_CG n, spec_l01In_M, eqs, lpOf (spec_l01In_lpsG) n⟩
def spec_l01In_X {α : Type} (n : Nat) : Ctx α := spec_l01In_XG n
def spec_l01In_Lt (np : Nat) (lent : List (Bool × Nat × Blk)) : Prop := np = 3 ∧ lent = []
def spec_l01In_body {α : Type}   (k : Nat) (n_ : Int) (low : Int) (high : Int) (r0 : Bool → Option α) : Option α :=
  bif decide (low ≤ n_) then
    r0 (decide (n_ ≤ high))
  else
    r0 false
theorem spec_l01In_gen {α : Type}   (n : Nat) (n_ : Int) (low : Int) (high : Int) (κ : Res → Option α) : evFn Try.prog (spec_l01In_XG n) Try.f59 (((buildDs spec_l01In_sh [.int n_, .int low, .int high]).map Prod.fst).getD []) κ = spec_l01In_body n n_ low high (fun v1 => κ ⟨[.bool v1], []⟩) := by kernel_rfl
theorem spec_l01In_ev {α : Type} (n : Nat) (n_ : Int) (low : Int) (high : Int) (κ : Res → Option α) : evFn Try.prog (spec_l01In_X n) Try.f59 (((buildDs spec_l01In_sh [.int n_, .int low, .int high]).map Prod.fst).getD []) κ = spec_l01In_run n [.int n_, .int low, .int high] κ := (spec_l01In_gen n n_ low high κ).trans (by kernel_rfl)
theorem spec_l01In_en (n_ : Int) (low : Int) (high : Int) : (entry 0 (((buildDs spec_l01In_sh [.int n_, .int low, .int high]).map Prod.fst).getD [])).map (fun x => (x.1.length, x.2.lent)) = some (3, []) := by kernel_rfl
theorem spec_l01In_good {α : Type} : ∀ n, GoodFn (α := α) Try.prog 59 (byShape spec_l01In_sh (spec_l01In_run n)) := by
  refine fn_good' Try.func59 (c := (Try.f59.body.getD .skip)) (by kernel_rfl) (by kernel_rfl) (by kernel_rfl) spec_l01In_C spec_l01In_M eqs spec_l01In_lps (fun n => tabC_good (fun _ h => absurd h List.not_mem_nil)) eqs_ok spec_l01In_Lt ?_ ?_ spec_l01In_sh spec_l01In_run ?_
  · exact (fun _ h => absurd h List.not_mem_nil)
  · exact (fun _ h => absurd h List.not_mem_nil)
  · intro n p κ r ds hd hr
    have hr0 := hr
    unfold spec_l01In_run spec_l01In_runG at hr
    split at hr
    · rw [← ds_of hd]
      exact ⟨en_of (spec_l01In_en _ _ _) ⟨rfl, rfl⟩, (spec_l01In_ev n _ _ _ κ).trans hr0⟩
    · cases hr

/-! loop.example/g01297/spec.l01Fits -/
def spec_l01Fits_sh : List SkD := [.int .i64]
def spec_l01Fits_runG {α : Type} (F : Nat → Int → (Bool → Option α) → Option α) (n : Nat) (p : List P1) (κ : Res → Option α) : Option α := match p with
  | [.int x] => F n x (fun v1 => κ ⟨[.bool v1], []⟩)
  | _ => none
def spec_l01Fits_run {α : Type} (n : Nat) (p : List P1) (κ : Res → Option α) : Option α := spec_l01Fits_runG spec_l01Fits n p κ
def spec_l01Fits_CG {α : Type} (F0 : Nat → Int → Int → Int → (Bool → Option α) → Option α) (n : Nat) : FuncId → List D → (Res → Option α) → Option α := tabC [(59, (byShape spec_l01In_sh (spec_l01In_runG F0 n)))]
def spec_l01Fits_C {α : Type} (n : Nat) : FuncId → List D → (Res → Option α) → Option α := spec_l01Fits_CG spec_l01In n
def spec_l01Fits_M : FuncId → List Nat := tabM []
def spec_l01Fits_lpsG {α : Type}  : List (LoopT α) := []
def spec_l01Fits_lps {α : Type} : List (LoopT α) := spec_l01Fits_lpsG
def spec_l01Fits_XG {α : Type} (F0 : Nat → Int → Int → Int → (Bool → Option α) → Option α)  (n : Nat) : Ctx α := ⟨spec_l01Fits_CG F0 n, spec_l01Fits_M, eqs, lpOf (spec_l01Fits_lpsG) n⟩
def spec_l01Fits_X {α : Type} (n : Nat) : Ctx α := spec_l01Fits_XG spec_l01In n
def spec_l01Fits_Lt (np : Nat) (lent : List (Bool × Nat × Blk)) : Prop := np = 1 ∧ lent = []
def spec_l01Fits_body {α : Type} (F0 : Nat → Int → Int → Int → (Bool → Option α) → Option α)  (k : Nat) (x : Int) (r0 : Bool → Option α) : Option α :=
  F0 k x (-1000000) 1000000 fun v =>
  r0 v
theorem spec_l01Fits_gen {α : Type} (F0 : Nat → Int → Int → Int → (Bool → Option α) → Option α)  (n : Nat) (x : Int) (κ : Res → Option α) : evFn Try.prog (spec_l01Fits_XG F0 n) Try.f87 (((buildDs spec_l01Fits_sh [.int x]).map Prod.fst).getD []) κ = spec_l01Fits_body F0 n x (fun v1 => κ ⟨[.bool v1], []⟩) := by kernel_rfl
theorem spec_l01Fits_ev {α : Type} (n : Nat) (x : Int) (κ : Res → Option α) : evFn Try.prog (spec_l01Fits_X n) Try.f87 (((buildDs spec_l01Fits_sh [.int x]).map Prod.fst).getD []) κ = spec_l01Fits_run n [.int x] κ := (spec_l01Fits_gen spec_l01In n x κ).trans (by kernel_rfl)
theorem spec_l01Fits_en (x : Int) : (entry 0 (((buildDs spec_l01Fits_sh [.int x]).map Prod.fst).getD [])).map (fun x => (x.1.length, x.2.lent)) = some (1, []) := by kernel_rfl
theorem spec_l01Fits_good {α : Type} : ∀ n, GoodFn (α := α) Try.prog 87 (byShape spec_l01Fits_sh (spec_l01Fits_run n)) := by
  refine fn_good' Try.func87 (c := (Try.f87.body.getD .skip)) (by kernel_rfl) (by kernel_rfl) (by kernel_rfl) spec_l01Fits_C spec_l01Fits_M eqs spec_l01Fits_lps (fun n => tabC_good (List.forall_mem_cons.2 ⟨(spec_l01In_good n), (fun _ h => absurd h List.not_mem_nil)⟩)) eqs_ok spec_l01Fits_Lt ?_ ?_ spec_l01Fits_sh spec_l01Fits_run ?_
  · exact (fun _ h => absurd h List.not_mem_nil)
  · exact (fun _ h => absurd h List.not_mem_nil)
  · intro n p κ r ds hd hr
    have hr0 := hr
    unfold spec_l01Fits_run spec_l01Fits_runG at hr
    split at hr
    · rw [← ds_of hd]
      exact ⟨en_of (spec_l01Fits_en _) ⟨rfl, rfl⟩, (spec_l01Fits_ev n _ κ).trans hr0⟩
    · cases hr

/-! loop.example/g01297/spec.l10Ratio -/
def spec_l10Ratio_sh : List SkD := [.int .i64, .int .i64, .int .i64]
def spec_l10Ratio_runG {α : Type} (F : Nat → Int → Int → Int → (Bool → Option α) → Option α) (n : Nat) (p : List P1) (κ : Res → Option α) : Option α := match p with
  | [.int p_, .int q_, .int low] => F n p_ q_ low (fun v1 => κ ⟨[.bool v1], []⟩)
  | _ => none
def spec_l10Ratio_run {α : Type} (n : Nat) (p : List P1) (κ : Res → Option α) : Option α := spec_l10Ratio_runG spec_l10Ratio n p κ
def spec_l10Ratio_CG {α : Type} (F0 : Nat → Int → (Bool → Option α) → Option α) (F1 : Nat → Int → Int → Int → (Bool → Option α) → Option α) (n : Nat) : FuncId → List D → (Res → Option α) → Option α := tabC [(87, (byShape spec_l01Fits_sh (spec_l01Fits_runG F0 n))), (59, (byShape spec_l01In_sh (spec_l01In_runG F1 n)))]
def spec_l10Ratio_C {α : Type} (n : Nat) : FuncId → List D → (Res → Option α) → Option α := spec_l10Ratio_CG spec_l01Fits spec_l01In n
def spec_l10Ratio_M : FuncId → List Nat := tabM []
def spec_l10Ratio_lpsG {α : Type}  : List (LoopT α) := []
def spec_l10Ratio_lps {α : Type} : List (LoopT α) := spec_l10Ratio_lpsG
def spec_l10Ratio_XG {α : Type} (F0 : Nat → Int → (Bool → Option α) → Option α) (F1 : Nat → Int → Int → Int → (Bool → Option α) → Option α)  (n : Nat) : Ctx α := ⟨spec_l10Ratio_CG F0 F1 n, spec_l10Ratio_M, eqs, lpOf (spec_l10Ratio_lpsG) n⟩
def spec_l10Ratio_X {α : Type} (n : Nat) : Ctx α := spec_l10Ratio_XG spec_l01Fits spec_l01In n
def spec_l10Ratio_Lt (np : Nat) (lent : List (Bool × Nat × Blk)) : Prop := np = 3 ∧ lent = []
def spec_l10Ratio_body {α : Type} (F0 : Nat → Int → (Bool → Option α) → Option α) (F1 : Nat → Int → Int → Int → (Bool → Option α) → Option α)  (k : Nat) (p_ : Int) (q_ : Int) (low : Int) (r0 : Bool → Option α) : Option α :=
  F0 k p_ fun v =>
  bif v then
    F1 k q_ low 1000000 fun v1 =>
    r0 v1
  else
    r0 false
theorem spec_l10Ratio_gen {α : Type} (F0 : Nat → Int → (Bool → Option α) → Option α) (F1 : Nat → Int → Int → Int → (Bool → Option α) → Option α)  (n : Nat) (p_ : Int) (q_ : Int) (low : Int) (κ : Res → Option α) : evFn Try.prog (spec_l10Ratio_XG F0 F1 n) Try.f58 (((buildDs spec_l10Ratio_sh [.int p_, .int q_, .int low]).map Prod.fst).getD []) κ = spec_l10Ratio_body F0 F1 n p_ q_ low (fun v1 => κ ⟨[.bool v1], []⟩) := by kernel_rfl
theorem spec_l10Ratio_ev {α : Type} (n : Nat) (p_ : Int) (q_ : Int) (low : Int) (κ : Res → Option α) : evFn Try.prog (spec_l10Ratio_X n) Try.f58 (((buildDs spec_l10Ratio_sh [.int p_, .int q_, .int low]).map Prod.fst).getD []) κ = spec_l10Ratio_run n [.int p_, .int q_, .int low] κ := (spec_l10Ratio_gen spec_l01Fits spec_l01In n p_ q_ low κ).trans (by kernel_rfl)
theorem spec_l10Ratio_en (p_ : Int) (q_ : Int) (low : Int) : (entry 0 (((buildDs spec_l10Ratio_sh [.int p_, .int q_, .int low]).map Prod.fst).getD [])).map (fun x => (x.1.length, x.2.lent)) = some (3, []) := by kernel_rfl
theorem spec_l10Ratio_good {α : Type} : ∀ n, GoodFn (α := α) Try.prog 58 (byShape spec_l10Ratio_sh (spec_l10Ratio_run n)) := by
  refine fn_good' Try.func58 (c := (Try.f58.body.getD .skip)) (by kernel_rfl) (by kernel_rfl) (by kernel_rfl) spec_l10Ratio_C spec_l10Ratio_M eqs spec_l10Ratio_lps (fun n => tabC_good (List.forall_mem_cons.2 ⟨(spec_l01Fits_good n), (List.forall_mem_cons.2 ⟨(spec_l01In_good n), (fun _ h => absurd h List.not_mem_nil)⟩)⟩)) eqs_ok spec_l10Ratio_Lt ?_ ?_ spec_l10Ratio_sh spec_l10Ratio_run ?_
  · exact (fun _ h => absurd h List.not_mem_nil)
  · exact (fun _ h => absurd h List.not_mem_nil)
  · intro n p κ r ds hd hr
    have hr0 := hr
    unfold spec_l10Ratio_run spec_l10Ratio_runG at hr
    split at hr
    · rw [← ds_of hd]
      exact ⟨en_of (spec_l10Ratio_en _ _ _) ⟨rfl, rfl⟩, (spec_l10Ratio_ev n _ _ _ κ).trans hr0⟩
    · cases hr

/-! loop.example/g01297/spec.l01Floor -/
def spec_l01Floor_sh : List SkD := [.int .i64, .int .i64]
def spec_l01Floor_runG {α : Type} (F : Nat → Int → Int → (Int → Option α) → Option α) (n : Nat) (p : List P1) (κ : Res → Option α) : Option α := match p with
  | [.int p_, .int q_] => F n p_ q_ (fun v1 => κ ⟨[.int .i64 v1], []⟩)
  | _ => none
def spec_l01Floor_run {α : Type} (n : Nat) (p : List P1) (κ : Res → Option α) : Option α := spec_l01Floor_runG spec_l01Floor n p κ
def spec_l01Floor_CG {α : Type}  (n : Nat) : FuncId → List D → (Res → Option α) → Option α := tabC []
def spec_l01Floor_C {α : Type} (n : Nat) : FuncId → List D → (Res → Option α) → Option α := spec_l01Floor_CG n
def spec_l01Floor_M : FuncId → List Nat := tabM []
def spec_l01Floor_lpsG {α : Type}  : List (LoopT α) := []
def spec_l01Floor_lps {α : Type} : List (LoopT α) := spec_l01Floor_lpsG
def spec_l01Floor_XG {α : Type}   (n : Nat) : Ctx α := ⟨spec_l01Floor_CG n, spec_l01Floor_M, eqs, lpOf (spec_l01Floor_lpsG) n⟩
def spec_l01Floor_X {α : Type} (n : Nat) : Ctx α := spec_l01Floor_XG n
def spec_l01Floor_Lt (np : Nat) (lent : List (Bool × Nat × Blk)) : Prop := np = 2 ∧ lent = []
def spec_l01Floor_body {α : Type}   (k : Nat) (p_ : Int) (q_ : Int) (r0 : Int → Option α) : Option α :=
  bif decide (q_ = 0) then
    none
  else
  bif decide (q_ = 0) then
    none
  else
  bif (!decide ((Int.tmod p_ q_) = 0)) then
    bif (!(decide (p_ < 0) == decide (q_ < 0))) then
      r0 (w64 ((w64 (Int.tdiv p_ q_)) - 1))
    else
      r0 (w64 (Int.tdiv p_ q_))
  else
    r0 (w64 (Int.tdiv p_ q_))
theorem spec_l01Floor_gen {α : Type}   (n : Nat) (p_ : Int) (q_ : Int) (κ : Res → Option α) : evFn Try.prog (spec_l01Floor_XG n) Try.f98 (((buildDs spec_l01Floor_sh [.int p_, .int q_]).map Prod.fst).getD []) κ = spec_l01Floor_body n p_ q_ (fun v1 => κ ⟨[.int .i64 v1], []⟩) := by kernel_rfl
theorem spec_l01Floor_ev {α : Type} (n : Nat) (p_ : Int) (q_ : Int) (κ : Res → Option α) : evFn Try.prog (spec_l01Floor_X n) Try.f98 (((buildDs spec_l01Floor_sh [.int p_, .int q_]).map Prod.fst).getD []) κ = spec_l01Floor_run n [.int p_, .int q_] κ := (spec_l01Floor_gen n p_ q_ κ).trans (by kernel_rfl)
theorem spec_l01Floor_en (p_ : Int) (q_ : Int) : (entry 0 (((buildDs spec_l01Floor_sh [.int p_, .int q_]).map Prod.fst).getD [])).map (fun x => (x.1.length, x.2.lent)) = some (2, []) := by kernel_rfl
theorem spec_l01Floor_good {α : Type} : ∀ n, GoodFn (α := α) Try.prog 98 (byShape spec_l01Floor_sh (spec_l01Floor_run n)) := by
  refine fn_good' Try.func98 (c := (Try.f98.body.getD .skip)) (by kernel_rfl) (by kernel_rfl) (by kernel_rfl) spec_l01Floor_C spec_l01Floor_M eqs spec_l01Floor_lps (fun n => tabC_good (fun _ h => absurd h List.not_mem_nil)) eqs_ok spec_l01Floor_Lt ?_ ?_ spec_l01Floor_sh spec_l01Floor_run ?_
  · exact (fun _ h => absurd h List.not_mem_nil)
  · exact (fun _ h => absurd h List.not_mem_nil)
  · intro n p κ r ds hd hr
    have hr0 := hr
    unfold spec_l01Floor_run spec_l01Floor_runG at hr
    split at hr
    · rw [← ds_of hd]
      exact ⟨en_of (spec_l01Floor_en _ _) ⟨rfl, rfl⟩, (spec_l01Floor_ev n _ _ κ).trans hr0⟩
    · cases hr

/-! loop.example/g01297/spec.l10Near -/
def spec_l10Near_sh : List SkD := [.int .i64, .int .i64]
def spec_l10Near_runG {α : Type} (F : Nat → Int → Int → (Int → Int → Option α) → Option α) (n : Nat) (p : List P1) (κ : Res → Option α) : Option α := match p with
  | [.int x, .int q_] => F n x q_ (fun v1 v2 => κ ⟨[.int .i64 v1, .int .i64 v2], []⟩)
  | _ => none
def spec_l10Near_run {α : Type} (n : Nat) (p : List P1) (κ : Res → Option α) : Option α := spec_l10Near_runG spec_l10Near n p κ
def spec_l10Near_CG {α : Type} (F0 : Nat → Int → Int → (Int → Option α) → Option α) (n : Nat) : FuncId → List D → (Res → Option α) → Option α := tabC [(98, (byShape spec_l01Floor_sh (spec_l01Floor_runG F0 n)))]
def spec_l10Near_C {α : Type} (n : Nat) : FuncId → List D → (Res → Option α) → Option α := spec_l10Near_CG spec_l01Floor n
def spec_l10Near_M : FuncId → List Nat := tabM []
def spec_l10Near_lpsG {α : Type}  : List (LoopT α) := []
def spec_l10Near_lps {α : Type} : List (LoopT α) := spec_l10Near_lpsG
def spec_l10Near_XG {α : Type} (F0 : Nat → Int → Int → (Int → Option α) → Option α)  (n : Nat) : Ctx α := ⟨spec_l10Near_CG F0 n, spec_l10Near_M, eqs, lpOf (spec_l10Near_lpsG) n⟩
def spec_l10Near_X {α : Type} (n : Nat) : Ctx α := spec_l10Near_XG spec_l01Floor n
def spec_l10Near_Lt (np : Nat) (lent : List (Bool × Nat × Blk)) : Prop := np = 2 ∧ lent = []
def spec_l10Near_body {α : Type} (F0 : Nat → Int → Int → (Int → Option α) → Option α)  (k : Nat) (x : Int) (q_ : Int) (r0 : Int → Int → Option α) : Option α :=
  F0 k x q_ fun v =>
  bif decide ((w64 (q_ - (w64 (x - (w64 (v * q_)))))) < (w64 (x - (w64 (v * q_))))) then
    r0 (w64 (v + 1)) (w64 (q_ - (w64 (x - (w64 (v * q_))))))
  else
    r0 v (w64 (x - (w64 (v * q_))))
theorem spec_l10Near_gen {α : Type} (F0 : Nat → Int → Int → (Int → Option α) → Option α)  (n : Nat) (x : Int) (q_ : Int) (κ : Res → Option α) : evFn Try.prog (spec_l10Near_XG F0 n) Try.f60 (((buildDs spec_l10Near_sh [.int x, .int q_]).map Prod.fst).getD []) κ = spec_l10Near_body F0 n x q_ (fun v1 v2 => κ ⟨[.int .i64 v1, .int .i64 v2], []⟩) := by kernel_rfl
theorem spec_l10Near_ev {α : Type} (n : Nat) (x : Int) (q_ : Int) (κ : Res → Option α) : evFn Try.prog (spec_l10Near_X n) Try.f60 (((buildDs spec_l10Near_sh [.int x, .int q_]).map Prod.fst).getD []) κ = spec_l10Near_run n [.int x, .int q_] κ := (spec_l10Near_gen spec_l01Floor n x q_ κ).trans (by kernel_rfl)
theorem spec_l10Near_en (x : Int) (q_ : Int) : (entry 0 (((buildDs spec_l10Near_sh [.int x, .int q_]).map Prod.fst).getD [])).map (fun x => (x.1.length, x.2.lent)) = some (2, []) := by kernel_rfl
theorem spec_l10Near_good {α : Type} : ∀ n, GoodFn (α := α) Try.prog 60 (byShape spec_l10Near_sh (spec_l10Near_run n)) := by
  refine fn_good' Try.func60 (c := (Try.f60.body.getD .skip)) (by kernel_rfl) (by kernel_rfl) (by kernel_rfl) spec_l10Near_C spec_l10Near_M eqs spec_l10Near_lps (fun n => tabC_good (List.forall_mem_cons.2 ⟨(spec_l01Floor_good n), (fun _ h => absurd h List.not_mem_nil)⟩)) eqs_ok spec_l10Near_Lt ?_ ?_ spec_l10Near_sh spec_l10Near_run ?_
  · exact (fun _ h => absurd h List.not_mem_nil)
  · exact (fun _ h => absurd h List.not_mem_nil)
  · intro n p κ r ds hd hr
    have hr0 := hr
    unfold spec_l10Near_run spec_l10Near_runG at hr
    split at hr
    · rw [← ds_of hd]
      exact ⟨en_of (spec_l10Near_en _ _) ⟨rfl, rfl⟩, (spec_l10Near_ev n _ _ κ).trans hr0⟩
    · cases hr

/-! loop.example/g01297/spec.CommonRecords -/
def spec_CommonRecords_sh : List SkD := [.int .i64, .int .i64, .int .i64, .int .i64]
def spec_CommonRecords_runG {α : Type} (F : Nat → Int → Int → Int → Int → (Int → Option α) → (List Int → Int → Option α) → Option α) (n : Nat) (p : List P1) (κ : Res → Option α) : Option α := match p with
  | [.int p_, .int r_, .int q_, .int n_] => F n p_ r_ q_ n_ (fun v1 => κ ⟨[.nilsl, .int .i64 v1], []⟩) (fun v1 v2 => κ ⟨[.sl 2 (.int .i64) v1, .int .i64 v2], []⟩)
  | _ => none
def spec_CommonRecords_run {α : Type} (n : Nat) (p : List P1) (κ : Res → Option α) : Option α := spec_CommonRecords_runG spec_CommonRecords n p κ
def spec_CommonRecords_CG {α : Type} (F0 : Nat → Int → Int → Int → (Bool → Option α) → Option α) (F1 : Nat → Int → Int → Int → (Bool → Option α) → Option α) (F2 : Nat → Int → Int → (Int → Int → Option α) → Option α) (n : Nat) : FuncId → List D → (Res → Option α) → Option α := tabC [(58, (byShape spec_l10Ratio_sh (spec_l10Ratio_runG F0 n))), (59, (byShape spec_l01In_sh (spec_l01In_runG F1 n))), (60, (byShape spec_l10Near_sh (spec_l10Near_runG F2 n)))]
def spec_CommonRecords_C {α : Type} (n : Nat) : FuncId → List D → (Res → Option α) → Option α := spec_CommonRecords_CG spec_l10Ratio spec_l01In spec_l10Near n
def spec_CommonRecords_M : FuncId → List Nat := tabM []
def spec_CommonRecords_t5 : Tpl := ⟨[.int .i64, .int .i64, .int .i64, .int .i64, .any, .any, .any, .any, .any, .any, .sl 2112, .int .i64, .int .i64, .any, .any, .any, .any, .any, .any, .any, .any, .any, .any, .any, .any, .any, .any, .any, .any, .any, .any, .any, .any, .any, .any, .any, .any, .any, .any, .any, .any, .any, .any, .any, .any, .any, .any, .any, .any, .any, .any, .any, .any, .any, .any, .any, .any, .any, .any, .any, .any, .any, .any, .any, .any, .any, .any, .any, .any, .any, .any, .any], [(2112, .rows 2 2 (.int .i64))], []⟩
def spec_CommonRecords_uG5 {α : Type} (G : Nat → Int → Int → Int → Int → Int → Int → List Int → (Int → Int → Int → Int → Int → Int → List Int → Option α) → (Int → Option α) → (List Int → Int → Option α) → Option α) (n : Nat) (p : List P1) (brk : Nat → List P1 → Option α) (ret : Res → Option α) : Option α := match p with
  | [.int p_1, .int r_1, .int q_1, .int n_1, .int least, .int k_, .rows (.int .i64) out] => G n p_1 r_1 q_1 n_1 least k_ out (fun p_1 r_1 q_1 n_1 least k_ out => brk 0 [.int p_1, .int r_1, .int q_1, .int n_1, .int least, .int k_, .rows (.int .i64) out]) (fun v1 => ret ⟨[.nilsl, .int .i64 v1], []⟩) (fun v1 v2 => ret ⟨[.sl 2 (.int .i64) v1, .int .i64 v2], []⟩)
  | _ => none
def spec_CommonRecords_u5 {α : Type} (n : Nat) (p : List P1) (brk : Nat → List P1 → Option α) (ret : Res → Option α) : Option α := spec_CommonRecords_uG5 spec_CommonRecords_l5 n p brk ret
def spec_CommonRecords_lpsG {α : Type} (G5 : Nat → Int → Int → Int → Int → Int → Int → List Int → (Int → Int → Int → Int → Int → Int → List Int → Option α) → (Int → Option α) → (List Int → Int → Option α) → Option α) : List (LoopT α) := [⟨5, spec_CommonRecords_t5, spec_CommonRecords_uG5 G5⟩]
def spec_CommonRecords_lps {α : Type} : List (LoopT α) := spec_CommonRecords_lpsG spec_CommonRecords_l5
def spec_CommonRecords_XG {α : Type} (F0 : Nat → Int → Int → Int → (Bool → Option α) → Option α) (F1 : Nat → Int → Int → Int → (Bool → Option α) → Option α) (F2 : Nat → Int → Int → (Int → Int → Option α) → Option α) (G5 : Nat → Int → Int → Int → Int → Int → Int → List Int → (Int → Int → Int → Int → Int → Int → List Int → Option α) → (Int → Option α) → (List Int → Int → Option α) → Option α) (n : Nat) : Ctx α := ⟨spec_CommonRecords_CG F0 F1 F2 n, spec_CommonRecords_M, eqs, lpOf (spec_CommonRecords_lpsG G5) n⟩
def spec_CommonRecords_X {α : Type} (n : Nat) : Ctx α := spec_CommonRecords_XG spec_l10Ratio spec_l01In spec_l10Near spec_CommonRecords_l5 n
def spec_CommonRecords_Lt (np : Nat) (lent : List (Bool × Nat × Blk)) : Prop := np = 4 ∧ lent = []
def spec_CommonRecords_lb5 {α : Type} (F0 : Nat → Int → Int → Int → (Bool → Option α) → Option α) (F1 : Nat → Int → Int → Int → (Bool → Option α) → Option α) (F2 : Nat → Int → Int → (Int → Int → Option α) → Option α) (G5 : Nat → Int → Int → Int → Int → Int → Int → List Int → (Int → Int → Int → Int → Int → Int → List Int → Option α) → (Int → Option α) → (List Int → Int → Option α) → Option α) (k : Nat) (p_1 : Int) (r_1 : Int) (q_1 : Int) (n_1 : Int) (least : Int) (k_ : Int) (out : List Int) (b0 : Int → Int → Int → Int → Int → Int → List Int → Option α) (r0 : Int → Option α) (r1 : List Int → Int → Option α) : Option α :=
  bif decide (k_ ≤ n_1) then
    F2 k (w64 (k_ * p_1)) q_1 fun v3 v4 =>
    F2 k (w64 (k_ * r_1)) q_1 fun v5 v6 =>
    bif decide ((((List.length out) : Nat) : Int) = 0) then
      bif decide (((List.length out) + 1) ≤ big) then
        G5 k p_1 r_1 q_1 n_1 (max v4 v6) (w64 (k_ + 1)) (out ++ [k_]) b0 r0 r1
      else
        none
    else
    bif decide ((max v4 v6) < least) then
      bif decide (((List.length out) + 1) ≤ big) then
        G5 k p_1 r_1 q_1 n_1 (max v4 v6) (w64 (k_ + 1)) (out ++ [k_]) b0 r0 r1
      else
        none
    else
      G5 k p_1 r_1 q_1 n_1 least (w64 (k_ + 1)) out b0 r0 r1
  else
    b0 p_1 r_1 q_1 n_1 least k_ out
theorem spec_CommonRecords_l5_gen {α : Type} (F0 : Nat → Int → Int → Int → (Bool → Option α) → Option α) (F1 : Nat → Int → Int → Int → (Bool → Option α) → Option α) (F2 : Nat → Int → Int → (Int → Int → Option α) → Option α) (G5 : Nat → Int → Int → Int → Int → Int → Int → List Int → (Int → Int → Int → Int → Int → Int → List Int → Option α) → (Int → Option α) → (List Int → Int → Option α) → Option α) (n : Nat) (p_1 : Int) (r_1 : Int) (q_1 : Int) (n_1 : Int) (least : Int) (k_ : Int) (out : List Int) (brk : Nat → List P1 → Option α) (ret : Res → Option α) : ev ((spec_CommonRecords_XG F0 F1 F2 G5 n).env Try.prog Try.f20 4 []) (findLoop (loopsIn (Try.f20.body.getD .skip)) 5) ((spec_CommonRecords_t5.build [.int p_1, .int r_1, .int q_1, .int n_1, .int least, .int k_, .rows (.int .i64) out]).getD ⟨[], []⟩) (roundK (4 * 64) spec_CommonRecords_t5 (fun q => spec_CommonRecords_uG5 G5 n q brk ret) brk ret) = spec_CommonRecords_lb5 F0 F1 F2 G5 n p_1 r_1 q_1 n_1 least k_ out (fun p_1 r_1 q_1 n_1 least k_ out => brk 0 [.int p_1, .int r_1, .int q_1, .int n_1, .int least, .int k_, .rows (.int .i64) out]) (fun v1 => ret ⟨[.nilsl, .int .i64 v1], []⟩) (fun v1 v2 => ret ⟨[.sl 2 (.int .i64) v1, .int .i64 v2], []⟩) := by kernel_rfl
theorem spec_CommonRecords_l5_ev {α : Type} (n : Nat) (p_1 : Int) (r_1 : Int) (q_1 : Int) (n_1 : Int) (least : Int) (k_ : Int) (out : List Int) (brk : Nat → List P1 → Option α) (ret : Res → Option α) : ev ((spec_CommonRecords_X n).env Try.prog Try.f20 4 []) (findLoop (loopsIn (Try.f20.body.getD .skip)) 5) ((spec_CommonRecords_t5.build [.int p_1, .int r_1, .int q_1, .int n_1, .int least, .int k_, .rows (.int .i64) out]).getD ⟨[], []⟩) (roundK (4 * 64) spec_CommonRecords_t5 (fun q => spec_CommonRecords_u5 n q brk ret) brk ret) = spec_CommonRecords_u5 (n + 1) [.int p_1, .int r_1, .int q_1, .int n_1, .int least, .int k_, .rows (.int .i64) out] brk ret := (spec_CommonRecords_l5_gen spec_l10Ratio spec_l01In spec_l10Near spec_CommonRecords_l5 n p_1 r_1 q_1 n_1 least k_ out brk ret).trans (by kernel_rfl)
def spec_CommonRecords_body {α : Type} (F0 : Nat → Int → Int → Int → (Bool → Option α) → Option α) (F1 : Nat → Int → Int → Int → (Bool → Option α) → Option α) (F2 : Nat → Int → Int → (Int → Int → Option α) → Option α) (G5 : Nat → Int → Int → Int → Int → Int → Int → List Int → (Int → Int → Int → Int → Int → Int → List Int → Option α) → (Int → Option α) → (List Int → Int → Option α) → Option α) (k : Nat) (p_ : Int) (r_ : Int) (q_ : Int) (n_ : Int) (r0 : Int → Option α) (r1 : List Int → Int → Option α) : Option α :=
  F0 k p_ q_ 1 fun v =>
  bif (!v) then
    r0 2
  else
    F0 k r_ q_ 1 fun v1 =>
    bif (!v1) then
      r0 2
    else
      F1 k n_ 1 100000 fun v2 =>
      bif (!v2) then
        r0 2
      else
        G5 k p_ r_ q_ n_ 0 1 []
          (fun p_2 r_2 q_2 n_2 least1 k_1 out1 =>
            r1 out1 0)
          r0 r1
theorem spec_CommonRecords_gen {α : Type} (F0 : Nat → Int → Int → Int → (Bool → Option α) → Option α) (F1 : Nat → Int → Int → Int → (Bool → Option α) → Option α) (F2 : Nat → Int → Int → (Int → Int → Option α) → Option α) (G5 : Nat → Int → Int → Int → Int → Int → Int → List Int → (Int → Int → Int → Int → Int → Int → List Int → Option α) → (Int → Option α) → (List Int → Int → Option α) → Option α) (n : Nat) (p_ : Int) (r_ : Int) (q_ : Int) (n_ : Int) (κ : Res → Option α) : evFn Try.prog (spec_CommonRecords_XG F0 F1 F2 G5 n) Try.f20 (((buildDs spec_CommonRecords_sh [.int p_, .int r_, .int q_, .int n_]).map Prod.fst).getD []) κ = spec_CommonRecords_body F0 F1 F2 G5 n p_ r_ q_ n_ (fun v1 => κ ⟨[.nilsl, .int .i64 v1], []⟩) (fun v1 v2 => κ ⟨[.sl 2 (.int .i64) v1, .int .i64 v2], []⟩) := by kernel_rfl
theorem spec_CommonRecords_ev {α : Type} (n : Nat) (p_ : Int) (r_ : Int) (q_ : Int) (n_ : Int) (κ : Res → Option α) : evFn Try.prog (spec_CommonRecords_X n) Try.f20 (((buildDs spec_CommonRecords_sh [.int p_, .int r_, .int q_, .int n_]).map Prod.fst).getD []) κ = spec_CommonRecords_run n [.int p_, .int r_, .int q_, .int n_] κ := (spec_CommonRecords_gen spec_l10Ratio spec_l01In spec_l10Near spec_CommonRecords_l5 n p_ r_ q_ n_ κ).trans (by kernel_rfl)
theorem spec_CommonRecords_en (p_ : Int) (r_ : Int) (q_ : Int) (n_ : Int) : (entry 0 (((buildDs spec_CommonRecords_sh [.int p_, .int r_, .int q_, .int n_]).map Prod.fst).getD [])).map (fun x => (x.1.length, x.2.lent)) = some (4, []) := by kernel_rfl
theorem spec_CommonRecords_good {α : Type} : ∀ n, GoodFn (α := α) Try.prog 20 (byShape spec_CommonRecords_sh (spec_CommonRecords_run n)) := by
  refine fn_good' Try.func20 (c := (Try.f20.body.getD .skip)) (by kernel_rfl) (by kernel_rfl) (by kernel_rfl) spec_CommonRecords_C spec_CommonRecords_M eqs spec_CommonRecords_lps (fun n => tabC_good (List.forall_mem_cons.2 ⟨(spec_l10Ratio_good n), (List.forall_mem_cons.2 ⟨(spec_l01In_good n), (List.forall_mem_cons.2 ⟨(spec_l10Near_good n), (fun _ h => absurd h List.not_mem_nil)⟩)⟩)⟩)) eqs_ok spec_CommonRecords_Lt ?_ ?_ spec_CommonRecords_sh spec_CommonRecords_run ?_
  · refine List.forall_mem_cons.2 ⟨?_, (fun _ h => absurd h List.not_mem_nil)⟩
    · intro p brk ret; show spec_CommonRecords_u5 0 p brk ret = none; unfold spec_CommonRecords_u5 spec_CommonRecords_uG5; split <;> rfl
  · refine List.forall_mem_cons.2 ⟨?_, (fun _ h => absurd h List.not_mem_nil)⟩
    · intro np lent hL n p brk ret st r hb hr
      obtain ⟨rfl, rfl⟩ := hL
      rw [← tpl_of hb]
      change spec_CommonRecords_u5 (n + 1) p brk ret = some r at hr
      have hr0 := hr
      unfold spec_CommonRecords_u5 spec_CommonRecords_uG5 at hr
      split at hr
      · exact (spec_CommonRecords_l5_ev n _ _ _ _ _ _ _ brk ret).trans hr0
      · cases hr
  · intro n p κ r ds hd hr
    have hr0 := hr
    unfold spec_CommonRecords_run spec_CommonRecords_runG at hr
    split at hr
    · rw [← ds_of hd]
      exact ⟨en_of (spec_CommonRecords_en _ _ _ _) ⟨rfl, rfl⟩, (spec_CommonRecords_ev n _ _ _ _ κ).trans hr0⟩
    · cases hr

/-! loop.example/g01297/impl.in -/
def impl_in_sh : List SkD := [.int .i64, .int .i64, .int .i64]
def impl_in_runG {α : Type} (F : Nat → Int → Int → Int → (Bool → Option α) → Option α) (n : Nat) (p : List P1) (κ : Res → Option α) : Option α := match p with
  | [.int n_, .int low, .int high] => F n n_ low high (fun v1 => κ ⟨[.bool v1], []⟩)
  | _ => none
def impl_in_run {α : Type} (n : Nat) (p : List P1) (κ : Res → Option α) : Option α := impl_in_runG impl_in n p κ
def impl_in_CG {α : Type}  (n : Nat) : FuncId → List D → (Res → Option α) → Option α := tabC []
def impl_in_C {α : Type} (n : Nat) : FuncId → List D → (Res → Option α) → Option α := impl_in_CG n
def impl_in_M : FuncId → List Nat := tabM []
def impl_in_lpsG {α : Type}  : List (LoopT α) := []
def impl_in_lps {α : Type} : List (LoopT α) := impl_in_lpsG
def impl_in_XG {α : Type}   (n : Nat) : Ctx α := ⟨impl_in_CG n, impl_in_M, eqs, lpOf (impl_in_lpsG) n⟩
def impl_in_X {α : Type} (n : Nat) : Ctx α := impl_in_XG n
def impl_in_Lt (np : Nat) (lent : List (Bool × Nat × Blk)) : Prop := np = 3 ∧ lent = []
def impl_in_body {α : Type}   (k : Nat) (n_ : Int) (low : Int) (high : Int) (r0 : Bool → Option α) : Option α :=
  bif decide (low ≤ n_) then
    r0 (decide (n_ ≤ high))
  else
    r0 false
theorem impl_in_gen {α : Type}   (n : Nat) (n_ : Int) (low : Int) (high : Int) (κ : Res → Option α) : evFn Try.prog (impl_in_XG n) Try.f92 (((buildDs impl_in_sh [.int n_, .int low, .int high]).map Prod.fst).getD []) κ = impl_in_body n n_ low high (fun v1 => κ ⟨[.bool v1], []⟩) := by kernel_rfl
theorem impl_in_ev {α : Type} (n : Nat) (n_ : Int) (low : Int) (high : Int) (κ : Res → Option α) : evFn Try.prog (impl_in_X n) Try.f92 (((buildDs impl_in_sh [.int n_, .int low, .int high]).map Prod.fst).getD []) κ = impl_in_run n [.int n_, .int low, .int high] κ := (impl_in_gen n n_ low high κ).trans (by kernel_rfl)
theorem impl_in_en (n_ : Int) (low : Int) (high : Int) : (entry 0 (((buildDs impl_in_sh [.int n_, .int low, .int high]).map Prod.fst).getD [])).map (fun x => (x.1.length, x.2.lent)) = some (3, []) := by kernel_rfl
theorem impl_in_good {α : Type} : ∀ n, GoodFn (α := α) Try.prog 92 (byShape impl_in_sh (impl_in_run n)) := by
  refine fn_good' Try.func92 (c := (Try.f92.body.getD .skip)) (by kernel_rfl) (by kernel_rfl) (by kernel_rfl) impl_in_C impl_in_M eqs impl_in_lps (fun n => tabC_good (fun _ h => absurd h List.not_mem_nil)) eqs_ok impl_in_Lt ?_ ?_ impl_in_sh impl_in_run ?_
  · exact (fun _ h => absurd h List.not_mem_nil)
  · exact (fun _ h => absurd h List.not_mem_nil)
  · intro n p κ r ds hd hr
    have hr0 := hr
    unfold impl_in_run impl_in_runG at hr
    split at hr
    · rw [← ds_of hd]
      exact ⟨en_of (impl_in_en _ _ _) ⟨rfl, rfl⟩, (impl_in_ev n _ _ _ κ).trans hr0⟩
    · cases hr

/-! loop.example/g01297/impl.isCoord -/
def impl_isCoord_sh : List SkD := [.int .i64]
def impl_isCoord_runG {α : Type} (F : Nat → Int → (Bool → Option α) → Option α) (n : Nat) (p : List P1) (κ : Res → Option α) : Option α := match p with
  | [.int n_] => F n n_ (fun v1 => κ ⟨[.bool v1], []⟩)
  | _ => none
def impl_isCoord_run {α : Type} (n : Nat) (p : List P1) (κ : Res → Option α) : Option α := impl_isCoord_runG impl_isCoord n p κ
def impl_isCoord_CG {α : Type} (F0 : Nat → Int → Int → Int → (Bool → Option α) → Option α) (n : Nat) : FuncId → List D → (Res → Option α) → Option α := tabC [(92, (byShape impl_in_sh (impl_in_runG F0 n)))]
def impl_isCoord_C {α : Type} (n : Nat) : FuncId → List D → (Res → Option α) → Option α := impl_isCoord_CG impl_in n
def impl_isCoord_M : FuncId → List Nat := tabM []
def impl_isCoord_lpsG {α : Type}  : List (LoopT α) := []
def impl_isCoord_lps {α : Type} : List (LoopT α) := impl_isCoord_lpsG
def impl_isCoord_XG {α : Type} (F0 : Nat → Int → Int → Int → (Bool → Option α) → Option α)  (n : Nat) : Ctx α := ⟨impl_isCoord_CG F0 n, impl_isCoord_M, eqs, lpOf (impl_isCoord_lpsG) n⟩
def impl_isCoord_X {α : Type} (n : Nat) : Ctx α := impl_isCoord_XG impl_in n
def impl_isCoord_Lt (np : Nat) (lent : List (Bool × Nat × Blk)) : Prop := np = 1 ∧ lent = []
def impl_isCoord_body {α : Type} (F0 : Nat → Int → Int → Int → (Bool → Option α) → Option α)  (k : Nat) (n_ : Int) (r0 : Bool → Option α) : Option α :=
  F0 k n_ (-1000000) 1000000 fun v =>
  r0 v
theorem impl_isCoord_gen {α : Type} (F0 : Nat → Int → Int → Int → (Bool → Option α) → Option α)  (n : Nat) (n_ : Int) (κ : Res → Option α) : evFn Try.prog (impl_isCoord_XG F0 n) Try.f88 (((buildDs impl_isCoord_sh [.int n_]).map Prod.fst).getD []) κ = impl_isCoord_body F0 n n_ (fun v1 => κ ⟨[.bool v1], []⟩) := by kernel_rfl
theorem impl_isCoord_ev {α : Type} (n : Nat) (n_ : Int) (κ : Res → Option α) : evFn Try.prog (impl_isCoord_X n) Try.f88 (((buildDs impl_isCoord_sh [.int n_]).map Prod.fst).getD []) κ = impl_isCoord_run n [.int n_] κ := (impl_isCoord_gen impl_in n n_ κ).trans (by kernel_rfl)
theorem impl_isCoord_en (n_ : Int) : (entry 0 (((buildDs impl_isCoord_sh [.int n_]).map Prod.fst).getD [])).map (fun x => (x.1.length, x.2.lent)) = some (1, []) := by kernel_rfl
theorem impl_isCoord_good {α : Type} : ∀ n, GoodFn (α := α) Try.prog 88 (byShape impl_isCoord_sh (impl_isCoord_run n)) := by
  refine fn_good' Try.func88 (c := (Try.f88.body.getD .skip)) (by kernel_rfl) (by kernel_rfl) (by kernel_rfl) impl_isCoord_C impl_isCoord_M eqs impl_isCoord_lps (fun n => tabC_good (List.forall_mem_cons.2 ⟨(impl_in_good n), (fun _ h => absurd h List.not_mem_nil)⟩)) eqs_ok impl_isCoord_Lt ?_ ?_ impl_isCoord_sh impl_isCoord_run ?_
  · exact (fun _ h => absurd h List.not_mem_nil)
  · exact (fun _ h => absurd h List.not_mem_nil)
  · intro n p κ r ds hd hr
    have hr0 := hr
    unfold impl_isCoord_run impl_isCoord_runG at hr
    split at hr
    · rw [← ds_of hd]
      exact ⟨en_of (impl_isCoord_en _) ⟨rfl, rfl⟩, (impl_isCoord_ev n _ κ).trans hr0⟩
    · cases hr

/-! loop.example/g01297/impl.ratioOk -/
def impl_ratioOk_sh : List SkD := [.int .i64, .int .i64]
def impl_ratioOk_runG {α : Type} (F : Nat → Int → Int → (Bool → Option α) → Option α) (n : Nat) (p : List P1) (κ : Res → Option α) : Option α := match p with
  | [.int p_, .int q_] => F n p_ q_ (fun v1 => κ ⟨[.bool v1], []⟩)
  | _ => none
def impl_ratioOk_run {α : Type} (n : Nat) (p : List P1) (κ : Res → Option α) : Option α := impl_ratioOk_runG impl_ratioOk n p κ
def impl_ratioOk_CG {α : Type} (F0 : Nat → Int → (Bool → Option α) → Option α) (F1 : Nat → Int → Int → Int → (Bool → Option α) → Option α) (n : Nat) : FuncId → List D → (Res → Option α) → Option α := tabC [(88, (byShape impl_isCoord_sh (impl_isCoord_runG F0 n))), (92, (byShape impl_in_sh (impl_in_runG F1 n)))]
def impl_ratioOk_C {α : Type} (n : Nat) : FuncId → List D → (Res → Option α) → Option α := impl_ratioOk_CG impl_isCoord impl_in n
def impl_ratioOk_M : FuncId → List Nat := tabM []
def impl_ratioOk_lpsG {α : Type}  : List (LoopT α) := []
def impl_ratioOk_lps {α : Type} : List (LoopT α) := impl_ratioOk_lpsG
def impl_ratioOk_XG {α : Type} (F0 : Nat → Int → (Bool → Option α) → Option α) (F1 : Nat → Int → Int → Int → (Bool → Option α) → Option α)  (n : Nat) : Ctx α := ⟨impl_ratioOk_CG F0 F1 n, impl_ratioOk_M, eqs, lpOf (impl_ratioOk_lpsG) n⟩
def impl_ratioOk_X {α : Type} (n : Nat) : Ctx α := impl_ratioOk_XG impl_isCoord impl_in n
def impl_ratioOk_Lt (np : Nat) (lent : List (Bool × Nat × Blk)) : Prop := np = 2 ∧ lent = []
def impl_ratioOk_body {α : Type} (F0 : Nat → Int → (Bool → Option α) → Option α) (F1 : Nat → Int → Int → Int → (Bool → Option α) → Option α)  (k : Nat) (p_ : Int) (q_ : Int) (r0 : Bool → Option α) : Option α :=
  F0 k p_ fun v =>
  bif v then
    F1 k q_ 1 1000000 fun v1 =>
    r0 v1
  else
    r0 false
theorem impl_ratioOk_gen {α : Type} (F0 : Nat → Int → (Bool → Option α) → Option α) (F1 : Nat → Int → Int → Int → (Bool → Option α) → Option α)  (n : Nat) (p_ : Int) (q_ : Int) (κ : Res → Option α) : evFn Try.prog (impl_ratioOk_XG F0 F1 n) Try.f62 (((buildDs impl_ratioOk_sh [.int p_, .int q_]).map Prod.fst).getD []) κ = impl_ratioOk_body F0 F1 n p_ q_ (fun v1 => κ ⟨[.bool v1], []⟩) := by kernel_rfl
theorem impl_ratioOk_ev {α : Type} (n : Nat) (p_ : Int) (q_ : Int) (κ : Res → Option α) : evFn Try.prog (impl_ratioOk_X n) Try.f62 (((buildDs impl_ratioOk_sh [.int p_, .int q_]).map Prod.fst).getD []) κ = impl_ratioOk_run n [.int p_, .int q_] κ := (impl_ratioOk_gen impl_isCoord impl_in n p_ q_ κ).trans (by kernel_rfl)
theorem impl_ratioOk_en (p_ : Int) (q_ : Int) : (entry 0 (((buildDs impl_ratioOk_sh [.int p_, .int q_]).map Prod.fst).getD [])).map (fun x => (x.1.length, x.2.lent)) = some (2, []) := by kernel_rfl
theorem impl_ratioOk_good {α : Type} : ∀ n, GoodFn (α := α) Try.prog 62 (byShape impl_ratioOk_sh (impl_ratioOk_run n)) := by
  refine fn_good' Try.func62 (c := (Try.f62.body.getD .skip)) (by kernel_rfl) (by kernel_rfl) (by kernel_rfl) impl_ratioOk_C impl_ratioOk_M eqs impl_ratioOk_lps (fun n => tabC_good (List.forall_mem_cons.2 ⟨(impl_isCoord_good n), (List.forall_mem_cons.2 ⟨(impl_in_good n), (fun _ h => absurd h List.not_mem_nil)⟩)⟩)) eqs_ok impl_ratioOk_Lt ?_ ?_ impl_ratioOk_sh impl_ratioOk_run ?_
  · exact (fun _ h => absurd h List.not_mem_nil)
  · exact (fun _ h => absurd h List.not_mem_nil)
  · intro n p κ r ds hd hr
    have hr0 := hr
    unfold impl_ratioOk_run impl_ratioOk_runG at hr
    split at hr
    · rw [← ds_of hd]
      exact ⟨en_of (impl_ratioOk_en _ _) ⟨rfl, rfl⟩, (impl_ratioOk_ev n _ _ κ).trans hr0⟩
    · cases hr

/-! loop.example/g01297/impl.bestOk -/
def impl_bestOk_sh : List SkD := [.int .i64, .int .i64, .int .i64]
def impl_bestOk_runG {α : Type} (F : Nat → Int → Int → Int → (Bool → Option α) → Option α) (n : Nat) (p : List P1) (κ : Res → Option α) : Option α := match p with
  | [.int p_, .int q_, .int n_] => F n p_ q_ n_ (fun v1 => κ ⟨[.bool v1], []⟩)
  | _ => none
def impl_bestOk_run {α : Type} (n : Nat) (p : List P1) (κ : Res → Option α) : Option α := impl_bestOk_runG impl_bestOk n p κ
def impl_bestOk_CG {α : Type} (F0 : Nat → Int → Int → (Bool → Option α) → Option α) (F1 : Nat → Int → Int → Int → (Bool → Option α) → Option α) (n : Nat) : FuncId → List D → (Res → Option α) → Option α := tabC [(62, (byShape impl_ratioOk_sh (impl_ratioOk_runG F0 n))), (92, (byShape impl_in_sh (impl_in_runG F1 n)))]
def impl_bestOk_C {α : Type} (n : Nat) : FuncId → List D → (Res → Option α) → Option α := impl_bestOk_CG impl_ratioOk impl_in n
def impl_bestOk_M : FuncId → List Nat := tabM []
def impl_bestOk_lpsG {α : Type}  : List (LoopT α) := []
def impl_bestOk_lps {α : Type} : List (LoopT α) := impl_bestOk_lpsG
def impl_bestOk_XG {α : Type} (F0 : Nat → Int → Int → (Bool → Option α) → Option α) (F1 : Nat → Int → Int → Int → (Bool → Option α) → Option α)  (n : Nat) : Ctx α := ⟨impl_bestOk_CG F0 F1 n, impl_bestOk_M, eqs, lpOf (impl_bestOk_lpsG) n⟩
def impl_bestOk_X {α : Type} (n : Nat) : Ctx α := impl_bestOk_XG impl_ratioOk impl_in n
def impl_bestOk_Lt (np : Nat) (lent : List (Bool × Nat × Blk)) : Prop := np = 3 ∧ lent = []
def impl_bestOk_body {α : Type} (F0 : Nat → Int → Int → (Bool → Option α) → Option α) (F1 : Nat → Int → Int → Int → (Bool → Option α) → Option α)  (k : Nat) (p_ : Int) (q_ : Int) (n_ : Int) (r0 : Bool → Option α) : Option α :=
  F0 k p_ q_ fun v =>
  bif v then
    F1 k n_ 1 100000 fun v1 =>
    r0 v1
  else
    r0 false
theorem impl_bestOk_gen {α : Type} (F0 : Nat → Int → Int → (Bool → Option α) → Option α) (F1 : Nat → Int → Int → Int → (Bool → Option α) → Option α)  (n : Nat) (p_ : Int) (q_ : Int) (n_ : Int) (κ : Res → Option α) : evFn Try.prog (impl_bestOk_XG F0 F1 n) Try.f61 (((buildDs impl_bestOk_sh [.int p_, .int q_, .int n_]).map Prod.fst).getD []) κ = impl_bestOk_body F0 F1 n p_ q_ n_ (fun v1 => κ ⟨[.bool v1], []⟩) := by kernel_rfl
theorem impl_bestOk_ev {α : Type} (n : Nat) (p_ : Int) (q_ : Int) (n_ : Int) (κ : Res → Option α) : evFn Try.prog (impl_bestOk_X n) Try.f61 (((buildDs impl_bestOk_sh [.int p_, .int q_, .int n_]).map Prod.fst).getD []) κ = impl_bestOk_run n [.int p_, .int q_, .int n_] κ := (impl_bestOk_gen impl_ratioOk impl_in n p_ q_ n_ κ).trans (by kernel_rfl)
theorem impl_bestOk_en (p_ : Int) (q_ : Int) (n_ : Int) : (entry 0 (((buildDs impl_bestOk_sh [.int p_, .int q_, .int n_]).map Prod.fst).getD [])).map (fun x => (x.1.length, x.2.lent)) = some (3, []) := by kernel_rfl
theorem impl_bestOk_good {α : Type} : ∀ n, GoodFn (α := α) Try.prog 61 (byShape impl_bestOk_sh (impl_bestOk_run n)) := by
  refine fn_good' Try.func61 (c := (Try.f61.body.getD .skip)) (by kernel_rfl) (by kernel_rfl) (by kernel_rfl) impl_bestOk_C impl_bestOk_M eqs impl_bestOk_lps (fun n => tabC_good (List.forall_mem_cons.2 ⟨(impl_ratioOk_good n), (List.forall_mem_cons.2 ⟨(impl_in_good n), (fun _ h => absurd h List.not_mem_nil)⟩)⟩)) eqs_ok impl_bestOk_Lt ?_ ?_ impl_bestOk_sh impl_bestOk_run ?_
  · exact (fun _ h => absurd h List.not_mem_nil)
  · exact (fun _ h => absurd h List.not_mem_nil)
  · intro n p κ r ds hd hr
    have hr0 := hr
    unfold impl_bestOk_run impl_bestOk_runG at hr
    split at hr
    · rw [← ds_of hd]
      exact ⟨en_of (impl_bestOk_en _ _ _) ⟨rfl, rfl⟩, (impl_bestOk_ev n _ _ _ κ).trans hr0⟩
    · cases hr

/-! loop.example/g01297/impl.floor -/
def impl_floor_sh : List SkD := [.int .i64, .int .i64]
def impl_floor_runG {α : Type} (F : Nat → Int → Int → (Int → Option α) → Option α) (n : Nat) (p : List P1) (κ : Res → Option α) : Option α := match p with
  | [.int a, .int b_] => F n a b_ (fun v1 => κ ⟨[.int .i64 v1], []⟩)
  | _ => none
def impl_floor_run {α : Type} (n : Nat) (p : List P1) (κ : Res → Option α) : Option α := impl_floor_runG impl_floor n p κ
def impl_floor_CG {α : Type}  (n : Nat) : FuncId → List D → (Res → Option α) → Option α := tabC []
def impl_floor_C {α : Type} (n : Nat) : FuncId → List D → (Res → Option α) → Option α := impl_floor_CG n
def impl_floor_M : FuncId → List Nat := tabM []
def impl_floor_lpsG {α : Type}  : List (LoopT α) := []
def impl_floor_lps {α : Type} : List (LoopT α) := impl_floor_lpsG
def impl_floor_XG {α : Type}   (n : Nat) : Ctx α := ⟨impl_floor_CG n, impl_floor_M, eqs, lpOf (impl_floor_lpsG) n⟩
def impl_floor_X {α : Type} (n : Nat) : Ctx α := impl_floor_XG n
def impl_floor_Lt (np : Nat) (lent : List (Bool × Nat × Blk)) : Prop := np = 2 ∧ lent = []
def impl_floor_body {α : Type}   (k : Nat) (a : Int) (b_ : Int) (r0 : Int → Option α) : Option α :=
  bif decide (b_ = 0) then
    none
  else
  bif decide (b_ = 0) then
    none
  else
  bif (!decide ((Int.tmod a b_) = 0)) then
    bif (!(decide (a < 0) == decide (b_ < 0))) then
      r0 (w64 ((w64 (Int.tdiv a b_)) - 1))
    else
      r0 (w64 (Int.tdiv a b_))
  else
    r0 (w64 (Int.tdiv a b_))
theorem impl_floor_gen {α : Type}   (n : Nat) (a : Int) (b_ : Int) (κ : Res → Option α) : evFn Try.prog (impl_floor_XG n) Try.f112 (((buildDs impl_floor_sh [.int a, .int b_]).map Prod.fst).getD []) κ = impl_floor_body n a b_ (fun v1 => κ ⟨[.int .i64 v1], []⟩) := by kernel_rfl
theorem impl_floor_ev {α : Type} (n : Nat) (a : Int) (b_ : Int) (κ : Res → Option α) : evFn Try.prog (impl_floor_X n) Try.f112 (((buildDs impl_floor_sh [.int a, .int b_]).map Prod.fst).getD []) κ = impl_floor_run n [.int a, .int b_] κ := (impl_floor_gen n a b_ κ).trans (by kernel_rfl)
theorem impl_floor_en (a : Int) (b_ : Int) : (entry 0 (((buildDs impl_floor_sh [.int a, .int b_]).map Prod.fst).getD [])).map (fun x => (x.1.length, x.2.lent)) = some (2, []) := by kernel_rfl
theorem impl_floor_good {α : Type} : ∀ n, GoodFn (α := α) Try.prog 112 (byShape impl_floor_sh (impl_floor_run n)) := by
  refine fn_good' Try.func112 (c := (Try.f112.body.getD .skip)) (by kernel_rfl) (by kernel_rfl) (by kernel_rfl) impl_floor_C impl_floor_M eqs impl_floor_lps (fun n => tabC_good (fun _ h => absurd h List.not_mem_nil)) eqs_ok impl_floor_Lt ?_ ?_ impl_floor_sh impl_floor_run ?_
  · exact (fun _ h => absurd h List.not_mem_nil)
  · exact (fun _ h => absurd h List.not_mem_nil)
  · intro n p κ r ds hd hr
    have hr0 := hr
    unfold impl_floor_run impl_floor_runG at hr
    split at hr
    · rw [← ds_of hd]
      exact ⟨en_of (impl_floor_en _ _) ⟨rfl, rfl⟩, (impl_floor_ev n _ _ κ).trans hr0⟩
    · cases hr

/-! loop.example/g01297/impl.mod -/
def impl_mod_sh : List SkD := [.int .i64, .int .i64]
def impl_mod_runG {α : Type} (F : Nat → Int → Int → (Int → Option α) → Option α) (n : Nat) (p : List P1) (κ : Res → Option α) : Option α := match p with
  | [.int a, .int b_] => F n a b_ (fun v1 => κ ⟨[.int .i64 v1], []⟩)
  | _ => none
def impl_mod_run {α : Type} (n : Nat) (p : List P1) (κ : Res → Option α) : Option α := impl_mod_runG impl_mod n p κ
def impl_mod_CG {α : Type} (F0 : Nat → Int → Int → (Int → Option α) → Option α) (n : Nat) : FuncId → List D → (Res → Option α) → Option α := tabC [(112, (byShape impl_floor_sh (impl_floor_runG F0 n)))]
def impl_mod_C {α : Type} (n : Nat) : FuncId → List D → (Res → Option α) → Option α := impl_mod_CG impl_floor n
def impl_mod_M : FuncId → List Nat := tabM []
def impl_mod_lpsG {α : Type}  : List (LoopT α) := []
def impl_mod_lps {α : Type} : List (LoopT α) := impl_mod_lpsG
def impl_mod_XG {α : Type} (F0 : Nat → Int → Int → (Int → Option α) → Option α)  (n : Nat) : Ctx α := ⟨impl_mod_CG F0 n, impl_mod_M, eqs, lpOf (impl_mod_lpsG) n⟩
def impl_mod_X {α : Type} (n : Nat) : Ctx α := impl_mod_XG impl_floor n
def impl_mod_Lt (np : Nat) (lent : List (Bool × Nat × Blk)) : Prop := np = 2 ∧ lent = []
def impl_mod_body {α : Type} (F0 : Nat → Int → Int → (Int → Option α) → Option α)  (k : Nat) (a : Int) (b_ : Int) (r0 : Int → Option α) : Option α :=
  F0 k a b_ fun v =>
  r0 (w64 (a - (w64 (b_ * v))))
theorem impl_mod_gen {α : Type} (F0 : Nat → Int → Int → (Int → Option α) → Option α)  (n : Nat) (a : Int) (b_ : Int) (κ : Res → Option α) : evFn Try.prog (impl_mod_XG F0 n) Try.f99 (((buildDs impl_mod_sh [.int a, .int b_]).map Prod.fst).getD []) κ = impl_mod_body F0 n a b_ (fun v1 => κ ⟨[.int .i64 v1], []⟩) := by kernel_rfl
theorem impl_mod_ev {α : Type} (n : Nat) (a : Int) (b_ : Int) (κ : Res → Option α) : evFn Try.prog (impl_mod_X n) Try.f99 (((buildDs impl_mod_sh [.int a, .int b_]).map Prod.fst).getD []) κ = impl_mod_run n [.int a, .int b_] κ := (impl_mod_gen impl_floor n a b_ κ).trans (by kernel_rfl)
theorem impl_mod_en (a : Int) (b_ : Int) : (entry 0 (((buildDs impl_mod_sh [.int a, .int b_]).map Prod.fst).getD [])).map (fun x => (x.1.length, x.2.lent)) = some (2, []) := by kernel_rfl
theorem impl_mod_good {α : Type} : ∀ n, GoodFn (α := α) Try.prog 99 (byShape impl_mod_sh (impl_mod_run n)) := by
  refine fn_good' Try.func99 (c := (Try.f99.body.getD .skip)) (by kernel_rfl) (by kernel_rfl) (by kernel_rfl) impl_mod_C impl_mod_M eqs impl_mod_lps (fun n => tabC_good (List.forall_mem_cons.2 ⟨(impl_floor_good n), (fun _ h => absurd h List.not_mem_nil)⟩)) eqs_ok impl_mod_Lt ?_ ?_ impl_mod_sh impl_mod_run ?_
  · exact (fun _ h => absurd h List.not_mem_nil)
  · exact (fun _ h => absurd h List.not_mem_nil)
  · intro n p κ r ds hd hr
    have hr0 := hr
    unfold impl_mod_run impl_mod_runG at hr
    split at hr
    · rw [← ds_of hd]
      exact ⟨en_of (impl_mod_en _ _) ⟨rfl, rfl⟩, (impl_mod_ev n _ _ κ).trans hr0⟩
    · cases hr

/-! loop.example/g01297/impl.near -/
def impl_near_sh : List SkD := [.int .i64, .int .i64]
def impl_near_runG {α : Type} (F : Nat → Int → Int → (Int → Option α) → Option α) (n : Nat) (p : List P1) (κ : Res → Option α) : Option α := match p with
  | [.int k_, .int q_] => F n k_ q_ (fun v1 => κ ⟨[.int .i64 v1], []⟩)
  | _ => none
def impl_near_run {α : Type} (n : Nat) (p : List P1) (κ : Res → Option α) : Option α := impl_near_runG impl_near n p κ
def impl_near_CG {α : Type} (F0 : Nat → Int → Int → (Int → Option α) → Option α) (n : Nat) : FuncId → List D → (Res → Option α) → Option α := tabC [(99, (byShape impl_mod_sh (impl_mod_runG F0 n)))]
def impl_near_C {α : Type} (n : Nat) : FuncId → List D → (Res → Option α) → Option α := impl_near_CG impl_mod n
def impl_near_M : FuncId → List Nat := tabM []
def impl_near_lpsG {α : Type}  : List (LoopT α) := []
def impl_near_lps {α : Type} : List (LoopT α) := impl_near_lpsG
def impl_near_XG {α : Type} (F0 : Nat → Int → Int → (Int → Option α) → Option α)  (n : Nat) : Ctx α := ⟨impl_near_CG F0 n, impl_near_M, eqs, lpOf (impl_near_lpsG) n⟩
def impl_near_X {α : Type} (n : Nat) : Ctx α := impl_near_XG impl_mod n
def impl_near_Lt (np : Nat) (lent : List (Bool × Nat × Blk)) : Prop := np = 2 ∧ lent = []
def impl_near_body {α : Type} (F0 : Nat → Int → Int → (Int → Option α) → Option α)  (k : Nat) (k_ : Int) (q_ : Int) (r0 : Int → Option α) : Option α :=
  F0 k k_ q_ fun v =>
  F0 k k_ q_ fun v1 =>
  r0 (min v (w64 (q_ - v1)))
theorem impl_near_gen {α : Type} (F0 : Nat → Int → Int → (Int → Option α) → Option α)  (n : Nat) (k_ : Int) (q_ : Int) (κ : Res → Option α) : evFn Try.prog (impl_near_XG F0 n) Try.f63 (((buildDs impl_near_sh [.int k_, .int q_]).map Prod.fst).getD []) κ = impl_near_body F0 n k_ q_ (fun v1 => κ ⟨[.int .i64 v1], []⟩) := by kernel_rfl
theorem impl_near_ev {α : Type} (n : Nat) (k_ : Int) (q_ : Int) (κ : Res → Option α) : evFn Try.prog (impl_near_X n) Try.f63 (((buildDs impl_near_sh [.int k_, .int q_]).map Prod.fst).getD []) κ = impl_near_run n [.int k_, .int q_] κ := (impl_near_gen impl_mod n k_ q_ κ).trans (by kernel_rfl)
theorem impl_near_en (k_ : Int) (q_ : Int) : (entry 0 (((buildDs impl_near_sh [.int k_, .int q_]).map Prod.fst).getD [])).map (fun x => (x.1.length, x.2.lent)) = some (2, []) := by kernel_rfl
theorem impl_near_good {α : Type} : ∀ n, GoodFn (α := α) Try.prog 63 (byShape impl_near_sh (impl_near_run n)) := by
  refine fn_good' Try.func63 (c := (Try.f63.body.getD .skip)) (by kernel_rfl) (by kernel_rfl) (by kernel_rfl) impl_near_C impl_near_M eqs impl_near_lps (fun n => tabC_good (List.forall_mem_cons.2 ⟨(impl_mod_good n), (fun _ h => absurd h List.not_mem_nil)⟩)) eqs_ok impl_near_Lt ?_ ?_ impl_near_sh impl_near_run ?_
  · exact (fun _ h => absurd h List.not_mem_nil)
  · exact (fun _ h => absurd h List.not_mem_nil)
  · intro n p κ r ds hd hr
    have hr0 := hr
    unfold impl_near_run impl_near_runG at hr
    split at hr
    · rw [← ds_of hd]
      exact ⟨en_of (impl_near_en _ _) ⟨rfl, rfl⟩, (impl_near_ev n _ _ κ).trans hr0⟩
    · cases hr

/-! loop.example/g01297/impl.CommonRecords -/
def impl_CommonRecords_sh : List SkD := [.int .i64, .int .i64, .int .i64, .int .i64]
def impl_CommonRecords_runG {α : Type} (F : Nat → Int → Int → Int → Int → (Int → Option α) → (List Int → Int → Option α) → Option α) (n : Nat) (p : List P1) (κ : Res → Option α) : Option α := match p with
  | [.int p_, .int r_, .int q_, .int n_] => F n p_ r_ q_ n_ (fun v1 => κ ⟨[.nilsl, .int .i64 v1], []⟩) (fun v1 v2 => κ ⟨[.sl 2 (.int .i64) v1, .int .i64 v2], []⟩)
  | _ => none
def impl_CommonRecords_run {α : Type} (n : Nat) (p : List P1) (κ : Res → Option α) : Option α := impl_CommonRecords_runG impl_CommonRecords n p κ
def impl_CommonRecords_CG {α : Type} (F0 : Nat → Int → Int → Int → (Bool → Option α) → Option α) (F1 : Nat → Int → Int → (Bool → Option α) → Option α) (F2 : Nat → Int → Int → (Int → Option α) → Option α) (n : Nat) : FuncId → List D → (Res → Option α) → Option α := tabC [(61, (byShape impl_bestOk_sh (impl_bestOk_runG F0 n))), (62, (byShape impl_ratioOk_sh (impl_ratioOk_runG F1 n))), (63, (byShape impl_near_sh (impl_near_runG F2 n)))]
def impl_CommonRecords_C {α : Type} (n : Nat) : FuncId → List D → (Res → Option α) → Option α := impl_CommonRecords_CG impl_bestOk impl_ratioOk impl_near n
def impl_CommonRecords_M : FuncId → List Nat := tabM []
def impl_CommonRecords_t5 : Tpl := ⟨[.int .i64, .int .i64, .int .i64, .int .i64, .any, .any, .any, .any, .any, .any, .sl 1600, .int .i64, .int .i64, .any, .any, .any, .any, .any, .any, .any, .any, .any, .any, .any, .any, .any, .any, .any, .any, .any, .any, .any, .any, .any, .any, .any, .any, .any, .any, .any, .any, .any, .any, .any, .any, .any, .any, .any, .any, .any, .any, .any, .any], [(1600, .rows 2 2 (.int .i64))], []⟩
def impl_CommonRecords_uG5 {α : Type} (G : Nat → Int → Int → Int → Int → Int → Int → List Int → (Int → Int → Int → Int → Int → Int → List Int → Option α) → (Int → Option α) → (List Int → Int → Option α) → Option α) (n : Nat) (p : List P1) (brk : Nat → List P1 → Option α) (ret : Res → Option α) : Option α := match p with
  | [.int p_1, .int r_1, .int q_1, .int n_1, .int best, .int k_, .rows (.int .i64) out] => G n p_1 r_1 q_1 n_1 best k_ out (fun p_1 r_1 q_1 n_1 best k_ out => brk 0 [.int p_1, .int r_1, .int q_1, .int n_1, .int best, .int k_, .rows (.int .i64) out]) (fun v1 => ret ⟨[.nilsl, .int .i64 v1], []⟩) (fun v1 v2 => ret ⟨[.sl 2 (.int .i64) v1, .int .i64 v2], []⟩)
  | _ => none
def impl_CommonRecords_u5 {α : Type} (n : Nat) (p : List P1) (brk : Nat → List P1 → Option α) (ret : Res → Option α) : Option α := impl_CommonRecords_uG5 impl_CommonRecords_l5 n p brk ret
def impl_CommonRecords_lpsG {α : Type} (G5 : Nat → Int → Int → Int → Int → Int → Int → List Int → (Int → Int → Int → Int → Int → Int → List Int → Option α) → (Int → Option α) → (List Int → Int → Option α) → Option α) : List (LoopT α) := [⟨5, impl_CommonRecords_t5, impl_CommonRecords_uG5 G5⟩]
def impl_CommonRecords_lps {α : Type} : List (LoopT α) := impl_CommonRecords_lpsG impl_CommonRecords_l5
def impl_CommonRecords_XG {α : Type} (F0 : Nat → Int → Int → Int → (Bool → Option α) → Option α) (F1 : Nat → Int → Int → (Bool → Option α) → Option α) (F2 : Nat → Int → Int → (Int → Option α) → Option α) (G5 : Nat → Int → Int → Int → Int → Int → Int → List Int → (Int → Int → Int → Int → Int → Int → List Int → Option α) → (Int → Option α) → (List Int → Int → Option α) → Option α) (n : Nat) : Ctx α := ⟨impl_CommonRecords_CG F0 F1 F2 n, impl_CommonRecords_M, eqs, lpOf (impl_CommonRecords_lpsG G5) n⟩
def impl_CommonRecords_X {α : Type} (n : Nat) : Ctx α := impl_CommonRecords_XG impl_bestOk impl_ratioOk impl_near impl_CommonRecords_l5 n
def impl_CommonRecords_Lt (np : Nat) (lent : List (Bool × Nat × Blk)) : Prop := np = 4 ∧ lent = []
def impl_CommonRecords_lb5 {α : Type} (F0 : Nat → Int → Int → Int → (Bool → Option α) → Option α) (F1 : Nat → Int → Int → (Bool → Option α) → Option α) (F2 : Nat → Int → Int → (Int → Option α) → Option α) (G5 : Nat → Int → Int → Int → Int → Int → Int → List Int → (Int → Int → Int → Int → Int → Int → List Int → Option α) → (Int → Option α) → (List Int → Int → Option α) → Option α) (k : Nat) (p_1 : Int) (r_1 : Int) (q_1 : Int) (n_1 : Int) (best : Int) (k_ : Int) (out : List Int) (b0 : Int → Int → Int → Int → Int → Int → List Int → Option α) (r0 : Int → Option α) (r1 : List Int → Int → Option α) : Option α :=
  bif decide (k_ ≤ n_1) then
    F2 k (w64 (k_ * p_1)) q_1 fun v2 =>
    F2 k (w64 (k_ * r_1)) q_1 fun v3 =>
    bif decide ((max v2 v3) < best) then
      bif decide (((List.length out) + 1) ≤ big) then
        G5 k p_1 r_1 q_1 n_1 (max v2 v3) (w64 (k_ + 1)) (out ++ [k_]) b0 r0 r1
      else
        none
    else
      G5 k p_1 r_1 q_1 n_1 best (w64 (k_ + 1)) out b0 r0 r1
  else
    b0 p_1 r_1 q_1 n_1 best k_ out
theorem impl_CommonRecords_l5_gen {α : Type} (F0 : Nat → Int → Int → Int → (Bool → Option α) → Option α) (F1 : Nat → Int → Int → (Bool → Option α) → Option α) (F2 : Nat → Int → Int → (Int → Option α) → Option α) (G5 : Nat → Int → Int → Int → Int → Int → Int → List Int → (Int → Int → Int → Int → Int → Int → List Int → Option α) → (Int → Option α) → (List Int → Int → Option α) → Option α) (n : Nat) (p_1 : Int) (r_1 : Int) (q_1 : Int) (n_1 : Int) (best : Int) (k_ : Int) (out : List Int) (brk : Nat → List P1 → Option α) (ret : Res → Option α) : ev ((impl_CommonRecords_XG F0 F1 F2 G5 n).env Try.prog Try.f21 4 []) (findLoop (loopsIn (Try.f21.body.getD .skip)) 5) ((impl_CommonRecords_t5.build [.int p_1, .int r_1, .int q_1, .int n_1, .int best, .int k_, .rows (.int .i64) out]).getD ⟨[], []⟩) (roundK (4 * 64) impl_CommonRecords_t5 (fun q => impl_CommonRecords_uG5 G5 n q brk ret) brk ret) = impl_CommonRecords_lb5 F0 F1 F2 G5 n p_1 r_1 q_1 n_1 best k_ out (fun p_1 r_1 q_1 n_1 best k_ out => brk 0 [.int p_1, .int r_1, .int q_1, .int n_1, .int best, .int k_, .rows (.int .i64) out]) (fun v1 => ret ⟨[.nilsl, .int .i64 v1], []⟩) (fun v1 v2 => ret ⟨[.sl 2 (.int .i64) v1, .int .i64 v2], []⟩) := by kernel_rfl
theorem impl_CommonRecords_l5_ev {α : Type} (n : Nat) (p_1 : Int) (r_1 : Int) (q_1 : Int) (n_1 : Int) (best : Int) (k_ : Int) (out : List Int) (brk : Nat → List P1 → Option α) (ret : Res → Option α) : ev ((impl_CommonRecords_X n).env Try.prog Try.f21 4 []) (findLoop (loopsIn (Try.f21.body.getD .skip)) 5) ((impl_CommonRecords_t5.build [.int p_1, .int r_1, .int q_1, .int n_1, .int best, .int k_, .rows (.int .i64) out]).getD ⟨[], []⟩) (roundK (4 * 64) impl_CommonRecords_t5 (fun q => impl_CommonRecords_u5 n q brk ret) brk ret) = impl_CommonRecords_u5 (n + 1) [.int p_1, .int r_1, .int q_1, .int n_1, .int best, .int k_, .rows (.int .i64) out] brk ret := (impl_CommonRecords_l5_gen impl_bestOk impl_ratioOk impl_near impl_CommonRecords_l5 n p_1 r_1 q_1 n_1 best k_ out brk ret).trans (by kernel_rfl)
def impl_CommonRecords_body {α : Type} (F0 : Nat → Int → Int → Int → (Bool → Option α) → Option α) (F1 : Nat → Int → Int → (Bool → Option α) → Option α) (F2 : Nat → Int → Int → (Int → Option α) → Option α) (G5 : Nat → Int → Int → Int → Int → Int → Int → List Int → (Int → Int → Int → Int → Int → Int → List Int → Option α) → (Int → Option α) → (List Int → Int → Option α) → Option α) (k : Nat) (p_ : Int) (r_ : Int) (q_ : Int) (n_ : Int) (r0 : Int → Option α) (r1 : List Int → Int → Option α) : Option α :=
  F0 k p_ q_ n_ fun v =>
  bif (!v) then
    r0 2
  else
    F1 k r_ q_ fun v1 =>
    bif (!v1) then
      r0 2
    else
      G5 k p_ r_ q_ n_ (w64 (q_ + 1)) 1 []
        (fun p_2 r_2 q_2 n_2 best1 k_1 out1 =>
          r1 out1 0)
        r0 r1
theorem impl_CommonRecords_gen {α : Type} (F0 : Nat → Int → Int → Int → (Bool → Option α) → Option α) (F1 : Nat → Int → Int → (Bool → Option α) → Option α) (F2 : Nat → Int → Int → (Int → Option α) → Option α) (G5 : Nat → Int → Int → Int → Int → Int → Int → List Int → (Int → Int → Int → Int → Int → Int → List Int → Option α) → (Int → Option α) → (List Int → Int → Option α) → Option α) (n : Nat) (p_ : Int) (r_ : Int) (q_ : Int) (n_ : Int) (κ : Res → Option α) : evFn Try.prog (impl_CommonRecords_XG F0 F1 F2 G5 n) Try.f21 (((buildDs impl_CommonRecords_sh [.int p_, .int r_, .int q_, .int n_]).map Prod.fst).getD []) κ = impl_CommonRecords_body F0 F1 F2 G5 n p_ r_ q_ n_ (fun v1 => κ ⟨[.nilsl, .int .i64 v1], []⟩) (fun v1 v2 => κ ⟨[.sl 2 (.int .i64) v1, .int .i64 v2], []⟩) := by kernel_rfl
theorem impl_CommonRecords_ev {α : Type} (n : Nat) (p_ : Int) (r_ : Int) (q_ : Int) (n_ : Int) (κ : Res → Option α) : evFn Try.prog (impl_CommonRecords_X n) Try.f21 (((buildDs impl_CommonRecords_sh [.int p_, .int r_, .int q_, .int n_]).map Prod.fst).getD []) κ = impl_CommonRecords_run n [.int p_, .int r_, .int q_, .int n_] κ := (impl_CommonRecords_gen impl_bestOk impl_ratioOk impl_near impl_CommonRecords_l5 n p_ r_ q_ n_ κ).trans (by kernel_rfl)
theorem impl_CommonRecords_en (p_ : Int) (r_ : Int) (q_ : Int) (n_ : Int) : (entry 0 (((buildDs impl_CommonRecords_sh [.int p_, .int r_, .int q_, .int n_]).map Prod.fst).getD [])).map (fun x => (x.1.length, x.2.lent)) = some (4, []) := by kernel_rfl
theorem impl_CommonRecords_good {α : Type} : ∀ n, GoodFn (α := α) Try.prog 21 (byShape impl_CommonRecords_sh (impl_CommonRecords_run n)) := by
  refine fn_good' Try.func21 (c := (Try.f21.body.getD .skip)) (by kernel_rfl) (by kernel_rfl) (by kernel_rfl) impl_CommonRecords_C impl_CommonRecords_M eqs impl_CommonRecords_lps (fun n => tabC_good (List.forall_mem_cons.2 ⟨(impl_bestOk_good n), (List.forall_mem_cons.2 ⟨(impl_ratioOk_good n), (List.forall_mem_cons.2 ⟨(impl_near_good n), (fun _ h => absurd h List.not_mem_nil)⟩)⟩)⟩)) eqs_ok impl_CommonRecords_Lt ?_ ?_ impl_CommonRecords_sh impl_CommonRecords_run ?_
  · refine List.forall_mem_cons.2 ⟨?_, (fun _ h => absurd h List.not_mem_nil)⟩
    · intro p brk ret; show impl_CommonRecords_u5 0 p brk ret = none; unfold impl_CommonRecords_u5 impl_CommonRecords_uG5; split <;> rfl
  · refine List.forall_mem_cons.2 ⟨?_, (fun _ h => absurd h List.not_mem_nil)⟩
    · intro np lent hL n p brk ret st r hb hr
      obtain ⟨rfl, rfl⟩ := hL
      rw [← tpl_of hb]
      change impl_CommonRecords_u5 (n + 1) p brk ret = some r at hr
      have hr0 := hr
      unfold impl_CommonRecords_u5 impl_CommonRecords_uG5 at hr
      split at hr
      · exact (impl_CommonRecords_l5_ev n _ _ _ _ _ _ _ brk ret).trans hr0
      · cases hr
  · intro n p κ r ds hd hr
    have hr0 := hr
    unfold impl_CommonRecords_run impl_CommonRecords_runG at hr
    split at hr
    · rw [← ds_of hd]
      exact ⟨en_of (impl_CommonRecords_en _ _ _ _) ⟨rfl, rfl⟩, (impl_CommonRecords_ev n _ _ _ _ κ).trans hr0⟩
    · cases hr

/-! loop.example/g01297/laws.eqInt64S -/
def laws_eqInt64S_0N_1N_sh : List SkD := [.nilsl, .nilsl]
def laws_eqInt64S_0N_1N_runG {α : Type} (F : Nat → (Bool → Option α) → Option α) (n : Nat) (p : List P1) (κ : Res → Option α) : Option α := match p with
  | [] => F n (fun v1 => κ ⟨[.bool v1], []⟩)
  | _ => none
def laws_eqInt64S_0N_1N_run {α : Type} (n : Nat) (p : List P1) (κ : Res → Option α) : Option α := laws_eqInt64S_0N_1N_runG laws_eqInt64S_0N_1N n p κ
def laws_eqInt64S_0N_1N_CG {α : Type}  (n : Nat) : FuncId → List D → (Res → Option α) → Option α := tabC []
def laws_eqInt64S_0N_1N_C {α : Type} (n : Nat) : FuncId → List D → (Res → Option α) → Option α := laws_eqInt64S_0N_1N_CG n
def laws_eqInt64S_0N_1N_M : FuncId → List Nat := tabM []
def laws_eqInt64S_0N_1N_lpsG {α : Type}  : List (LoopT α) := []
def laws_eqInt64S_0N_1N_lps {α : Type} : List (LoopT α) := laws_eqInt64S_0N_1N_lpsG
def laws_eqInt64S_0N_1N_XG {α : Type}   (n : Nat) : Ctx α := ⟨laws_eqInt64S_0N_1N_CG n, laws_eqInt64S_0N_1N_M, eqs, lpOf (laws_eqInt64S_0N_1N_lpsG) n⟩
def laws_eqInt64S_0N_1N_X {α : Type} (n : Nat) : Ctx α := laws_eqInt64S_0N_1N_XG n
def laws_eqInt64S_0N_1N_Lt (np : Nat) (lent : List (Bool × Nat × Blk)) : Prop := np = 2 ∧ lent = []
def laws_eqInt64S_0N_1N_body {α : Type}   (k : Nat)  (r0 : Bool → Option α) : Option α :=
  r0 true
theorem laws_eqInt64S_0N_1N_gen {α : Type}   (n : Nat)  (κ : Res → Option α) : evFn Try.prog (laws_eqInt64S_0N_1N_XG n) Try.f22 (((buildDs laws_eqInt64S_0N_1N_sh []).map Prod.fst).getD []) κ = laws_eqInt64S_0N_1N_body n (fun v1 => κ ⟨[.bool v1], []⟩) := by kernel_rfl
theorem laws_eqInt64S_0N_1N_ev {α : Type} (n : Nat)  (κ : Res → Option α) : evFn Try.prog (laws_eqInt64S_0N_1N_X n) Try.f22 (((buildDs laws_eqInt64S_0N_1N_sh []).map Prod.fst).getD []) κ = laws_eqInt64S_0N_1N_run n [] κ := (laws_eqInt64S_0N_1N_gen n κ).trans (by kernel_rfl)
theorem laws_eqInt64S_0N_1N_en  : (entry 0 (((buildDs laws_eqInt64S_0N_1N_sh []).map Prod.fst).getD [])).map (fun x => (x.1.length, x.2.lent)) = some (2, []) := by kernel_rfl
theorem laws_eqInt64S_0N_1N_good {α : Type} : ∀ n, GoodFn (α := α) Try.prog 22 (byShape laws_eqInt64S_0N_1N_sh (laws_eqInt64S_0N_1N_run n)) := by
  refine fn_good' Try.func22 (c := (Try.f22.body.getD .skip)) (by kernel_rfl) (by kernel_rfl) (by kernel_rfl) laws_eqInt64S_0N_1N_C laws_eqInt64S_0N_1N_M eqs laws_eqInt64S_0N_1N_lps (fun n => tabC_good (fun _ h => absurd h List.not_mem_nil)) eqs_ok laws_eqInt64S_0N_1N_Lt ?_ ?_ laws_eqInt64S_0N_1N_sh laws_eqInt64S_0N_1N_run ?_
  · exact (fun _ h => absurd h List.not_mem_nil)
  · exact (fun _ h => absurd h List.not_mem_nil)
  · intro n p κ r ds hd hr
    have hr0 := hr
    unfold laws_eqInt64S_0N_1N_run laws_eqInt64S_0N_1N_runG at hr
    split at hr
    · rw [← ds_of hd]
      exact ⟨en_of (laws_eqInt64S_0N_1N_en) ⟨rfl, rfl⟩, (laws_eqInt64S_0N_1N_ev n κ).trans hr0⟩
    · cases hr

/-! loop.example/g01297/laws.markInt64S -/
def laws_markInt64S_0N_sh : List SkD := [.nilsl, .int .i64]
def laws_markInt64S_0N_runG {α : Type} (F : Nat → Int → (Int → Option α) → Option α) (n : Nat) (p : List P1) (κ : Res → Option α) : Option α := match p with
  | [.int k_] => F n k_ (fun v1 => κ ⟨[.int .i64 v1], []⟩)
  | _ => none
def laws_markInt64S_0N_run {α : Type} (n : Nat) (p : List P1) (κ : Res → Option α) : Option α := laws_markInt64S_0N_runG laws_markInt64S_0N n p κ
def laws_markInt64S_0N_CG {α : Type}  (n : Nat) : FuncId → List D → (Res → Option α) → Option α := tabC []
def laws_markInt64S_0N_C {α : Type} (n : Nat) : FuncId → List D → (Res → Option α) → Option α := laws_markInt64S_0N_CG n
def laws_markInt64S_0N_M : FuncId → List Nat := tabM []
def laws_markInt64S_0N_lpsG {α : Type}  : List (LoopT α) := []
def laws_markInt64S_0N_lps {α : Type} : List (LoopT α) := laws_markInt64S_0N_lpsG
def laws_markInt64S_0N_XG {α : Type}   (n : Nat) : Ctx α := ⟨laws_markInt64S_0N_CG n, laws_markInt64S_0N_M, eqs, lpOf (laws_markInt64S_0N_lpsG) n⟩
def laws_markInt64S_0N_X {α : Type} (n : Nat) : Ctx α := laws_markInt64S_0N_XG n
def laws_markInt64S_0N_Lt (np : Nat) (lent : List (Bool × Nat × Blk)) : Prop := np = 2 ∧ lent = []
def laws_markInt64S_0N_body {α : Type}   (k : Nat) (k_ : Int) (r0 : Int → Option α) : Option α :=
  r0 k_
theorem laws_markInt64S_0N_gen {α : Type}   (n : Nat) (k_ : Int) (κ : Res → Option α) : evFn Try.prog (laws_markInt64S_0N_XG n) Try.f23 (((buildDs laws_markInt64S_0N_sh [.int k_]).map Prod.fst).getD []) κ = laws_markInt64S_0N_body n k_ (fun v1 => κ ⟨[.int .i64 v1], []⟩) := by kernel_rfl
theorem laws_markInt64S_0N_ev {α : Type} (n : Nat) (k_ : Int) (κ : Res → Option α) : evFn Try.prog (laws_markInt64S_0N_X n) Try.f23 (((buildDs laws_markInt64S_0N_sh [.int k_]).map Prod.fst).getD []) κ = laws_markInt64S_0N_run n [.int k_] κ := (laws_markInt64S_0N_gen n k_ κ).trans (by kernel_rfl)
theorem laws_markInt64S_0N_en (k_ : Int) : (entry 0 (((buildDs laws_markInt64S_0N_sh [.int k_]).map Prod.fst).getD [])).map (fun x => (x.1.length, x.2.lent)) = some (2, []) := by kernel_rfl
theorem laws_markInt64S_0N_good {α : Type} : ∀ n, GoodFn (α := α) Try.prog 23 (byShape laws_markInt64S_0N_sh (laws_markInt64S_0N_run n)) := by
  refine fn_good' Try.func23 (c := (Try.f23.body.getD .skip)) (by kernel_rfl) (by kernel_rfl) (by kernel_rfl) laws_markInt64S_0N_C laws_markInt64S_0N_M eqs laws_markInt64S_0N_lps (fun n => tabC_good (fun _ h => absurd h List.not_mem_nil)) eqs_ok laws_markInt64S_0N_Lt ?_ ?_ laws_markInt64S_0N_sh laws_markInt64S_0N_run ?_
  · exact (fun _ h => absurd h List.not_mem_nil)
  · exact (fun _ h => absurd h List.not_mem_nil)
  · intro n p κ r ds hd hr
    have hr0 := hr
    unfold laws_markInt64S_0N_run laws_markInt64S_0N_runG at hr
    split at hr
    · rw [← ds_of hd]
      exact ⟨en_of (laws_markInt64S_0N_en _) ⟨rfl, rfl⟩, (laws_markInt64S_0N_ev n _ κ).trans hr0⟩
    · cases hr

/-! loop.example/g01297/laws.heldInt64S -/
def laws_heldInt64S_0N_sh : List SkD := [.nilsl, .int .i64]
def laws_heldInt64S_0N_runG {α : Type} (F : Nat → Int → (Int → Option α) → Option α) (n : Nat) (p : List P1) (κ : Res → Option α) : Option α := match p with
  | [.int k_] => F n k_ (fun v1 => κ ⟨[.int .i64 v1], []⟩)
  | _ => none
def laws_heldInt64S_0N_run {α : Type} (n : Nat) (p : List P1) (κ : Res → Option α) : Option α := laws_heldInt64S_0N_runG laws_heldInt64S_0N n p κ
def laws_heldInt64S_0N_CG {α : Type}  (n : Nat) : FuncId → List D → (Res → Option α) → Option α := tabC []
def laws_heldInt64S_0N_C {α : Type} (n : Nat) : FuncId → List D → (Res → Option α) → Option α := laws_heldInt64S_0N_CG n
def laws_heldInt64S_0N_M : FuncId → List Nat := tabM []
def laws_heldInt64S_0N_lpsG {α : Type}  : List (LoopT α) := []
def laws_heldInt64S_0N_lps {α : Type} : List (LoopT α) := laws_heldInt64S_0N_lpsG
def laws_heldInt64S_0N_XG {α : Type}   (n : Nat) : Ctx α := ⟨laws_heldInt64S_0N_CG n, laws_heldInt64S_0N_M, eqs, lpOf (laws_heldInt64S_0N_lpsG) n⟩
def laws_heldInt64S_0N_X {α : Type} (n : Nat) : Ctx α := laws_heldInt64S_0N_XG n
def laws_heldInt64S_0N_Lt (np : Nat) (lent : List (Bool × Nat × Blk)) : Prop := np = 2 ∧ lent = []
def laws_heldInt64S_0N_body {α : Type}   (k : Nat) (k_ : Int) (r0 : Int → Option α) : Option α :=
  r0 k_
theorem laws_heldInt64S_0N_gen {α : Type}   (n : Nat) (k_ : Int) (κ : Res → Option α) : evFn Try.prog (laws_heldInt64S_0N_XG n) Try.f24 (((buildDs laws_heldInt64S_0N_sh [.int k_]).map Prod.fst).getD []) κ = laws_heldInt64S_0N_body n k_ (fun v1 => κ ⟨[.int .i64 v1], []⟩) := by kernel_rfl
theorem laws_heldInt64S_0N_ev {α : Type} (n : Nat) (k_ : Int) (κ : Res → Option α) : evFn Try.prog (laws_heldInt64S_0N_X n) Try.f24 (((buildDs laws_heldInt64S_0N_sh [.int k_]).map Prod.fst).getD []) κ = laws_heldInt64S_0N_run n [.int k_] κ := (laws_heldInt64S_0N_gen n k_ κ).trans (by kernel_rfl)
theorem laws_heldInt64S_0N_en (k_ : Int) : (entry 0 (((buildDs laws_heldInt64S_0N_sh [.int k_]).map Prod.fst).getD [])).map (fun x => (x.1.length, x.2.lent)) = some (2, []) := by kernel_rfl
theorem laws_heldInt64S_0N_good {α : Type} : ∀ n, GoodFn (α := α) Try.prog 24 (byShape laws_heldInt64S_0N_sh (laws_heldInt64S_0N_run n)) := by
  refine fn_good' Try.func24 (c := (Try.f24.body.getD .skip)) (by kernel_rfl) (by kernel_rfl) (by kernel_rfl) laws_heldInt64S_0N_C laws_heldInt64S_0N_M eqs laws_heldInt64S_0N_lps (fun n => tabC_good (fun _ h => absurd h List.not_mem_nil)) eqs_ok laws_heldInt64S_0N_Lt ?_ ?_ laws_heldInt64S_0N_sh laws_heldInt64S_0N_run ?_
  · exact (fun _ h => absurd h List.not_mem_nil)
  · exact (fun _ h => absurd h List.not_mem_nil)
  · intro n p κ r ds hd hr
    have hr0 := hr
    unfold laws_heldInt64S_0N_run laws_heldInt64S_0N_runG at hr
    split at hr
    · rw [← ds_of hd]
      exact ⟨en_of (laws_heldInt64S_0N_en _) ⟨rfl, rfl⟩, (laws_heldInt64S_0N_ev n _ κ).trans hr0⟩
    · cases hr

/-! loop.example/g01297/laws.eqInt64S -/
def laws_eqInt64S_1N_sh : List SkD := [.sl 2 (.int .i64), .nilsl]
def laws_eqInt64S_1N_runG {α : Type} (F : Nat → List Int → (Bool → Option α) → Option α) (n : Nat) (p : List P1) (κ : Res → Option α) : Option α := match p with
  | [.rows (.int .i64) a] => F n a (fun v1 => κ ⟨[.bool v1], []⟩)
  | _ => none
def laws_eqInt64S_1N_run {α : Type} (n : Nat) (p : List P1) (κ : Res → Option α) : Option α := laws_eqInt64S_1N_runG laws_eqInt64S_1N n p κ
def laws_eqInt64S_1N_CG {α : Type}  (n : Nat) : FuncId → List D → (Res → Option α) → Option α := tabC []
def laws_eqInt64S_1N_C {α : Type} (n : Nat) : FuncId → List D → (Res → Option α) → Option α := laws_eqInt64S_1N_CG n
def laws_eqInt64S_1N_M : FuncId → List Nat := tabM []
def laws_eqInt64S_1N_t4 : Tpl := ⟨[.sl 0, .nilsl, .any, .any, .any, .int .i64, .any, .any, .any, .any, .any, .any, .any, .any, .any, .any, .any, .any, .any, .any, .any, .any, .any, .any, .any, .any], [(0, .rows 0 2 (.int .i64))], []⟩
def laws_eqInt64S_1N_uG4 {α : Type} (G : Nat → Int → List Int → (Int → List Int → Option α) → (Bool → Option α) → Option α) (n : Nat) (p : List P1) (brk : Nat → List P1 → Option α) (ret : Res → Option α) : Option α := match p with
  | [.int i, .rows (.int .i64) a1] => G n i a1 (fun i a1 => brk 0 [.int i, .rows (.int .i64) a1]) (fun v1 => ret ⟨[.bool v1], []⟩)
  | _ => none
def laws_eqInt64S_1N_u4 {α : Type} (n : Nat) (p : List P1) (brk : Nat → List P1 → Option α) (ret : Res → Option α) : Option α := laws_eqInt64S_1N_uG4 laws_eqInt64S_1N_l4 n p brk ret
def laws_eqInt64S_1N_lpsG {α : Type} (G4 : Nat → Int → List Int → (Int → List Int → Option α) → (Bool → Option α) → Option α) : List (LoopT α) := [⟨4, laws_eqInt64S_1N_t4, laws_eqInt64S_1N_uG4 G4⟩]
def laws_eqInt64S_1N_lps {α : Type} : List (LoopT α) := laws_eqInt64S_1N_lpsG laws_eqInt64S_1N_l4
def laws_eqInt64S_1N_XG {α : Type}  (G4 : Nat → Int → List Int → (Int → List Int → Option α) → (Bool → Option α) → Option α) (n : Nat) : Ctx α := ⟨laws_eqInt64S_1N_CG n, laws_eqInt64S_1N_M, eqs, lpOf (laws_eqInt64S_1N_lpsG G4) n⟩
def laws_eqInt64S_1N_X {α : Type} (n : Nat) : Ctx α := laws_eqInt64S_1N_XG laws_eqInt64S_1N_l4 n
def laws_eqInt64S_1N_Lt (np : Nat) (lent : List (Bool × Nat × Blk)) : Prop := np = 2 ∧ lent = []
def laws_eqInt64S_1N_lb4 {α : Type}  (G4 : Nat → Int → List Int → (Int → List Int → Option α) → (Bool → Option α) → Option α) (k : Nat) (i : Int) (a1 : List Int) (b0 : Int → List Int → Option α) (r0 : Bool → Option α) : Option α :=
  bif decide (i < (((List.length a1) : Nat) : Int)) then
    bif (decide (0 ≤ i) && decide (i < (((List.length a1) : Nat) : Int))) then
      (a1[i.toNat]?).bind fun e_ =>
      none
    else
      none
  else
    b0 i a1
theorem laws_eqInt64S_1N_l4_gen {α : Type}  (G4 : Nat → Int → List Int → (Int → List Int → Option α) → (Bool → Option α) → Option α) (n : Nat) (i : Int) (a1 : List Int) (brk : Nat → List P1 → Option α) (ret : Res → Option α) : ev ((laws_eqInt64S_1N_XG G4 n).env Try.prog Try.f22 2 []) (findLoop (loopsIn (Try.f22.body.getD .skip)) 4) ((laws_eqInt64S_1N_t4.build [.int i, .rows (.int .i64) a1]).getD ⟨[], []⟩) (roundK (2 * 64) laws_eqInt64S_1N_t4 (fun q => laws_eqInt64S_1N_uG4 G4 n q brk ret) brk ret) = laws_eqInt64S_1N_lb4 G4 n i a1 (fun i a1 => brk 0 [.int i, .rows (.int .i64) a1]) (fun v1 => ret ⟨[.bool v1], []⟩) := by kernel_rfl
theorem laws_eqInt64S_1N_l4_ev {α : Type} (n : Nat) (i : Int) (a1 : List Int) (brk : Nat → List P1 → Option α) (ret : Res → Option α) : ev ((laws_eqInt64S_1N_X n).env Try.prog Try.f22 2 []) (findLoop (loopsIn (Try.f22.body.getD .skip)) 4) ((laws_eqInt64S_1N_t4.build [.int i, .rows (.int .i64) a1]).getD ⟨[], []⟩) (roundK (2 * 64) laws_eqInt64S_1N_t4 (fun q => laws_eqInt64S_1N_u4 n q brk ret) brk ret) = laws_eqInt64S_1N_u4 (n + 1) [.int i, .rows (.int .i64) a1] brk ret := (laws_eqInt64S_1N_l4_gen laws_eqInt64S_1N_l4 n i a1 brk ret).trans (by kernel_rfl)
def laws_eqInt64S_1N_body {α : Type}  (G4 : Nat → Int → List Int → (Int → List Int → Option α) → (Bool → Option α) → Option α) (k : Nat) (a : List Int) (r0 : Bool → Option α) : Option α :=
  bif (!decide ((((List.length a) : Nat) : Int) = 0)) then
    r0 false
  else
    G4 k 0 a
      (fun i1 a2 =>
        r0 true)
      r0
theorem laws_eqInt64S_1N_gen {α : Type}  (G4 : Nat → Int → List Int → (Int → List Int → Option α) → (Bool → Option α) → Option α) (n : Nat) (a : List Int) (κ : Res → Option α) : evFn Try.prog (laws_eqInt64S_1N_XG G4 n) Try.f22 (((buildDs laws_eqInt64S_1N_sh [.rows (.int .i64) a]).map Prod.fst).getD []) κ = laws_eqInt64S_1N_body G4 n a (fun v1 => κ ⟨[.bool v1], []⟩) := by kernel_rfl
theorem laws_eqInt64S_1N_ev {α : Type} (n : Nat) (a : List Int) (κ : Res → Option α) : evFn Try.prog (laws_eqInt64S_1N_X n) Try.f22 (((buildDs laws_eqInt64S_1N_sh [.rows (.int .i64) a]).map Prod.fst).getD []) κ = laws_eqInt64S_1N_run n [.rows (.int .i64) a] κ := (laws_eqInt64S_1N_gen laws_eqInt64S_1N_l4 n a κ).trans (by kernel_rfl)
theorem laws_eqInt64S_1N_en (a : List Int) : (entry 0 (((buildDs laws_eqInt64S_1N_sh [.rows (.int .i64) a]).map Prod.fst).getD [])).map (fun x => (x.1.length, x.2.lent)) = some (2, []) := by kernel_rfl
theorem laws_eqInt64S_1N_good {α : Type} : ∀ n, GoodFn (α := α) Try.prog 22 (byShape laws_eqInt64S_1N_sh (laws_eqInt64S_1N_run n)) := by
  refine fn_good' Try.func22 (c := (Try.f22.body.getD .skip)) (by kernel_rfl) (by kernel_rfl) (by kernel_rfl) laws_eqInt64S_1N_C laws_eqInt64S_1N_M eqs laws_eqInt64S_1N_lps (fun n => tabC_good (fun _ h => absurd h List.not_mem_nil)) eqs_ok laws_eqInt64S_1N_Lt ?_ ?_ laws_eqInt64S_1N_sh laws_eqInt64S_1N_run ?_
  · refine List.forall_mem_cons.2 ⟨?_, (fun _ h => absurd h List.not_mem_nil)⟩
    · intro p brk ret; show laws_eqInt64S_1N_u4 0 p brk ret = none; unfold laws_eqInt64S_1N_u4 laws_eqInt64S_1N_uG4; split <;> rfl
  · refine List.forall_mem_cons.2 ⟨?_, (fun _ h => absurd h List.not_mem_nil)⟩
    · intro np lent hL n p brk ret st r hb hr
      obtain ⟨rfl, rfl⟩ := hL
      rw [← tpl_of hb]
      change laws_eqInt64S_1N_u4 (n + 1) p brk ret = some r at hr
      have hr0 := hr
      unfold laws_eqInt64S_1N_u4 laws_eqInt64S_1N_uG4 at hr
      split at hr
      · exact (laws_eqInt64S_1N_l4_ev n _ _ brk ret).trans hr0
      · cases hr
  · intro n p κ r ds hd hr
    have hr0 := hr
    unfold laws_eqInt64S_1N_run laws_eqInt64S_1N_runG at hr
    split at hr
    · rw [← ds_of hd]
      exact ⟨en_of (laws_eqInt64S_1N_en _) ⟨rfl, rfl⟩, (laws_eqInt64S_1N_ev n _ κ).trans hr0⟩
    · cases hr

/-! loop.example/g01297/laws.markInt64S -/
def laws_markInt64S_sh : List SkD := [.msl 2 (.int .i64), .int .i64]
def laws_markInt64S_runG {α : Type} (F : Nat → List Int → Int → (Int → List Int → Option α) → Option α) (n : Nat) (p : List P1) (κ : Res → Option α) : Option α := match p with
  | [.rows (.int .i64) a, .int k_] => F n a k_ (fun v1 v2 => κ ⟨[.int .i64 v1], [.sl 2 (.int .i64) v2]⟩)
  | _ => none
def laws_markInt64S_run {α : Type} (n : Nat) (p : List P1) (κ : Res → Option α) : Option α := laws_markInt64S_runG laws_markInt64S n p κ
def laws_markInt64S_CG {α : Type}  (n : Nat) : FuncId → List D → (Res → Option α) → Option α := tabC []
def laws_markInt64S_C {α : Type} (n : Nat) : FuncId → List D → (Res → Option α) → Option α := laws_markInt64S_CG n
def laws_markInt64S_M : FuncId → List Nat := tabM []
def laws_markInt64S_t2 : Tpl := ⟨[.sl 0, .int .i64, .any, .any, .any, .int .i64, .any, .any, .any, .any, .any, .any, .any, .any, .any, .any, .any, .any, .any], [(0, .rows 1 2 (.int .i64))], []⟩
def laws_markInt64S_uG2 {α : Type} (G : Nat → Int → Int → List Int → (Int → Int → List Int → Option α) → (Int → List Int → Option α) → Option α) (n : Nat) (p : List P1) (brk : Nat → List P1 → Option α) (ret : Res → Option α) : Option α := match p with
  | [.int k_1, .int i, .rows (.int .i64) a1] => G n k_1 i a1 (fun k_1 i a1 => brk 0 [.int k_1, .int i, .rows (.int .i64) a1]) (fun v1 v2 => ret ⟨[.int .i64 v1], [.sl 2 (.int .i64) v2]⟩)
  | _ => none
def laws_markInt64S_u2 {α : Type} (n : Nat) (p : List P1) (brk : Nat → List P1 → Option α) (ret : Res → Option α) : Option α := laws_markInt64S_uG2 laws_markInt64S_l2 n p brk ret
def laws_markInt64S_lpsG {α : Type} (G2 : Nat → Int → Int → List Int → (Int → Int → List Int → Option α) → (Int → List Int → Option α) → Option α) : List (LoopT α) := [⟨2, laws_markInt64S_t2, laws_markInt64S_uG2 G2⟩]
def laws_markInt64S_lps {α : Type} : List (LoopT α) := laws_markInt64S_lpsG laws_markInt64S_l2
def laws_markInt64S_XG {α : Type}  (G2 : Nat → Int → Int → List Int → (Int → Int → List Int → Option α) → (Int → List Int → Option α) → Option α) (n : Nat) : Ctx α := ⟨laws_markInt64S_CG n, laws_markInt64S_M, eqs, lpOf (laws_markInt64S_lpsG G2) n⟩
def laws_markInt64S_X {α : Type} (n : Nat) : Ctx α := laws_markInt64S_XG laws_markInt64S_l2 n
def laws_markInt64S_Lt (np : Nat) (lent : List (Bool × Nat × Blk)) : Prop := np = 2 ∧ ∃ (a : List Int), lent = [(true, 0, .rows 1 2 (.int .i64) a)]
def laws_markInt64S_lb2 {α : Type}  (G2 : Nat → Int → Int → List Int → (Int → Int → List Int → Option α) → (Int → List Int → Option α) → Option α) (k : Nat) (k_1 : Int) (i : Int) (a1 : List Int) (b0 : Int → Int → List Int → Option α) (r0 : Int → List Int → Option α) : Option α :=
  bif decide (i < (((List.length a1) : Nat) : Int)) then
    bif (decide (0 ≤ i) && decide (i < (((List.length a1) : Nat) : Int))) then
      (a1[i.toNat]?).bind fun _ =>
      G2 k (w64 (k_1 + 1)) (w64 (i + 1)) (List.set a1 i.toNat k_1) b0 r0
    else
      none
  else
    b0 k_1 i a1
theorem laws_markInt64S_l2_gen {α : Type}  (G2 : Nat → Int → Int → List Int → (Int → Int → List Int → Option α) → (Int → List Int → Option α) → Option α) (n : Nat) (a_0 : List Int) (k_1 : Int) (i : Int) (a1 : List Int) (brk : Nat → List P1 → Option α) (ret : Res → Option α) : ev ((laws_markInt64S_XG G2 n).env Try.prog Try.f23 2 [(true, 0, .rows 1 2 (.int .i64) a_0)]) (findLoop (loopsIn (Try.f23.body.getD .skip)) 2) ((laws_markInt64S_t2.build [.int k_1, .int i, .rows (.int .i64) a1]).getD ⟨[], []⟩) (roundK (2 * 64) laws_markInt64S_t2 (fun q => laws_markInt64S_uG2 G2 n q brk ret) brk ret) = laws_markInt64S_lb2 G2 n k_1 i a1 (fun k_1 i a1 => brk 0 [.int k_1, .int i, .rows (.int .i64) a1]) (fun v1 v2 => ret ⟨[.int .i64 v1], [.sl 2 (.int .i64) v2]⟩) := by kernel_rfl
theorem laws_markInt64S_l2_ev {α : Type} (n : Nat) (a_0 : List Int) (k_1 : Int) (i : Int) (a1 : List Int) (brk : Nat → List P1 → Option α) (ret : Res → Option α) : ev ((laws_markInt64S_X n).env Try.prog Try.f23 2 [(true, 0, .rows 1 2 (.int .i64) a_0)]) (findLoop (loopsIn (Try.f23.body.getD .skip)) 2) ((laws_markInt64S_t2.build [.int k_1, .int i, .rows (.int .i64) a1]).getD ⟨[], []⟩) (roundK (2 * 64) laws_markInt64S_t2 (fun q => laws_markInt64S_u2 n q brk ret) brk ret) = laws_markInt64S_u2 (n + 1) [.int k_1, .int i, .rows (.int .i64) a1] brk ret := (laws_markInt64S_l2_gen laws_markInt64S_l2 n a_0 k_1 i a1 brk ret).trans (by kernel_rfl)
def laws_markInt64S_body {α : Type}  (G2 : Nat → Int → Int → List Int → (Int → Int → List Int → Option α) → (Int → List Int → Option α) → Option α) (k : Nat) (a : List Int) (k_ : Int) (r0 : Int → List Int → Option α) : Option α :=
  G2 k k_ 0 a
    (fun k_2 i1 a2 =>
      r0 k_2 a2)
    r0
theorem laws_markInt64S_gen {α : Type}  (G2 : Nat → Int → Int → List Int → (Int → Int → List Int → Option α) → (Int → List Int → Option α) → Option α) (n : Nat) (a : List Int) (k_ : Int) (κ : Res → Option α) : evFn Try.prog (laws_markInt64S_XG G2 n) Try.f23 (((buildDs laws_markInt64S_sh [.rows (.int .i64) a, .int k_]).map Prod.fst).getD []) κ = laws_markInt64S_body G2 n a k_ (fun v1 v2 => κ ⟨[.int .i64 v1], [.sl 2 (.int .i64) v2]⟩) := by kernel_rfl
theorem laws_markInt64S_ev {α : Type} (n : Nat) (a : List Int) (k_ : Int) (κ : Res → Option α) : evFn Try.prog (laws_markInt64S_X n) Try.f23 (((buildDs laws_markInt64S_sh [.rows (.int .i64) a, .int k_]).map Prod.fst).getD []) κ = laws_markInt64S_run n [.rows (.int .i64) a, .int k_] κ := (laws_markInt64S_gen laws_markInt64S_l2 n a k_ κ).trans (by kernel_rfl)
theorem laws_markInt64S_en (a : List Int) (k_ : Int) : (entry 0 (((buildDs laws_markInt64S_sh [.rows (.int .i64) a, .int k_]).map Prod.fst).getD [])).map (fun x => (x.1.length, x.2.lent)) = some (2, [(true, 0, .rows 1 2 (.int .i64) a)]) := by kernel_rfl
theorem laws_markInt64S_good {α : Type} : ∀ n, GoodFn (α := α) Try.prog 23 (byShape laws_markInt64S_sh (laws_markInt64S_run n)) := by
  refine fn_good' Try.func23 (c := (Try.f23.body.getD .skip)) (by kernel_rfl) (by kernel_rfl) (by kernel_rfl) laws_markInt64S_C laws_markInt64S_M eqs laws_markInt64S_lps (fun n => tabC_good (fun _ h => absurd h List.not_mem_nil)) eqs_ok laws_markInt64S_Lt ?_ ?_ laws_markInt64S_sh laws_markInt64S_run ?_
  · refine List.forall_mem_cons.2 ⟨?_, (fun _ h => absurd h List.not_mem_nil)⟩
    · intro p brk ret; show laws_markInt64S_u2 0 p brk ret = none; unfold laws_markInt64S_u2 laws_markInt64S_uG2; split <;> rfl
  · refine List.forall_mem_cons.2 ⟨?_, (fun _ h => absurd h List.not_mem_nil)⟩
    · intro np lent hL n p brk ret st r hb hr
      obtain ⟨rfl, a_0, rfl⟩ := hL
      rw [← tpl_of hb]
      change laws_markInt64S_u2 (n + 1) p brk ret = some r at hr
      have hr0 := hr
      unfold laws_markInt64S_u2 laws_markInt64S_uG2 at hr
      split at hr
      · exact (laws_markInt64S_l2_ev n _ _ _ _ brk ret).trans hr0
      · cases hr
  · intro n p κ r ds hd hr
    have hr0 := hr
    unfold laws_markInt64S_run laws_markInt64S_runG at hr
    split at hr
    · rw [← ds_of hd]
      exact ⟨en_of (laws_markInt64S_en _ _) ⟨rfl, _, rfl⟩, (laws_markInt64S_ev n _ _ κ).trans hr0⟩
    · cases hr

/-! loop.example/g01297/laws.heldInt64S -/
def laws_heldInt64S_sh : List SkD := [.sl 2 (.int .i64), .int .i64]
def laws_heldInt64S_runG {α : Type} (F : Nat → List Int → Int → (Int → Option α) → Option α) (n : Nat) (p : List P1) (κ : Res → Option α) : Option α := match p with
  | [.rows (.int .i64) a, .int k_] => F n a k_ (fun v1 => κ ⟨[.int .i64 v1], []⟩)
  | _ => none
def laws_heldInt64S_run {α : Type} (n : Nat) (p : List P1) (κ : Res → Option α) : Option α := laws_heldInt64S_runG laws_heldInt64S n p κ
def laws_heldInt64S_CG {α : Type}  (n : Nat) : FuncId → List D → (Res → Option α) → Option α := tabC []
def laws_heldInt64S_C {α : Type} (n : Nat) : FuncId → List D → (Res → Option α) → Option α := laws_heldInt64S_CG n
def laws_heldInt64S_M : FuncId → List Nat := tabM []
def laws_heldInt64S_t2 : Tpl := ⟨[.sl 0, .int .i64, .any, .any, .any, .int .i64, .any, .any, .any, .any, .any, .any, .any, .any, .any, .any, .any, .any, .any, .any, .any], [(0, .rows 0 2 (.int .i64))], []⟩
def laws_heldInt64S_uG2 {α : Type} (G : Nat → Int → Int → List Int → (Int → Int → List Int → Option α) → (Int → Option α) → Option α) (n : Nat) (p : List P1) (brk : Nat → List P1 → Option α) (ret : Res → Option α) : Option α := match p with
  | [.int k_1, .int i, .rows (.int .i64) a1] => G n k_1 i a1 (fun k_1 i a1 => brk 0 [.int k_1, .int i, .rows (.int .i64) a1]) (fun v1 => ret ⟨[.int .i64 v1], []⟩)
  | _ => none
def laws_heldInt64S_u2 {α : Type} (n : Nat) (p : List P1) (brk : Nat → List P1 → Option α) (ret : Res → Option α) : Option α := laws_heldInt64S_uG2 laws_heldInt64S_l2 n p brk ret
def laws_heldInt64S_lpsG {α : Type} (G2 : Nat → Int → Int → List Int → (Int → Int → List Int → Option α) → (Int → Option α) → Option α) : List (LoopT α) := [⟨2, laws_heldInt64S_t2, laws_heldInt64S_uG2 G2⟩]
def laws_heldInt64S_lps {α : Type} : List (LoopT α) := laws_heldInt64S_lpsG laws_heldInt64S_l2
def laws_heldInt64S_XG {α : Type}  (G2 : Nat → Int → Int → List Int → (Int → Int → List Int → Option α) → (Int → Option α) → Option α) (n : Nat) : Ctx α := ⟨laws_heldInt64S_CG n, laws_heldInt64S_M, eqs, lpOf (laws_heldInt64S_lpsG G2) n⟩
def laws_heldInt64S_X {α : Type} (n : Nat) : Ctx α := laws_heldInt64S_XG laws_heldInt64S_l2 n
def laws_heldInt64S_Lt (np : Nat) (lent : List (Bool × Nat × Blk)) : Prop := np = 2 ∧ lent = []
def laws_heldInt64S_lb2 {α : Type}  (G2 : Nat → Int → Int → List Int → (Int → Int → List Int → Option α) → (Int → Option α) → Option α) (k : Nat) (k_1 : Int) (i : Int) (a1 : List Int) (b0 : Int → Int → List Int → Option α) (r0 : Int → Option α) : Option α :=
  bif decide (i < (((List.length a1) : Nat) : Int)) then
    bif (decide (0 ≤ i) && decide (i < (((List.length a1) : Nat) : Int))) then
      (a1[i.toNat]?).bind fun e_ =>
      bif (!decide (e_ = k_1)) then
        r0 (-1)
      else
        G2 k (w64 (k_1 + 1)) (w64 (i + 1)) a1 b0 r0
    else
      none
  else
    b0 k_1 i a1
theorem laws_heldInt64S_l2_gen {α : Type}  (G2 : Nat → Int → Int → List Int → (Int → Int → List Int → Option α) → (Int → Option α) → Option α) (n : Nat) (k_1 : Int) (i : Int) (a1 : List Int) (brk : Nat → List P1 → Option α) (ret : Res → Option α) : ev ((laws_heldInt64S_XG G2 n).env Try.prog Try.f24 2 []) (findLoop (loopsIn (Try.f24.body.getD .skip)) 2) ((laws_heldInt64S_t2.build [.int k_1, .int i, .rows (.int .i64) a1]).getD ⟨[], []⟩) (roundK (2 * 64) laws_heldInt64S_t2 (fun q => laws_heldInt64S_uG2 G2 n q brk ret) brk ret) = laws_heldInt64S_lb2 G2 n k_1 i a1 (fun k_1 i a1 => brk 0 [.int k_1, .int i, .rows (.int .i64) a1]) (fun v1 => ret ⟨[.int .i64 v1], []⟩) := by kernel_rfl
theorem laws_heldInt64S_l2_ev {α : Type} (n : Nat) (k_1 : Int) (i : Int) (a1 : List Int) (brk : Nat → List P1 → Option α) (ret : Res → Option α) : ev ((laws_heldInt64S_X n).env Try.prog Try.f24 2 []) (findLoop (loopsIn (Try.f24.body.getD .skip)) 2) ((laws_heldInt64S_t2.build [.int k_1, .int i, .rows (.int .i64) a1]).getD ⟨[], []⟩) (roundK (2 * 64) laws_heldInt64S_t2 (fun q => laws_heldInt64S_u2 n q brk ret) brk ret) = laws_heldInt64S_u2 (n + 1) [.int k_1, .int i, .rows (.int .i64) a1] brk ret := (laws_heldInt64S_l2_gen laws_heldInt64S_l2 n k_1 i a1 brk ret).trans (by kernel_rfl)
def laws_heldInt64S_body {α : Type}  (G2 : Nat → Int → Int → List Int → (Int → Int → List Int → Option α) → (Int → Option α) → Option α) (k : Nat) (a : List Int) (k_ : Int) (r0 : Int → Option α) : Option α :=
  G2 k k_ 0 a
    (fun k_2 i1 a2 =>
      r0 k_2)
    r0
theorem laws_heldInt64S_gen {α : Type}  (G2 : Nat → Int → Int → List Int → (Int → Int → List Int → Option α) → (Int → Option α) → Option α) (n : Nat) (a : List Int) (k_ : Int) (κ : Res → Option α) : evFn Try.prog (laws_heldInt64S_XG G2 n) Try.f24 (((buildDs laws_heldInt64S_sh [.rows (.int .i64) a, .int k_]).map Prod.fst).getD []) κ = laws_heldInt64S_body G2 n a k_ (fun v1 => κ ⟨[.int .i64 v1], []⟩) := by kernel_rfl
theorem laws_heldInt64S_ev {α : Type} (n : Nat) (a : List Int) (k_ : Int) (κ : Res → Option α) : evFn Try.prog (laws_heldInt64S_X n) Try.f24 (((buildDs laws_heldInt64S_sh [.rows (.int .i64) a, .int k_]).map Prod.fst).getD []) κ = laws_heldInt64S_run n [.rows (.int .i64) a, .int k_] κ := (laws_heldInt64S_gen laws_heldInt64S_l2 n a k_ κ).trans (by kernel_rfl)
theorem laws_heldInt64S_en (a : List Int) (k_ : Int) : (entry 0 (((buildDs laws_heldInt64S_sh [.rows (.int .i64) a, .int k_]).map Prod.fst).getD [])).map (fun x => (x.1.length, x.2.lent)) = some (2, []) := by kernel_rfl
theorem laws_heldInt64S_good {α : Type} : ∀ n, GoodFn (α := α) Try.prog 24 (byShape laws_heldInt64S_sh (laws_heldInt64S_run n)) := by
  refine fn_good' Try.func24 (c := (Try.f24.body.getD .skip)) (by kernel_rfl) (by kernel_rfl) (by kernel_rfl) laws_heldInt64S_C laws_heldInt64S_M eqs laws_heldInt64S_lps (fun n => tabC_good (fun _ h => absurd h List.not_mem_nil)) eqs_ok laws_heldInt64S_Lt ?_ ?_ laws_heldInt64S_sh laws_heldInt64S_run ?_
  · refine List.forall_mem_cons.2 ⟨?_, (fun _ h => absurd h List.not_mem_nil)⟩
    · intro p brk ret; show laws_heldInt64S_u2 0 p brk ret = none; unfold laws_heldInt64S_u2 laws_heldInt64S_uG2; split <;> rfl
  · refine List.forall_mem_cons.2 ⟨?_, (fun _ h => absurd h List.not_mem_nil)⟩
    · intro np lent hL n p brk ret st r hb hr
      obtain ⟨rfl, rfl⟩ := hL
      rw [← tpl_of hb]
      change laws_heldInt64S_u2 (n + 1) p brk ret = some r at hr
      have hr0 := hr
      unfold laws_heldInt64S_u2 laws_heldInt64S_uG2 at hr
      split at hr
      · exact (laws_heldInt64S_l2_ev n _ _ _ brk ret).trans hr0
      · cases hr
  · intro n p κ r ds hd hr
    have hr0 := hr
    unfold laws_heldInt64S_run laws_heldInt64S_runG at hr
    split at hr
    · rw [← ds_of hd]
      exact ⟨en_of (laws_heldInt64S_en _ _) ⟨rfl, rfl⟩, (laws_heldInt64S_ev n _ _ κ).trans hr0⟩
    · cases hr

/-! loop.example/g01297/laws.eqInt64S -/
def laws_eqInt64S_0N_sh : List SkD := [.nilsl, .sl 2 (.int .i64)]
def laws_eqInt64S_0N_runG {α : Type} (F : Nat → List Int → (Bool → Option α) → Option α) (n : Nat) (p : List P1) (κ : Res → Option α) : Option α := match p with
  | [.rows (.int .i64) b_] => F n b_ (fun v1 => κ ⟨[.bool v1], []⟩)
  | _ => none
def laws_eqInt64S_0N_run {α : Type} (n : Nat) (p : List P1) (κ : Res → Option α) : Option α := laws_eqInt64S_0N_runG laws_eqInt64S_0N n p κ
def laws_eqInt64S_0N_CG {α : Type}  (n : Nat) : FuncId → List D → (Res → Option α) → Option α := tabC []
def laws_eqInt64S_0N_C {α : Type} (n : Nat) : FuncId → List D → (Res → Option α) → Option α := laws_eqInt64S_0N_CG n
def laws_eqInt64S_0N_M : FuncId → List Nat := tabM []
def laws_eqInt64S_0N_lpsG {α : Type}  : List (LoopT α) := []
def laws_eqInt64S_0N_lps {α : Type} : List (LoopT α) := laws_eqInt64S_0N_lpsG
def laws_eqInt64S_0N_XG {α : Type}   (n : Nat) : Ctx α := ⟨laws_eqInt64S_0N_CG n, laws_eqInt64S_0N_M, eqs, lpOf (laws_eqInt64S_0N_lpsG) n⟩
def laws_eqInt64S_0N_X {α : Type} (n : Nat) : Ctx α := laws_eqInt64S_0N_XG n
def laws_eqInt64S_0N_Lt (np : Nat) (lent : List (Bool × Nat × Blk)) : Prop := np = 2 ∧ lent = []
def laws_eqInt64S_0N_body {α : Type}   (k : Nat) (b_ : List Int) (r0 : Bool → Option α) : Option α :=
  bif (!decide (0 = (((List.length b_) : Nat) : Int))) then
    r0 false
  else
    r0 true
theorem laws_eqInt64S_0N_gen {α : Type}   (n : Nat) (b_ : List Int) (κ : Res → Option α) : evFn Try.prog (laws_eqInt64S_0N_XG n) Try.f22 (((buildDs laws_eqInt64S_0N_sh [.rows (.int .i64) b_]).map Prod.fst).getD []) κ = laws_eqInt64S_0N_body n b_ (fun v1 => κ ⟨[.bool v1], []⟩) := by kernel_rfl
theorem laws_eqInt64S_0N_ev {α : Type} (n : Nat) (b_ : List Int) (κ : Res → Option α) : evFn Try.prog (laws_eqInt64S_0N_X n) Try.f22 (((buildDs laws_eqInt64S_0N_sh [.rows (.int .i64) b_]).map Prod.fst).getD []) κ = laws_eqInt64S_0N_run n [.rows (.int .i64) b_] κ := (laws_eqInt64S_0N_gen n b_ κ).trans (by kernel_rfl)
theorem laws_eqInt64S_0N_en (b_ : List Int) : (entry 0 (((buildDs laws_eqInt64S_0N_sh [.rows (.int .i64) b_]).map Prod.fst).getD [])).map (fun x => (x.1.length, x.2.lent)) = some (2, []) := by kernel_rfl
theorem laws_eqInt64S_0N_good {α : Type} : ∀ n, GoodFn (α := α) Try.prog 22 (byShape laws_eqInt64S_0N_sh (laws_eqInt64S_0N_run n)) := by
  refine fn_good' Try.func22 (c := (Try.f22.body.getD .skip)) (by kernel_rfl) (by kernel_rfl) (by kernel_rfl) laws_eqInt64S_0N_C laws_eqInt64S_0N_M eqs laws_eqInt64S_0N_lps (fun n => tabC_good (fun _ h => absurd h List.not_mem_nil)) eqs_ok laws_eqInt64S_0N_Lt ?_ ?_ laws_eqInt64S_0N_sh laws_eqInt64S_0N_run ?_
  · exact (fun _ h => absurd h List.not_mem_nil)
  · exact (fun _ h => absurd h List.not_mem_nil)
  · intro n p κ r ds hd hr
    have hr0 := hr
    unfold laws_eqInt64S_0N_run laws_eqInt64S_0N_runG at hr
    split at hr
    · rw [← ds_of hd]
      exact ⟨en_of (laws_eqInt64S_0N_en _) ⟨rfl, rfl⟩, (laws_eqInt64S_0N_ev n _ κ).trans hr0⟩
    · cases hr

/-! loop.example/g01297/laws.eqInt64S -/
def laws_eqInt64S_sh : List SkD := [.sl 2 (.int .i64), .sl 2 (.int .i64)]
def laws_eqInt64S_runG {α : Type} (F : Nat → List Int → List Int → (Bool → Option α) → Option α) (n : Nat) (p : List P1) (κ : Res → Option α) : Option α := match p with
  | [.rows (.int .i64) a, .rows (.int .i64) b_] => F n a b_ (fun v1 => κ ⟨[.bool v1], []⟩)
  | _ => none
def laws_eqInt64S_run {α : Type} (n : Nat) (p : List P1) (κ : Res → Option α) : Option α := laws_eqInt64S_runG laws_eqInt64S n p κ
def laws_eqInt64S_CG {α : Type}  (n : Nat) : FuncId → List D → (Res → Option α) → Option α := tabC []
def laws_eqInt64S_C {α : Type} (n : Nat) : FuncId → List D → (Res → Option α) → Option α := laws_eqInt64S_CG n
def laws_eqInt64S_M : FuncId → List Nat := tabM []
def laws_eqInt64S_t4 : Tpl := ⟨[.sl 0, .sl 64, .any, .any, .any, .int .i64, .any, .any, .any, .any, .any, .any, .any, .any, .any, .any, .any, .any, .any, .any, .any, .any, .any, .any, .any, .any], [(0, .rows 0 2 (.int .i64)), (64, .rows 0 2 (.int .i64))], []⟩
def laws_eqInt64S_uG4 {α : Type} (G : Nat → Int → List Int → List Int → (Int → List Int → List Int → Option α) → (Bool → Option α) → Option α) (n : Nat) (p : List P1) (brk : Nat → List P1 → Option α) (ret : Res → Option α) : Option α := match p with
  | [.int i, .rows (.int .i64) a1, .rows (.int .i64) b_1] => G n i a1 b_1 (fun i a1 b_1 => brk 0 [.int i, .rows (.int .i64) a1, .rows (.int .i64) b_1]) (fun v1 => ret ⟨[.bool v1], []⟩)
  | _ => none
def laws_eqInt64S_u4 {α : Type} (n : Nat) (p : List P1) (brk : Nat → List P1 → Option α) (ret : Res → Option α) : Option α := laws_eqInt64S_uG4 laws_eqInt64S_l4 n p brk ret
def laws_eqInt64S_lpsG {α : Type} (G4 : Nat → Int → List Int → List Int → (Int → List Int → List Int → Option α) → (Bool → Option α) → Option α) : List (LoopT α) := [⟨4, laws_eqInt64S_t4, laws_eqInt64S_uG4 G4⟩]
def laws_eqInt64S_lps {α : Type} : List (LoopT α) := laws_eqInt64S_lpsG laws_eqInt64S_l4
def laws_eqInt64S_XG {α : Type}  (G4 : Nat → Int → List Int → List Int → (Int → List Int → List Int → Option α) → (Bool → Option α) → Option α) (n : Nat) : Ctx α := ⟨laws_eqInt64S_CG n, laws_eqInt64S_M, eqs, lpOf (laws_eqInt64S_lpsG G4) n⟩
def laws_eqInt64S_X {α : Type} (n : Nat) : Ctx α := laws_eqInt64S_XG laws_eqInt64S_l4 n
def laws_eqInt64S_Lt (np : Nat) (lent : List (Bool × Nat × Blk)) : Prop := np = 2 ∧ lent = []
def laws_eqInt64S_lb4 {α : Type}  (G4 : Nat → Int → List Int → List Int → (Int → List Int → List Int → Option α) → (Bool → Option α) → Option α) (k : Nat) (i : Int) (a1 : List Int) (b_1 : List Int) (b0 : Int → List Int → List Int → Option α) (r0 : Bool → Option α) : Option α :=
  bif decide (i < (((List.length a1) : Nat) : Int)) then
    bif (decide (0 ≤ i) && decide (i < (((List.length a1) : Nat) : Int))) then
      (a1[i.toNat]?).bind fun e_ =>
      bif (decide (0 ≤ i) && decide (i < (((List.length b_1) : Nat) : Int))) then
        (b_1[i.toNat]?).bind fun e_1 =>
        bif (!decide (e_ = e_1)) then
          r0 false
        else
          G4 k (w64 (i + 1)) a1 b_1 b0 r0
      else
        none
    else
      none
  else
    b0 i a1 b_1
theorem laws_eqInt64S_l4_gen {α : Type}  (G4 : Nat → Int → List Int → List Int → (Int → List Int → List Int → Option α) → (Bool → Option α) → Option α) (n : Nat) (i : Int) (a1 : List Int) (b_1 : List Int) (brk : Nat → List P1 → Option α) (ret : Res → Option α) : ev ((laws_eqInt64S_XG G4 n).env Try.prog Try.f22 2 []) (findLoop (loopsIn (Try.f22.body.getD .skip)) 4) ((laws_eqInt64S_t4.build [.int i, .rows (.int .i64) a1, .rows (.int .i64) b_1]).getD ⟨[], []⟩) (roundK (2 * 64) laws_eqInt64S_t4 (fun q => laws_eqInt64S_uG4 G4 n q brk ret) brk ret) = laws_eqInt64S_lb4 G4 n i a1 b_1 (fun i a1 b_1 => brk 0 [.int i, .rows (.int .i64) a1, .rows (.int .i64) b_1]) (fun v1 => ret ⟨[.bool v1], []⟩) := by kernel_rfl
theorem laws_eqInt64S_l4_ev {α : Type} (n : Nat) (i : Int) (a1 : List Int) (b_1 : List Int) (brk : Nat → List P1 → Option α) (ret : Res → Option α) : ev ((laws_eqInt64S_X n).env Try.prog Try.f22 2 []) (findLoop (loopsIn (Try.f22.body.getD .skip)) 4) ((laws_eqInt64S_t4.build [.int i, .rows (.int .i64) a1, .rows (.int .i64) b_1]).getD ⟨[], []⟩) (roundK (2 * 64) laws_eqInt64S_t4 (fun q => laws_eqInt64S_u4 n q brk ret) brk ret) = laws_eqInt64S_u4 (n + 1) [.int i, .rows (.int .i64) a1, .rows (.int .i64) b_1] brk ret := (laws_eqInt64S_l4_gen laws_eqInt64S_l4 n i a1 b_1 brk ret).trans (by kernel_rfl)
def laws_eqInt64S_body {α : Type}  (G4 : Nat → Int → List Int → List Int → (Int → List Int → List Int → Option α) → (Bool → Option α) → Option α) (k : Nat) (a : List Int) (b_ : List Int) (r0 : Bool → Option α) : Option α :=
  bif (!decide ((((List.length a) : Nat) : Int) = (((List.length b_) : Nat) : Int))) then
    r0 false
  else
    G4 k 0 a b_
      (fun i1 a2 b_2 =>
        r0 true)
      r0
theorem laws_eqInt64S_gen {α : Type}  (G4 : Nat → Int → List Int → List Int → (Int → List Int → List Int → Option α) → (Bool → Option α) → Option α) (n : Nat) (a : List Int) (b_ : List Int) (κ : Res → Option α) : evFn Try.prog (laws_eqInt64S_XG G4 n) Try.f22 (((buildDs laws_eqInt64S_sh [.rows (.int .i64) a, .rows (.int .i64) b_]).map Prod.fst).getD []) κ = laws_eqInt64S_body G4 n a b_ (fun v1 => κ ⟨[.bool v1], []⟩) := by kernel_rfl
theorem laws_eqInt64S_ev {α : Type} (n : Nat) (a : List Int) (b_ : List Int) (κ : Res → Option α) : evFn Try.prog (laws_eqInt64S_X n) Try.f22 (((buildDs laws_eqInt64S_sh [.rows (.int .i64) a, .rows (.int .i64) b_]).map Prod.fst).getD []) κ = laws_eqInt64S_run n [.rows (.int .i64) a, .rows (.int .i64) b_] κ := (laws_eqInt64S_gen laws_eqInt64S_l4 n a b_ κ).trans (by kernel_rfl)
theorem laws_eqInt64S_en (a : List Int) (b_ : List Int) : (entry 0 (((buildDs laws_eqInt64S_sh [.rows (.int .i64) a, .rows (.int .i64) b_]).map Prod.fst).getD [])).map (fun x => (x.1.length, x.2.lent)) = some (2, []) := by kernel_rfl
theorem laws_eqInt64S_good {α : Type} : ∀ n, GoodFn (α := α) Try.prog 22 (byShape laws_eqInt64S_sh (laws_eqInt64S_run n)) := by
  refine fn_good' Try.func22 (c := (Try.f22.body.getD .skip)) (by kernel_rfl) (by kernel_rfl) (by kernel_rfl) laws_eqInt64S_C laws_eqInt64S_M eqs laws_eqInt64S_lps (fun n => tabC_good (fun _ h => absurd h List.not_mem_nil)) eqs_ok laws_eqInt64S_Lt ?_ ?_ laws_eqInt64S_sh laws_eqInt64S_run ?_
  · refine List.forall_mem_cons.2 ⟨?_, (fun _ h => absurd h List.not_mem_nil)⟩
    · intro p brk ret; show laws_eqInt64S_u4 0 p brk ret = none; unfold laws_eqInt64S_u4 laws_eqInt64S_uG4; split <;> rfl
  · refine List.forall_mem_cons.2 ⟨?_, (fun _ h => absurd h List.not_mem_nil)⟩
    · intro np lent hL n p brk ret st r hb hr
      obtain ⟨rfl, rfl⟩ := hL
      rw [← tpl_of hb]
      change laws_eqInt64S_u4 (n + 1) p brk ret = some r at hr
      have hr0 := hr
      unfold laws_eqInt64S_u4 laws_eqInt64S_uG4 at hr
      split at hr
      · exact (laws_eqInt64S_l4_ev n _ _ _ brk ret).trans hr0
      · cases hr
  · intro n p κ r ds hd hr
    have hr0 := hr
    unfold laws_eqInt64S_run laws_eqInt64S_runG at hr
    split at hr
    · rw [← ds_of hd]
      exact ⟨en_of (laws_eqInt64S_en _ _) ⟨rfl, rfl⟩, (laws_eqInt64S_ev n _ _ κ).trans hr0⟩
    · cases hr

end Go.Proofs.Ytegnnbhphgeocaa
