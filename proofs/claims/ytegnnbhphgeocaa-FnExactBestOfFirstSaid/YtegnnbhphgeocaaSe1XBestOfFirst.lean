/- The program's functions hold to their readings without memory: printed by a program of ours. -/
import Derived.Test.YtegnnbhphgeocaaSeXBestOfFirst
namespace Go.Proofs.Ytegnnbhphgeocaa
open Go Go.Ev Go.Sh Go.Proofs

/-! loop.example/g01297/spec.l01In -/
def spec_l01In_sh : List SkD := [.int .i64, .int .i64, .int .i64]
def spec_l01In_runG {α : Type} (F : Nat → Int → Int → Int → (Bool → Option α) → Option α) (n : Nat) (p : List P1) (κ : Res → Option α) : Option α := match p with
  | [.int n_, .int low, .int high] => F n n_ low high (fun v1 => κ ⟨[.bool v1], []⟩)
  | _ => none
def spec_l01In_run {α : Type} (n : Nat) (p : List P1) (κ : Res → Option α) : Option α := spec_l01In_runG spec_l01In n p κ
def spec_l01In_CG {α : Type}  (n : Nat) : FuncId → List D → (Res → Option α) → Option α := tabC []
def spec_l01In_C {α : Type} (n : Nat) : FuncId → List D → (Res → Option α) → Option α := spec_l01In_CG n
def spec_l01In_M : FuncId → List Nat := tabM []
def spec_l01In_lpsG {α : Type}  : List (LoopT α) := []
def spec_l01In_lps {α : Type} : List (LoopT α) := spec_l01In_lpsG
def spec_l01In_XG {α : Type}   (n : Nat) : Ctx α := ⟨spec_l01In_CG n, spec_l01In_M, eqs, lpOf (spec_l01In_lpsG) n⟩
def spec_l01In_X {α : Type} (n : Nat) : Ctx α := spec_l01In_XG n
def spec_l01In_Lt (np : Nat) (lent : List (Bool × Nat × Blk)) : Prop := np = 3 ∧ lent = []
def spec_l01In_body {α : Type}   (k : Nat) (n_ : Int) (low : Int) (high : Int) (r0 : Bool → Option α) : Option α :=
  bif decide (low ≤ n_) then
    r0 (decide (n_ ≤ high))
  else
    r0 false
theorem spec_l01In_gen {α : Type}   (n : Nat) (n_ : Int) (low : Int) (high : Int) (κ : Res → Option α) : evFn Try.prog (spec_l01In_XG n) Try.f59 (((buildDs spec_l01In_sh [.int n_, .int low, .int high]).map Prod.fst).getD []) κ = spec_l01In_body n n_ low high (fun v1 => κ ⟨[.bool v1], []⟩) := by kernel_rfl
theorem spec_l01In_ev {α : Type} (n : Nat) (n_ : Int) (low : Int) (high : Int) (κ : Res → Option α) : evFn Try.prog (spec_l01In_X n) Try.f59 (((buildDs spec_l01In_sh [.int n_, .int low, .int high]).map Prod.fst).getD []) κ = spec_l01In_run n [.int n_, .int low, .int high] κ := (spec_l01In_gen n n_ low high κ).trans (by kernel_rfl)
theorem spec_l01In_en (n_ : Int) (low : Int) (high : Int) : (entry 0 (((buildDs spec_l01In_sh [.int n_, .int low, .int high]).map Prod.fst).getD [])).map (fun x => (x.1.length, x.2.lent)) = some (3, []) := by kernel_rfl
theorem spec_l01In_good {α : Type} : ∀ n, GoodFn (α := α) Try.prog 59 (byShape spec_l01In_sh (spec_l01In_run n)) := by
  refine fn_good' Try.func59 (c := (Try.f59.body.getD .skip)) (by kernel_rfl) (by kernel_rfl) (by kernel_rfl) spec_l01In_C spec_l01In_M eqs spec_l01In_lps (fun n => tabC_good (fun _ h => absurd h List.not_mem_nil)) eqs_ok spec_l01In_Lt ?_ ?_ spec_l01In_sh spec_l01In_run ?_
  · exact (fun _ h => absurd h List.not_mem_nil)
  · exact (fun _ h => absurd h List.not_mem_nil)
  · intro n p κ r ds hd hr
    have hr0 := hr
    unfold spec_l01In_run spec_l01In_runG at hr
    split at hr
    · rw [← ds_of hd]
      exact ⟨en_of (spec_l01In_en _ _ _) ⟨rfl, rfl⟩, (spec_l01In_ev n _ _ _ κ).trans hr0⟩
    · cases hr

/-! loop.example/g01297/spec.l01Fits -/
def spec_l01Fits_sh : List SkD := [.int .i64]
def spec_l01Fits_runG {α : Type} (F : Nat → Int → (Bool → Option α) → Option α) (n : Nat) (p : List P1) (κ : Res → Option α) : Option α := match p with
  | [.int x] => F n x (fun v1 => κ ⟨[.bool v1], []⟩)
  | _ => none
def spec_l01Fits_run {α : Type} (n : Nat) (p : List P1) (κ : Res → Option α) : Option α := spec_l01Fits_runG spec_l01Fits n p κ
def spec_l01Fits_CG {α : Type} (F0 : Nat → Int → Int → Int → (Bool → Option α) → Option α) (n : Nat) : FuncId → List D → (Res → Option α) → Option α := tabC [(59, (byShape spec_l01In_sh (spec_l01In_runG F0 n)))]
def spec_l01Fits_C {α : Type} (n : Nat) : FuncId → List D → (Res → Option α) → Option α := spec_l01Fits_CG spec_l01In n
def spec_l01Fits_M : FuncId → List Nat := tabM []
def spec_l01Fits_lpsG {α : Type}  : List (LoopT α) := []
def spec_l01Fits_lps {α : Type} : List (LoopT α) := spec_l01Fits_lpsG
def spec_l01Fits_XG {α : Type} (F0 : Nat → Int → Int → Int → (Bool → Option α) → Option α)  (n : Nat) : Ctx α := ⟨spec_l01Fits_CG F0 n, spec_l01Fits_M, eqs, lpOf (spec_l01Fits_lpsG) n⟩
def spec_l01Fits_X {α : Type} (n : Nat) : Ctx α := spec_l01Fits_XG spec_l01In n
def spec_l01Fits_Lt (np : Nat) (lent : List (Bool × Nat × Blk)) : Prop := np = 1 ∧ lent = []
def spec_l01Fits_body {α : Type} (F0 : Nat → Int → Int → Int → (Bool → Option α) → Option α)  (k : Nat) (x : Int) (r0 : Bool → Option α) : Option α :=
  F0 k x (-1000000) 1000000 fun v =>
  r0 v
theorem spec_l01Fits_gen {α : Type} (F0 : Nat → Int → Int → Int → (Bool → Option α) → Option α)  (n : Nat) (x : Int) (κ : Res → Option α) : evFn Try.prog (spec_l01Fits_XG F0 n) Try.f87 (((buildDs spec_l01Fits_sh [.int x]).map Prod.fst).getD []) κ = spec_l01Fits_body F0 n x (fun v1 => κ ⟨[.bool v1], []⟩) := by kernel_rfl
theorem spec_l01Fits_ev {α : Type} (n : Nat) (x : Int) (κ : Res → Option α) : evFn Try.prog (spec_l01Fits_X n) Try.f87 (((buildDs spec_l01Fits_sh [.int x]).map Prod.fst).getD []) κ = spec_l01Fits_run n [.int x] κ := (spec_l01Fits_gen spec_l01In n x κ).trans (by kernel_rfl)
theorem spec_l01Fits_en (x : Int) : (entry 0 (((buildDs spec_l01Fits_sh [.int x]).map Prod.fst).getD [])).map (fun x => (x.1.length, x.2.lent)) = some (1, []) := by kernel_rfl
theorem spec_l01Fits_good {α : Type} : ∀ n, GoodFn (α := α) Try.prog 87 (byShape spec_l01Fits_sh (spec_l01Fits_run n)) := by
  refine fn_good' Try.func87 (c := (Try.f87.body.getD .skip)) (by kernel_rfl) (by kernel_rfl) (by kernel_rfl) spec_l01Fits_C spec_l01Fits_M eqs spec_l01Fits_lps (fun n => tabC_good (List.forall_mem_cons.2 ⟨(spec_l01In_good n), (fun _ h => absurd h List.not_mem_nil)⟩)) eqs_ok spec_l01Fits_Lt ?_ ?_ spec_l01Fits_sh spec_l01Fits_run ?_
  · exact (fun _ h => absurd h List.not_mem_nil)
  · exact (fun _ h => absurd h List.not_mem_nil)
  · intro n p κ r ds hd hr
    have hr0 := hr
    unfold spec_l01Fits_run spec_l01Fits_runG at hr
    split at hr
    · rw [← ds_of hd]
      exact ⟨en_of (spec_l01Fits_en _) ⟨rfl, rfl⟩, (spec_l01Fits_ev n _ κ).trans hr0⟩
    · cases hr

/-! loop.example/g01297/spec.l10Ratio -/
def spec_l10Ratio_sh : List SkD := [.int .i64, .int .i64, .int .i64]
def spec_l10Ratio_runG {α : Type} (F : Nat → Int → Int → Int → (Bool → Option α) → Option α) (n : Nat) (p : List P1) (κ : Res → Option α) : Option α := match p with
  | [.int p_, .int q_, .int low] => F n p_ q_ low (fun v1 => κ ⟨[.bool v1], []⟩)
  | _ => none
def spec_l10Ratio_run {α : Type} (n : Nat) (p : List P1) (κ : Res → Option α) : Option α := spec_l10Ratio_runG spec_l10Ratio n p κ
def spec_l10Ratio_CG {α : Type} (F0 : Nat → Int → (Bool → Option α) → Option α) (F1 : Nat → Int → Int → Int → (Bool → Option α) → Option α) (n : Nat) : FuncId → List D → (Res → Option α) → Option α := tabC [(87, (byShape spec_l01Fits_sh (spec_l01Fits_runG F0 n))), (59, (byShape spec_l01In_sh (spec_l01In_runG F1 n)))]
def spec_l10Ratio_C {α : Type} (n : Nat) : FuncId → List D → (Res → Option α) → Option α := spec_l10Ratio_CG spec_l01Fits spec_l01In n
def spec_l10Ratio_M : FuncId → List Nat := tabM []
def spec_l10Ratio_lpsG {α : Type}  : List (LoopT α) := []
def spec_l10Ratio_lps {α : Type} : List (LoopT α) := spec_l10Ratio_lpsG
def spec_l10Ratio_XG {α : Type} (F0 : Nat → Int → (Bool → Option α) → Option α) (F1 : Nat → Int → Int → Int → (Bool → Option α) → Option α)  (n : Nat) : Ctx α := ⟨spec_l10Ratio_CG F0 F1 n, spec_l10Ratio_M, eqs, lpOf (spec_l10Ratio_lpsG) n⟩
def spec_l10Ratio_X {α : Type} (n : Nat) : Ctx α := spec_l10Ratio_XG spec_l01Fits spec_l01In n
def spec_l10Ratio_Lt (np : Nat) (lent : List (Bool × Nat × Blk)) : Prop := np = 3 ∧ lent = []
def spec_l10Ratio_body {α : Type} (F0 : Nat → Int → (Bool → Option α) → Option α) (F1 : Nat → Int → Int → Int → (Bool → Option α) → Option α)  (k : Nat) (p_ : Int) (q_ : Int) (low : Int) (r0 : Bool → Option α) : Option α :=
  F0 k p_ fun v =>
  bif v then
    F1 k q_ low 1000000 fun v1 =>
    r0 v1
  else
    r0 false
theorem spec_l10Ratio_gen {α : Type} (F0 : Nat → Int → (Bool → Option α) → Option α) (F1 : Nat → Int → Int → Int → (Bool → Option α) → Option α)  (n : Nat) (p_ : Int) (q_ : Int) (low : Int) (κ : Res → Option α) : evFn Try.prog (spec_l10Ratio_XG F0 F1 n) Try.f58 (((buildDs spec_l10Ratio_sh [.int p_, .int q_, .int low]).map Prod.fst).getD []) κ = spec_l10Ratio_body F0 F1 n p_ q_ low (fun v1 => κ ⟨[.bool v1], []⟩) := by kernel_rfl
theorem spec_l10Ratio_ev {α : Type} (n : Nat) (p_ : Int) (q_ : Int) (low : Int) (κ : Res → Option α) : evFn Try.prog (spec_l10Ratio_X n) Try.f58 (((buildDs spec_l10Ratio_sh [.int p_, .int q_, .int low]).map Prod.fst).getD []) κ = spec_l10Ratio_run n [.int p_, .int q_, .int low] κ := (spec_l10Ratio_gen spec_l01Fits spec_l01In n p_ q_ low κ).trans (by kernel_rfl)
theorem spec_l10Ratio_en (p_ : Int) (q_ : Int) (low : Int) : (entry 0 (((buildDs spec_l10Ratio_sh [.int p_, .int q_, .int low]).map Prod.fst).getD [])).map (fun x => (x.1.length, x.2.lent)) = some (3, []) := by kernel_rfl
theorem spec_l10Ratio_good {α : Type} : ∀ n, GoodFn (α := α) Try.prog 58 (byShape spec_l10Ratio_sh (spec_l10Ratio_run n)) := by
  refine fn_good' Try.func58 (c := (Try.f58.body.getD .skip)) (by kernel_rfl) (by kernel_rfl) (by kernel_rfl) spec_l10Ratio_C spec_l10Ratio_M eqs spec_l10Ratio_lps (fun n => tabC_good (List.forall_mem_cons.2 ⟨(spec_l01Fits_good n), (List.forall_mem_cons.2 ⟨(spec_l01In_good n), (fun _ h => absurd h List.not_mem_nil)⟩)⟩)) eqs_ok spec_l10Ratio_Lt ?_ ?_ spec_l10Ratio_sh spec_l10Ratio_run ?_
  · exact (fun _ h => absurd h List.not_mem_nil)
  · exact (fun _ h => absurd h List.not_mem_nil)
  · intro n p κ r ds hd hr
    have hr0 := hr
    unfold spec_l10Ratio_run spec_l10Ratio_runG at hr
    split at hr
    · rw [← ds_of hd]
      exact ⟨en_of (spec_l10Ratio_en _ _ _) ⟨rfl, rfl⟩, (spec_l10Ratio_ev n _ _ _ κ).trans hr0⟩
    · cases hr

/-! loop.example/g01297/spec.l01Floor -/
def spec_l01Floor_sh : List SkD := [.int .i64, .int .i64]
def spec_l01Floor_runG {α : Type} (F : Nat → Int → Int → (Int → Option α) → Option α) (n : Nat) (p : List P1) (κ : Res → Option α) : Option α := match p with
  | [.int p_, .int q_] => F n p_ q_ (fun v1 => κ ⟨[.int .i64 v1], []⟩)
  | _ => none
def spec_l01Floor_run {α : Type} (n : Nat) (p : List P1) (κ : Res → Option α) : Option α := spec_l01Floor_runG spec_l01Floor n p κ
def spec_l01Floor_CG {α : Type}  (n : Nat) : FuncId → List D → (Res → Option α) → Option α := tabC []
def spec_l01Floor_C {α : Type} (n : Nat) : FuncId → List D → (Res → Option α) → Option α := spec_l01Floor_CG n
def spec_l01Floor_M : FuncId → List Nat := tabM []
def spec_l01Floor_lpsG {α : Type}  : List (LoopT α) := []
def spec_l01Floor_lps {α : Type} : List (LoopT α) := spec_l01Floor_lpsG
def spec_l01Floor_XG {α : Type}   (n : Nat) : Ctx α := ⟨spec_l01Floor_CG n, spec_l01Floor_M, eqs, lpOf (spec_l01Floor_lpsG) n⟩
def spec_l01Floor_X {α : Type} (n : Nat) : Ctx α := spec_l01Floor_XG n
def spec_l01Floor_Lt (np : Nat) (lent : List (Bool × Nat × Blk)) : Prop := np = 2 ∧ lent = []
def spec_l01Floor_body {α : Type}   (k : Nat) (p_ : Int) (q_ : Int) (r0 : Int → Option α) : Option α :=
  bif decide (q_ = 0) then
    none
  else
  bif decide (q_ = 0) then
    none
  else
  bif (!decide ((Int.tmod p_ q_) = 0)) then
    bif (!(decide (p_ < 0) == decide (q_ < 0))) then
      r0 (w64 ((w64 (Int.tdiv p_ q_)) - 1))
    else
      r0 (w64 (Int.tdiv p_ q_))
  else
    r0 (w64 (Int.tdiv p_ q_))
theorem spec_l01Floor_gen {α : Type}   (n : Nat) (p_ : Int) (q_ : Int) (κ : Res → Option α) : evFn Try.prog (spec_l01Floor_XG n) Try.f98 (((buildDs spec_l01Floor_sh [.int p_, .int q_]).map Prod.fst).getD []) κ = spec_l01Floor_body n p_ q_ (fun v1 => κ ⟨[.int .i64 v1], []⟩) := by kernel_rfl
theorem spec_l01Floor_ev {α : Type} (n : Nat) (p_ : Int) (q_ : Int) (κ : Res → Option α) : evFn Try.prog (spec_l01Floor_X n) Try.f98 (((buildDs spec_l01Floor_sh [.int p_, .int q_]).map Prod.fst).getD []) κ = spec_l01Floor_run n [.int p_, .int q_] κ := (spec_l01Floor_gen n p_ q_ κ).trans (by kernel_rfl)
theorem spec_l01Floor_en (p_ : Int) (q_ : Int) : (entry 0 (((buildDs spec_l01Floor_sh [.int p_, .int q_]).map Prod.fst).getD [])).map (fun x => (x.1.length, x.2.lent)) = some (2, []) := by kernel_rfl
theorem spec_l01Floor_good {α : Type} : ∀ n, GoodFn (α := α) Try.prog 98 (byShape spec_l01Floor_sh (spec_l01Floor_run n)) := by
  refine fn_good' Try.func98 (c := (Try.f98.body.getD .skip)) (by kernel_rfl) (by kernel_rfl) (by kernel_rfl) spec_l01Floor_C spec_l01Floor_M eqs spec_l01Floor_lps (fun n => tabC_good (fun _ h => absurd h List.not_mem_nil)) eqs_ok spec_l01Floor_Lt ?_ ?_ spec_l01Floor_sh spec_l01Floor_run ?_
  · exact (fun _ h => absurd h List.not_mem_nil)
  · exact (fun _ h => absurd h List.not_mem_nil)
  · intro n p κ r ds hd hr
    have hr0 := hr
    unfold spec_l01Floor_run spec_l01Floor_runG at hr
    split at hr
    · rw [← ds_of hd]
      exact ⟨en_of (spec_l01Floor_en _ _) ⟨rfl, rfl⟩, (spec_l01Floor_ev n _ _ κ).trans hr0⟩
    · cases hr

/-! loop.example/g01297/spec.l10Near -/
def spec_l10Near_sh : List SkD := [.int .i64, .int .i64]
def spec_l10Near_runG {α : Type} (F : Nat → Int → Int → (Int → Int → Option α) → Option α) (n : Nat) (p : List P1) (κ : Res → Option α) : Option α := match p with
  | [.int x, .int q_] => F n x q_ (fun v1 v2 => κ ⟨[.int .i64 v1, .int .i64 v2], []⟩)
  | _ => none
def spec_l10Near_run {α : Type} (n : Nat) (p : List P1) (κ : Res → Option α) : Option α := spec_l10Near_runG spec_l10Near n p κ
def spec_l10Near_CG {α : Type} (F0 : Nat → Int → Int → (Int → Option α) → Option α) (n : Nat) : FuncId → List D → (Res → Option α) → Option α := tabC [(98, (byShape spec_l01Floor_sh (spec_l01Floor_runG F0 n)))]
def spec_l10Near_C {α : Type} (n : Nat) : FuncId → List D → (Res → Option α) → Option α := spec_l10Near_CG spec_l01Floor n
def spec_l10Near_M : FuncId → List Nat := tabM []
def spec_l10Near_lpsG {α : Type}  : List (LoopT α) := []
def spec_l10Near_lps {α : Type} : List (LoopT α) := spec_l10Near_lpsG
def spec_l10Near_XG {α : Type} (F0 : Nat → Int → Int → (Int → Option α) → Option α)  (n : Nat) : Ctx α := ⟨spec_l10Near_CG F0 n, spec_l10Near_M, eqs, lpOf (spec_l10Near_lpsG) n⟩
def spec_l10Near_X {α : Type} (n : Nat) : Ctx α := spec_l10Near_XG spec_l01Floor n
def spec_l10Near_Lt (np : Nat) (lent : List (Bool × Nat × Blk)) : Prop := np = 2 ∧ lent = []
def spec_l10Near_body {α : Type} (F0 : Nat → Int → Int → (Int → Option α) → Option α)  (k : Nat) (x : Int) (q_ : Int) (r0 : Int → Int → Option α) : Option α :=
  F0 k x q_ fun v =>
  bif decide ((w64 (q_ - (w64 (x - (w64 (v * q_)))))) < (w64 (x - (w64 (v * q_))))) then
    r0 (w64 (v + 1)) (w64 (q_ - (w64 (x - (w64 (v * q_))))))
  else
    r0 v (w64 (x - (w64 (v * q_))))
theorem spec_l10Near_gen {α : Type} (F0 : Nat → Int → Int → (Int → Option α) → Option α)  (n : Nat) (x : Int) (q_ : Int) (κ : Res → Option α) : evFn Try.prog (spec_l10Near_XG F0 n) Try.f60 (((buildDs spec_l10Near_sh [.int x, .int q_]).map Prod.fst).getD []) κ = spec_l10Near_body F0 n x q_ (fun v1 v2 => κ ⟨[.int .i64 v1, .int .i64 v2], []⟩) := by kernel_rfl
theorem spec_l10Near_ev {α : Type} (n : Nat) (x : Int) (q_ : Int) (κ : Res → Option α) : evFn Try.prog (spec_l10Near_X n) Try.f60 (((buildDs spec_l10Near_sh [.int x, .int q_]).map Prod.fst).getD []) κ = spec_l10Near_run n [.int x, .int q_] κ := (spec_l10Near_gen spec_l01Floor n x q_ κ).trans (by kernel_rfl)
theorem spec_l10Near_en (x : Int) (q_ : Int) : (entry 0 (((buildDs spec_l10Near_sh [.int x, .int q_]).map Prod.fst).getD [])).map (fun x => (x.1.length, x.2.lent)) = some (2, []) := by kernel_rfl
theorem spec_l10Near_good {α : Type} : ∀ n, GoodFn (α := α) Try.prog 60 (byShape spec_l10Near_sh (spec_l10Near_run n)) := by
  refine fn_good' Try.func60 (c := (Try.f60.body.getD .skip)) (by kernel_rfl) (by kernel_rfl) (by kernel_rfl) spec_l10Near_C spec_l10Near_M eqs spec_l10Near_lps (fun n => tabC_good (List.forall_mem_cons.2 ⟨(spec_l01Floor_good n), (fun _ h => absurd h List.not_mem_nil)⟩)) eqs_ok spec_l10Near_Lt ?_ ?_ spec_l10Near_sh spec_l10Near_run ?_
  · exact (fun _ h => absurd h List.not_mem_nil)
  · exact (fun _ h => absurd h List.not_mem_nil)
  · intro n p κ r ds hd hr
    have hr0 := hr
    unfold spec_l10Near_run spec_l10Near_runG at hr
    split at hr
    · rw [← ds_of hd]
      exact ⟨en_of (spec_l10Near_en _ _) ⟨rfl, rfl⟩, (spec_l10Near_ev n _ _ κ).trans hr0⟩
    · cases hr

/-! loop.example/g01297/spec.l10Best -/
def spec_l10Best_sh : List SkD := [.int .i64, .int .i64, .int .i64, .bool]
def spec_l10Best_runG {α : Type} (F : Nat → Int → Int → Int → Bool → ((List (Int × Int)) → Option α) → Option α) (n : Nat) (p : List P1) (κ : Res → Option α) : Option α := match p with
  | [.int p_, .int q_, .int n_, .bool second] => F n p_ q_ n_ second (fun v1 => κ ⟨[.sl 31 .pt v1], []⟩)
  | _ => none
def spec_l10Best_run {α : Type} (n : Nat) (p : List P1) (κ : Res → Option α) : Option α := spec_l10Best_runG spec_l10Best n p κ
def spec_l10Best_CG {α : Type} (F0 : Nat → Int → Int → (Int → Int → Option α) → Option α) (n : Nat) : FuncId → List D → (Res → Option α) → Option α := tabC [(60, (byShape spec_l10Near_sh (spec_l10Near_runG F0 n)))]
def spec_l10Best_C {α : Type} (n : Nat) : FuncId → List D → (Res → Option α) → Option α := spec_l10Best_CG spec_l10Near n
def spec_l10Best_M : FuncId → List Nat := tabM []
def spec_l10Best_t3 : Tpl := ⟨[.int .i64, .int .i64, .int .i64, .bool, .any, .any, .any, .any, .any, .sl 1024, .int .i64, .int .i64, .int .i64, .any, .any, .any, .any, .any, .any, .any, .any, .any, .any, .any, .any, .any, .any, .any, .any, .any, .any, .any, .any, .any, .any, .any, .any, .any, .any, .any, .any, .any, .any, .any, .any, .any, .any, .any, .any, .any, .any, .any, .any, .any, .any, .any, .any, .any, .any, .any, .any, .any, .any, .any, .any, .any], [(1024, .rows 2 31 .pt)], []⟩
def spec_l10Best_uG3 {α : Type} (G : Nat → Int → Int → Int → Bool → Int → Int → Int → (List (Int × Int)) → (Int → Int → Int → Bool → Int → Int → Int → (List (Int × Int)) → Option α) → ((List (Int × Int)) → Option α) → Option α) (n : Nat) (p : List P1) (brk : Nat → List P1 → Option α) (ret : Res → Option α) : Option α := match p with
  | [.int p_1, .int q_1, .int n_1, .bool second1, .int last, .int under, .int k_, .rows .pt out] => G n p_1 q_1 n_1 second1 last under k_ out (fun p_1 q_1 n_1 second1 last under k_ out => brk 0 [.int p_1, .int q_1, .int n_1, .bool second1, .int last, .int under, .int k_, .rows .pt out]) (fun v1 => ret ⟨[.sl 31 .pt v1], []⟩)
  | _ => none
def spec_l10Best_u3 {α : Type} (n : Nat) (p : List P1) (brk : Nat → List P1 → Option α) (ret : Res → Option α) : Option α := spec_l10Best_uG3 spec_l10Best_l3 n p brk ret
def spec_l10Best_lpsG {α : Type} (G3 : Nat → Int → Int → Int → Bool → Int → Int → Int → (List (Int × Int)) → (Int → Int → Int → Bool → Int → Int → Int → (List (Int × Int)) → Option α) → ((List (Int × Int)) → Option α) → Option α) : List (LoopT α) := [⟨3, spec_l10Best_t3, spec_l10Best_uG3 G3⟩]
def spec_l10Best_lps {α : Type} : List (LoopT α) := spec_l10Best_lpsG spec_l10Best_l3
def spec_l10Best_XG {α : Type} (F0 : Nat → Int → Int → (Int → Int → Option α) → Option α) (G3 : Nat → Int → Int → Int → Bool → Int → Int → Int → (List (Int × Int)) → (Int → Int → Int → Bool → Int → Int → Int → (List (Int × Int)) → Option α) → ((List (Int × Int)) → Option α) → Option α) (n : Nat) : Ctx α := ⟨spec_l10Best_CG F0 n, spec_l10Best_M, eqs, lpOf (spec_l10Best_lpsG G3) n⟩
def spec_l10Best_X {α : Type} (n : Nat) : Ctx α := spec_l10Best_XG spec_l10Near spec_l10Best_l3 n
def spec_l10Best_Lt (np : Nat) (lent : List (Bool × Nat × Blk)) : Prop := np = 4 ∧ lent = []
def spec_l10Best_lb3 {α : Type} (F0 : Nat → Int → Int → (Int → Int → Option α) → Option α) (G3 : Nat → Int → Int → Int → Bool → Int → Int → Int → (List (Int × Int)) → (Int → Int → Int → Bool → Int → Int → Int → (List (Int × Int)) → Option α) → ((List (Int × Int)) → Option α) → Option α) (k : Nat) (p_1 : Int) (q_1 : Int) (n_1 : Int) (second1 : Bool) (last : Int) (under : Int) (k_ : Int) (out : List (Int × Int)) (b0 : Int → Int → Int → Bool → Int → Int → Int → (List (Int × Int)) → Option α) (r0 : (List (Int × Int)) → Option α) : Option α :=
  bif decide (k_ ≤ n_1) then
    F0 k (w64 (k_ * p_1)) q_1 fun v v1 =>
    bif decide ((((List.length out) : Nat) : Int) = 0) then
      bif decide (((List.length out) + 1) ≤ big) then
        bif decide (v1 = 0) then
          b0 p_1 q_1 n_1 second1 v1 k_ k_ (out ++ [(v, k_)])
        else
          G3 k p_1 q_1 n_1 second1 v1 k_ (w64 (k_ + 1)) (out ++ [(v, k_)]) b0 r0
      else
        none
    else
    bif second1 then
      bif decide (v1 < last) then
        bif decide (((List.length out) + 1) ≤ big) then
          bif decide (v1 = 0) then
            b0 p_1 q_1 n_1 second1 v1 k_ k_ (out ++ [(v, k_)])
          else
            G3 k p_1 q_1 n_1 second1 v1 k_ (w64 (k_ + 1)) (out ++ [(v, k_)]) b0 r0
        else
          none
      else
      bif (!second1) then
        bif decide ((w64 (v1 * under)) < (w64 (last * k_))) then
          bif decide (((List.length out) + 1) ≤ big) then
            bif decide (v1 = 0) then
              b0 p_1 q_1 n_1 second1 v1 k_ k_ (out ++ [(v, k_)])
            else
              G3 k p_1 q_1 n_1 second1 v1 k_ (w64 (k_ + 1)) (out ++ [(v, k_)]) b0 r0
          else
            none
        else
        bif decide (v1 = 0) then
          b0 p_1 q_1 n_1 second1 last under k_ out
        else
          G3 k p_1 q_1 n_1 second1 last under (w64 (k_ + 1)) out b0 r0
      else
      bif decide (v1 = 0) then
        b0 p_1 q_1 n_1 second1 last under k_ out
      else
        G3 k p_1 q_1 n_1 second1 last under (w64 (k_ + 1)) out b0 r0
    else
    bif (!second1) then
      bif decide ((w64 (v1 * under)) < (w64 (last * k_))) then
        bif decide (((List.length out) + 1) ≤ big) then
          bif decide (v1 = 0) then
            b0 p_1 q_1 n_1 second1 v1 k_ k_ (out ++ [(v, k_)])
          else
            G3 k p_1 q_1 n_1 second1 v1 k_ (w64 (k_ + 1)) (out ++ [(v, k_)]) b0 r0
        else
          none
      else
      bif decide (v1 = 0) then
        b0 p_1 q_1 n_1 second1 last under k_ out
      else
        G3 k p_1 q_1 n_1 second1 last under (w64 (k_ + 1)) out b0 r0
    else
    bif decide (v1 = 0) then
      b0 p_1 q_1 n_1 second1 last under k_ out
    else
      G3 k p_1 q_1 n_1 second1 last under (w64 (k_ + 1)) out b0 r0
  else
    b0 p_1 q_1 n_1 second1 last under k_ out
theorem spec_l10Best_l3_gen {α : Type} (F0 : Nat → Int → Int → (Int → Int → Option α) → Option α) (G3 : Nat → Int → Int → Int → Bool → Int → Int → Int → (List (Int × Int)) → (Int → Int → Int → Bool → Int → Int → Int → (List (Int × Int)) → Option α) → ((List (Int × Int)) → Option α) → Option α) (n : Nat) (p_1 : Int) (q_1 : Int) (n_1 : Int) (second1 : Bool) (last : Int) (under : Int) (k_ : Int) (out : List (Int × Int)) (brk : Nat → List P1 → Option α) (ret : Res → Option α) : ev ((spec_l10Best_XG F0 G3 n).env Try.prog Try.f64 4 []) (findLoop (loopsIn (Try.f64.body.getD .skip)) 3) ((spec_l10Best_t3.build [.int p_1, .int q_1, .int n_1, .bool second1, .int last, .int under, .int k_, .rows .pt out]).getD ⟨[], []⟩) (roundK (4 * 64) spec_l10Best_t3 (fun q => spec_l10Best_uG3 G3 n q brk ret) brk ret) = spec_l10Best_lb3 F0 G3 n p_1 q_1 n_1 second1 last under k_ out (fun p_1 q_1 n_1 second1 last under k_ out => brk 0 [.int p_1, .int q_1, .int n_1, .bool second1, .int last, .int under, .int k_, .rows .pt out]) (fun v1 => ret ⟨[.sl 31 .pt v1], []⟩) := by kernel_rfl
theorem spec_l10Best_l3_ev {α : Type} (n : Nat) (p_1 : Int) (q_1 : Int) (n_1 : Int) (second1 : Bool) (last : Int) (under : Int) (k_ : Int) (out : List (Int × Int)) (brk : Nat → List P1 → Option α) (ret : Res → Option α) : ev ((spec_l10Best_X n).env Try.prog Try.f64 4 []) (findLoop (loopsIn (Try.f64.body.getD .skip)) 3) ((spec_l10Best_t3.build [.int p_1, .int q_1, .int n_1, .bool second1, .int last, .int under, .int k_, .rows .pt out]).getD ⟨[], []⟩) (roundK (4 * 64) spec_l10Best_t3 (fun q => spec_l10Best_u3 n q brk ret) brk ret) = spec_l10Best_u3 (n + 1) [.int p_1, .int q_1, .int n_1, .bool second1, .int last, .int under, .int k_, .rows .pt out] brk ret := (spec_l10Best_l3_gen spec_l10Near spec_l10Best_l3 n p_1 q_1 n_1 second1 last under k_ out brk ret).trans (by kernel_rfl)
def spec_l10Best_body {α : Type} (F0 : Nat → Int → Int → (Int → Int → Option α) → Option α) (G3 : Nat → Int → Int → Int → Bool → Int → Int → Int → (List (Int × Int)) → (Int → Int → Int → Bool → Int → Int → Int → (List (Int × Int)) → Option α) → ((List (Int × Int)) → Option α) → Option α) (k : Nat) (p_ : Int) (q_ : Int) (n_ : Int) (second : Bool) (r0 : (List (Int × Int)) → Option α) : Option α :=
  G3 k p_ q_ n_ second 0 1 1 []
    (fun p_2 q_2 n_2 second2 last1 under1 k_1 out1 =>
      r0 out1)
    r0
theorem spec_l10Best_gen {α : Type} (F0 : Nat → Int → Int → (Int → Int → Option α) → Option α) (G3 : Nat → Int → Int → Int → Bool → Int → Int → Int → (List (Int × Int)) → (Int → Int → Int → Bool → Int → Int → Int → (List (Int × Int)) → Option α) → ((List (Int × Int)) → Option α) → Option α) (n : Nat) (p_ : Int) (q_ : Int) (n_ : Int) (second : Bool) (κ : Res → Option α) : evFn Try.prog (spec_l10Best_XG F0 G3 n) Try.f64 (((buildDs spec_l10Best_sh [.int p_, .int q_, .int n_, .bool second]).map Prod.fst).getD []) κ = spec_l10Best_body F0 G3 n p_ q_ n_ second (fun v1 => κ ⟨[.sl 31 .pt v1], []⟩) := by kernel_rfl
theorem spec_l10Best_ev {α : Type} (n : Nat) (p_ : Int) (q_ : Int) (n_ : Int) (second : Bool) (κ : Res → Option α) : evFn Try.prog (spec_l10Best_X n) Try.f64 (((buildDs spec_l10Best_sh [.int p_, .int q_, .int n_, .bool second]).map Prod.fst).getD []) κ = spec_l10Best_run n [.int p_, .int q_, .int n_, .bool second] κ := (spec_l10Best_gen spec_l10Near spec_l10Best_l3 n p_ q_ n_ second κ).trans (by kernel_rfl)
theorem spec_l10Best_en (p_ : Int) (q_ : Int) (n_ : Int) (second : Bool) : (entry 0 (((buildDs spec_l10Best_sh [.int p_, .int q_, .int n_, .bool second]).map Prod.fst).getD [])).map (fun x => (x.1.length, x.2.lent)) = some (4, []) := by kernel_rfl
theorem spec_l10Best_good {α : Type} : ∀ n, GoodFn (α := α) Try.prog 64 (byShape spec_l10Best_sh (spec_l10Best_run n)) := by
  refine fn_good' Try.func64 (c := (Try.f64.body.getD .skip)) (by kernel_rfl) (by kernel_rfl) (by kernel_rfl) spec_l10Best_C spec_l10Best_M eqs spec_l10Best_lps (fun n => tabC_good (List.forall_mem_cons.2 ⟨(spec_l10Near_good n), (fun _ h => absurd h List.not_mem_nil)⟩)) eqs_ok spec_l10Best_Lt ?_ ?_ spec_l10Best_sh spec_l10Best_run ?_
  · refine List.forall_mem_cons.2 ⟨?_, (fun _ h => absurd h List.not_mem_nil)⟩
    · intro p brk ret; show spec_l10Best_u3 0 p brk ret = none; unfold spec_l10Best_u3 spec_l10Best_uG3; split <;> rfl
  · refine List.forall_mem_cons.2 ⟨?_, (fun _ h => absurd h List.not_mem_nil)⟩
    · intro np lent hL n p brk ret st r hb hr
      obtain ⟨rfl, rfl⟩ := hL
      rw [← tpl_of hb]
      change spec_l10Best_u3 (n + 1) p brk ret = some r at hr
      have hr0 := hr
      unfold spec_l10Best_u3 spec_l10Best_uG3 at hr
      split at hr
      · exact (spec_l10Best_l3_ev n _ _ _ _ _ _ _ _ brk ret).trans hr0
      · cases hr
  · intro n p κ r ds hd hr
    have hr0 := hr
    unfold spec_l10Best_run spec_l10Best_runG at hr
    split at hr
    · rw [← ds_of hd]
      exact ⟨en_of (spec_l10Best_en _ _ _ _) ⟨rfl, rfl⟩, (spec_l10Best_ev n _ _ _ _ κ).trans hr0⟩
    · cases hr

/-! loop.example/g01297/spec.BestOfFirst -/
def spec_BestOfFirst_sh : List SkD := [.int .i64, .int .i64, .int .i64]
def spec_BestOfFirst_runG {α : Type} (F : Nat → Int → Int → Int → (Int → Option α) → ((List (Int × Int)) → Int → Option α) → Option α) (n : Nat) (p : List P1) (κ : Res → Option α) : Option α := match p with
  | [.int p_, .int q_, .int n_] => F n p_ q_ n_ (fun v1 => κ ⟨[.nilsl, .int .i64 v1], []⟩) (fun v1 v2 => κ ⟨[.sl 31 .pt v1, .int .i64 v2], []⟩)
  | _ => none
def spec_BestOfFirst_run {α : Type} (n : Nat) (p : List P1) (κ : Res → Option α) : Option α := spec_BestOfFirst_runG spec_BestOfFirst n p κ
def spec_BestOfFirst_CG {α : Type} (F0 : Nat → Int → Int → Int → (Bool → Option α) → Option α) (F1 : Nat → Int → Int → Int → (Bool → Option α) → Option α) (F2 : Nat → Int → Int → Int → Bool → ((List (Int × Int)) → Option α) → Option α) (n : Nat) : FuncId → List D → (Res → Option α) → Option α := tabC [(58, (byShape spec_l10Ratio_sh (spec_l10Ratio_runG F0 n))), (59, (byShape spec_l01In_sh (spec_l01In_runG F1 n))), (64, (byShape spec_l10Best_sh (spec_l10Best_runG F2 n)))]
def spec_BestOfFirst_C {α : Type} (n : Nat) : FuncId → List D → (Res → Option α) → Option α := spec_BestOfFirst_CG spec_l10Ratio spec_l01In spec_l10Best n
def spec_BestOfFirst_M : FuncId → List Nat := tabM []
def spec_BestOfFirst_lpsG {α : Type}  : List (LoopT α) := []
def spec_BestOfFirst_lps {α : Type} : List (LoopT α) := spec_BestOfFirst_lpsG
def spec_BestOfFirst_XG {α : Type} (F0 : Nat → Int → Int → Int → (Bool → Option α) → Option α) (F1 : Nat → Int → Int → Int → (Bool → Option α) → Option α) (F2 : Nat → Int → Int → Int → Bool → ((List (Int × Int)) → Option α) → Option α)  (n : Nat) : Ctx α := ⟨spec_BestOfFirst_CG F0 F1 F2 n, spec_BestOfFirst_M, eqs, lpOf (spec_BestOfFirst_lpsG) n⟩
def spec_BestOfFirst_X {α : Type} (n : Nat) : Ctx α := spec_BestOfFirst_XG spec_l10Ratio spec_l01In spec_l10Best n
def spec_BestOfFirst_Lt (np : Nat) (lent : List (Bool × Nat × Blk)) : Prop := np = 3 ∧ lent = []
def spec_BestOfFirst_body {α : Type} (F0 : Nat → Int → Int → Int → (Bool → Option α) → Option α) (F1 : Nat → Int → Int → Int → (Bool → Option α) → Option α) (F2 : Nat → Int → Int → Int → Bool → ((List (Int × Int)) → Option α) → Option α)  (k : Nat) (p_ : Int) (q_ : Int) (n_ : Int) (r0 : Int → Option α) (r1 : (List (Int × Int)) → Int → Option α) : Option α :=
  F0 k p_ q_ 1 fun v =>
  bif (!v) then
    r0 2
  else
    F1 k n_ 1 100000 fun v1 =>
    bif (!v1) then
      r0 2
    else
      F2 k p_ q_ n_ false fun v2 =>
      r1 v2 0
theorem spec_BestOfFirst_gen {α : Type} (F0 : Nat → Int → Int → Int → (Bool → Option α) → Option α) (F1 : Nat → Int → Int → Int → (Bool → Option α) → Option α) (F2 : Nat → Int → Int → Int → Bool → ((List (Int × Int)) → Option α) → Option α)  (n : Nat) (p_ : Int) (q_ : Int) (n_ : Int) (κ : Res → Option α) : evFn Try.prog (spec_BestOfFirst_XG F0 F1 F2 n) Try.f43 (((buildDs spec_BestOfFirst_sh [.int p_, .int q_, .int n_]).map Prod.fst).getD []) κ = spec_BestOfFirst_body F0 F1 F2 n p_ q_ n_ (fun v1 => κ ⟨[.nilsl, .int .i64 v1], []⟩) (fun v1 v2 => κ ⟨[.sl 31 .pt v1, .int .i64 v2], []⟩) := by kernel_rfl
theorem spec_BestOfFirst_ev {α : Type} (n : Nat) (p_ : Int) (q_ : Int) (n_ : Int) (κ : Res → Option α) : evFn Try.prog (spec_BestOfFirst_X n) Try.f43 (((buildDs spec_BestOfFirst_sh [.int p_, .int q_, .int n_]).map Prod.fst).getD []) κ = spec_BestOfFirst_run n [.int p_, .int q_, .int n_] κ := (spec_BestOfFirst_gen spec_l10Ratio spec_l01In spec_l10Best n p_ q_ n_ κ).trans (by kernel_rfl)
theorem spec_BestOfFirst_en (p_ : Int) (q_ : Int) (n_ : Int) : (entry 0 (((buildDs spec_BestOfFirst_sh [.int p_, .int q_, .int n_]).map Prod.fst).getD [])).map (fun x => (x.1.length, x.2.lent)) = some (3, []) := by kernel_rfl
theorem spec_BestOfFirst_good {α : Type} : ∀ n, GoodFn (α := α) Try.prog 43 (byShape spec_BestOfFirst_sh (spec_BestOfFirst_run n)) := by
  refine fn_good' Try.func43 (c := (Try.f43.body.getD .skip)) (by kernel_rfl) (by kernel_rfl) (by kernel_rfl) spec_BestOfFirst_C spec_BestOfFirst_M eqs spec_BestOfFirst_lps (fun n => tabC_good (List.forall_mem_cons.2 ⟨(spec_l10Ratio_good n), (List.forall_mem_cons.2 ⟨(spec_l01In_good n), (List.forall_mem_cons.2 ⟨(spec_l10Best_good n), (fun _ h => absurd h List.not_mem_nil)⟩)⟩)⟩)) eqs_ok spec_BestOfFirst_Lt ?_ ?_ spec_BestOfFirst_sh spec_BestOfFirst_run ?_
  · exact (fun _ h => absurd h List.not_mem_nil)
  · exact (fun _ h => absurd h List.not_mem_nil)
  · intro n p κ r ds hd hr
    have hr0 := hr
    unfold spec_BestOfFirst_run spec_BestOfFirst_runG at hr
    split at hr
    · rw [← ds_of hd]
      exact ⟨en_of (spec_BestOfFirst_en _ _ _) ⟨rfl, rfl⟩, (spec_BestOfFirst_ev n _ _ _ κ).trans hr0⟩
    · cases hr

/-! loop.example/g01297/impl.in -/
def impl_in_sh : List SkD := [.int .i64, .int .i64, .int .i64]
def impl_in_runG {α : Type} (F : Nat → Int → Int → Int → (Bool → Option α) → Option α) (n : Nat) (p : List P1) (κ : Res → Option α) : Option α := match p with
  | [.int n_, .int low, .int high] => F n n_ low high (fun v1 => κ ⟨[.bool v1], []⟩)
  | _ => none
def impl_in_run {α : Type} (n : Nat) (p : List P1) (κ : Res → Option α) : Option α := impl_in_runG impl_in n p κ
def impl_in_CG {α : Type}  (n : Nat) : FuncId → List D → (Res → Option α) → Option α := tabC []
def impl_in_C {α : Type} (n : Nat) : FuncId → List D → (Res → Option α) → Option α := impl_in_CG n
def impl_in_M : FuncId → List Nat := tabM []
def impl_in_lpsG {α : Type}  : List (LoopT α) := []
def impl_in_lps {α : Type} : List (LoopT α) := impl_in_lpsG
def impl_in_XG {α : Type}   (n : Nat) : Ctx α := ⟨impl_in_CG n, impl_in_M, eqs, lpOf (impl_in_lpsG) n⟩
def impl_in_X {α : Type} (n : Nat) : Ctx α := impl_in_XG n
def impl_in_Lt (np : Nat) (lent : List (Bool × Nat × Blk)) : Prop := np = 3 ∧ lent = []
def impl_in_body {α : Type}   (k : Nat) (n_ : Int) (low : Int) (high : Int) (r0 : Bool → Option α) : Option α :=
  bif decide (low ≤ n_) then
    r0 (decide (n_ ≤ high))
  else
    r0 false
theorem impl_in_gen {α : Type}   (n : Nat) (n_ : Int) (low : Int) (high : Int) (κ : Res → Option α) : evFn Try.prog (impl_in_XG n) Try.f92 (((buildDs impl_in_sh [.int n_, .int low, .int high]).map Prod.fst).getD []) κ = impl_in_body n n_ low high (fun v1 => κ ⟨[.bool v1], []⟩) := by kernel_rfl
theorem impl_in_ev {α : Type} (n : Nat) (n_ : Int) (low : Int) (high : Int) (κ : Res → Option α) : evFn Try.prog (impl_in_X n) Try.f92 (((buildDs impl_in_sh [.int n_, .int low, .int high]).map Prod.fst).getD []) κ = impl_in_run n [.int n_, .int low, .int high] κ := (impl_in_gen n n_ low high κ).trans (by kernel_rfl)
theorem impl_in_en (n_ : Int) (low : Int) (high : Int) : (entry 0 (((buildDs impl_in_sh [.int n_, .int low, .int high]).map Prod.fst).getD [])).map (fun x => (x.1.length, x.2.lent)) = some (3, []) := by kernel_rfl
theorem impl_in_good {α : Type} : ∀ n, GoodFn (α := α) Try.prog 92 (byShape impl_in_sh (impl_in_run n)) := by
  refine fn_good' Try.func92 (c := (Try.f92.body.getD .skip)) (by kernel_rfl) (by kernel_rfl) (by kernel_rfl) impl_in_C impl_in_M eqs impl_in_lps (fun n => tabC_good (fun _ h => absurd h List.not_mem_nil)) eqs_ok impl_in_Lt ?_ ?_ impl_in_sh impl_in_run ?_
  · exact (fun _ h => absurd h List.not_mem_nil)
  · exact (fun _ h => absurd h List.not_mem_nil)
  · intro n p κ r ds hd hr
    have hr0 := hr
    unfold impl_in_run impl_in_runG at hr
    split at hr
    · rw [← ds_of hd]
      exact ⟨en_of (impl_in_en _ _ _) ⟨rfl, rfl⟩, (impl_in_ev n _ _ _ κ).trans hr0⟩
    · cases hr

/-! loop.example/g01297/impl.isCoord -/
def impl_isCoord_sh : List SkD := [.int .i64]
def impl_isCoord_runG {α : Type} (F : Nat → Int → (Bool → Option α) → Option α) (n : Nat) (p : List P1) (κ : Res → Option α) : Option α := match p with
  | [.int n_] => F n n_ (fun v1 => κ ⟨[.bool v1], []⟩)
  | _ => none
def impl_isCoord_run {α : Type} (n : Nat) (p : List P1) (κ : Res → Option α) : Option α := impl_isCoord_runG impl_isCoord n p κ
def impl_isCoord_CG {α : Type} (F0 : Nat → Int → Int → Int → (Bool → Option α) → Option α) (n : Nat) : FuncId → List D → (Res → Option α) → Option α := tabC [(92, (byShape impl_in_sh (impl_in_runG F0 n)))]
def impl_isCoord_C {α : Type} (n : Nat) : FuncId → List D → (Res → Option α) → Option α := impl_isCoord_CG impl_in n
def impl_isCoord_M : FuncId → List Nat := tabM []
def impl_isCoord_lpsG {α : Type}  : List (LoopT α) := []
def impl_isCoord_lps {α : Type} : List (LoopT α) := impl_isCoord_lpsG
def impl_isCoord_XG {α : Type} (F0 : Nat → Int → Int → Int → (Bool → Option α) → Option α)  (n : Nat) : Ctx α := ⟨impl_isCoord_CG F0 n, impl_isCoord_M, eqs, lpOf (impl_isCoord_lpsG) n⟩
def impl_isCoord_X {α : Type} (n : Nat) : Ctx α := impl_isCoord_XG impl_in n
def impl_isCoord_Lt (np : Nat) (lent : List (Bool × Nat × Blk)) : Prop := np = 1 ∧ lent = []
def impl_isCoord_body {α : Type} (F0 : Nat → Int → Int → Int → (Bool → Option α) → Option α)  (k : Nat) (n_ : Int) (r0 : Bool → Option α) : Option α :=
  F0 k n_ (-1000000) 1000000 fun v =>
  r0 v
theorem impl_isCoord_gen {α : Type} (F0 : Nat → Int → Int → Int → (Bool → Option α) → Option α)  (n : Nat) (n_ : Int) (κ : Res → Option α) : evFn Try.prog (impl_isCoord_XG F0 n) Try.f88 (((buildDs impl_isCoord_sh [.int n_]).map Prod.fst).getD []) κ = impl_isCoord_body F0 n n_ (fun v1 => κ ⟨[.bool v1], []⟩) := by kernel_rfl
theorem impl_isCoord_ev {α : Type} (n : Nat) (n_ : Int) (κ : Res → Option α) : evFn Try.prog (impl_isCoord_X n) Try.f88 (((buildDs impl_isCoord_sh [.int n_]).map Prod.fst).getD []) κ = impl_isCoord_run n [.int n_] κ := (impl_isCoord_gen impl_in n n_ κ).trans (by kernel_rfl)
theorem impl_isCoord_en (n_ : Int) : (entry 0 (((buildDs impl_isCoord_sh [.int n_]).map Prod.fst).getD [])).map (fun x => (x.1.length, x.2.lent)) = some (1, []) := by kernel_rfl
theorem impl_isCoord_good {α : Type} : ∀ n, GoodFn (α := α) Try.prog 88 (byShape impl_isCoord_sh (impl_isCoord_run n)) := by
  refine fn_good' Try.func88 (c := (Try.f88.body.getD .skip)) (by kernel_rfl) (by kernel_rfl) (by kernel_rfl) impl_isCoord_C impl_isCoord_M eqs impl_isCoord_lps (fun n => tabC_good (List.forall_mem_cons.2 ⟨(impl_in_good n), (fun _ h => absurd h List.not_mem_nil)⟩)) eqs_ok impl_isCoord_Lt ?_ ?_ impl_isCoord_sh impl_isCoord_run ?_
  · exact (fun _ h => absurd h List.not_mem_nil)
  · exact (fun _ h => absurd h List.not_mem_nil)
  · intro n p κ r ds hd hr
    have hr0 := hr
    unfold impl_isCoord_run impl_isCoord_runG at hr
    split at hr
    · rw [← ds_of hd]
      exact ⟨en_of (impl_isCoord_en _) ⟨rfl, rfl⟩, (impl_isCoord_ev n _ κ).trans hr0⟩
    · cases hr

/-! loop.example/g01297/impl.ratioOk -/
def impl_ratioOk_sh : List SkD := [.int .i64, .int .i64]
def impl_ratioOk_runG {α : Type} (F : Nat → Int → Int → (Bool → Option α) → Option α) (n : Nat) (p : List P1) (κ : Res → Option α) : Option α := match p with
  | [.int p_, .int q_] => F n p_ q_ (fun v1 => κ ⟨[.bool v1], []⟩)
  | _ => none
def impl_ratioOk_run {α : Type} (n : Nat) (p : List P1) (κ : Res → Option α) : Option α := impl_ratioOk_runG impl_ratioOk n p κ
def impl_ratioOk_CG {α : Type} (F0 : Nat → Int → (Bool → Option α) → Option α) (F1 : Nat → Int → Int → Int → (Bool → Option α) → Option α) (n : Nat) : FuncId → List D → (Res → Option α) → Option α := tabC [(88, (byShape impl_isCoord_sh (impl_isCoord_runG F0 n))), (92, (byShape impl_in_sh (impl_in_runG F1 n)))]
def impl_ratioOk_C {α : Type} (n : Nat) : FuncId → List D → (Res → Option α) → Option α := impl_ratioOk_CG impl_isCoord impl_in n
def impl_ratioOk_M : FuncId → List Nat := tabM []
def impl_ratioOk_lpsG {α : Type}  : List (LoopT α) := []
def impl_ratioOk_lps {α : Type} : List (LoopT α) := impl_ratioOk_lpsG
def impl_ratioOk_XG {α : Type} (F0 : Nat → Int → (Bool → Option α) → Option α) (F1 : Nat → Int → Int → Int → (Bool → Option α) → Option α)  (n : Nat) : Ctx α := ⟨impl_ratioOk_CG F0 F1 n, impl_ratioOk_M, eqs, lpOf (impl_ratioOk_lpsG) n⟩
def impl_ratioOk_X {α : Type} (n : Nat) : Ctx α := impl_ratioOk_XG impl_isCoord impl_in n
def impl_ratioOk_Lt (np : Nat) (lent : List (Bool × Nat × Blk)) : Prop := np = 2 ∧ lent = []
def impl_ratioOk_body {α : Type} (F0 : Nat → Int → (Bool → Option α) → Option α) (F1 : Nat → Int → Int → Int → (Bool → Option α) → Option α)  (k : Nat) (p_ : Int) (q_ : Int) (r0 : Bool → Option α) : Option α :=
  F0 k p_ fun v =>
  bif v then
    F1 k q_ 1 1000000 fun v1 =>
    r0 v1
  else
    r0 false
theorem impl_ratioOk_gen {α : Type} (F0 : Nat → Int → (Bool → Option α) → Option α) (F1 : Nat → Int → Int → Int → (Bool → Option α) → Option α)  (n : Nat) (p_ : Int) (q_ : Int) (κ : Res → Option α) : evFn Try.prog (impl_ratioOk_XG F0 F1 n) Try.f62 (((buildDs impl_ratioOk_sh [.int p_, .int q_]).map Prod.fst).getD []) κ = impl_ratioOk_body F0 F1 n p_ q_ (fun v1 => κ ⟨[.bool v1], []⟩) := by kernel_rfl
theorem impl_ratioOk_ev {α : Type} (n : Nat) (p_ : Int) (q_ : Int) (κ : Res → Option α) : evFn Try.prog (impl_ratioOk_X n) Try.f62 (((buildDs impl_ratioOk_sh [.int p_, .int q_]).map Prod.fst).getD []) κ = impl_ratioOk_run n [.int p_, .int q_] κ := (impl_ratioOk_gen impl_isCoord impl_in n p_ q_ κ).trans (by kernel_rfl)
theorem impl_ratioOk_en (p_ : Int) (q_ : Int) : (entry 0 (((buildDs impl_ratioOk_sh [.int p_, .int q_]).map Prod.fst).getD [])).map (fun x => (x.1.length, x.2.lent)) = some (2, []) := by kernel_rfl
theorem impl_ratioOk_good {α : Type} : ∀ n, GoodFn (α := α) Try.prog 62 (byShape impl_ratioOk_sh (impl_ratioOk_run n)) := by
  refine fn_good' Try.func62 (c := (Try.f62.body.getD .skip)) (by kernel_rfl) (by kernel_rfl) (by kernel_rfl) impl_ratioOk_C impl_ratioOk_M eqs impl_ratioOk_lps (fun n => tabC_good (List.forall_mem_cons.2 ⟨(impl_isCoord_good n), (List.forall_mem_cons.2 ⟨(impl_in_good n), (fun _ h => absurd h List.not_mem_nil)⟩)⟩)) eqs_ok impl_ratioOk_Lt ?_ ?_ impl_ratioOk_sh impl_ratioOk_run ?_
  · exact (fun _ h => absurd h List.not_mem_nil)
  · exact (fun _ h => absurd h List.not_mem_nil)
  · intro n p κ r ds hd hr
    have hr0 := hr
    unfold impl_ratioOk_run impl_ratioOk_runG at hr
    split at hr
    · rw [← ds_of hd]
      exact ⟨en_of (impl_ratioOk_en _ _) ⟨rfl, rfl⟩, (impl_ratioOk_ev n _ _ κ).trans hr0⟩
    · cases hr

/-! loop.example/g01297/impl.bestOk -/
def impl_bestOk_sh : List SkD := [.int .i64, .int .i64, .int .i64]
def impl_bestOk_runG {α : Type} (F : Nat → Int → Int → Int → (Bool → Option α) → Option α) (n : Nat) (p : List P1) (κ : Res → Option α) : Option α := match p with
  | [.int p_, .int q_, .int n_] => F n p_ q_ n_ (fun v1 => κ ⟨[.bool v1], []⟩)
  | _ => none
def impl_bestOk_run {α : Type} (n : Nat) (p : List P1) (κ : Res → Option α) : Option α := impl_bestOk_runG impl_bestOk n p κ
def impl_bestOk_CG {α : Type} (F0 : Nat → Int → Int → (Bool → Option α) → Option α) (F1 : Nat → Int → Int → Int → (Bool → Option α) → Option α) (n : Nat) : FuncId → List D → (Res → Option α) → Option α := tabC [(62, (byShape impl_ratioOk_sh (impl_ratioOk_runG F0 n))), (92, (byShape impl_in_sh (impl_in_runG F1 n)))]
def impl_bestOk_C {α : Type} (n : Nat) : FuncId → List D → (Res → Option α) → Option α := impl_bestOk_CG impl_ratioOk impl_in n
def impl_bestOk_M : FuncId → List Nat := tabM []
def impl_bestOk_lpsG {α : Type}  : List (LoopT α) := []
def impl_bestOk_lps {α : Type} : List (LoopT α) := impl_bestOk_lpsG
def impl_bestOk_XG {α : Type} (F0 : Nat → Int → Int → (Bool → Option α) → Option α) (F1 : Nat → Int → Int → Int → (Bool → Option α) → Option α)  (n : Nat) : Ctx α := ⟨impl_bestOk_CG F0 F1 n, impl_bestOk_M, eqs, lpOf (impl_bestOk_lpsG) n⟩
def impl_bestOk_X {α : Type} (n : Nat) : Ctx α := impl_bestOk_XG impl_ratioOk impl_in n
def impl_bestOk_Lt (np : Nat) (lent : List (Bool × Nat × Blk)) : Prop := np = 3 ∧ lent = []
def impl_bestOk_body {α : Type} (F0 : Nat → Int → Int → (Bool → Option α) → Option α) (F1 : Nat → Int → Int → Int → (Bool → Option α) → Option α)  (k : Nat) (p_ : Int) (q_ : Int) (n_ : Int) (r0 : Bool → Option α) : Option α :=
  F0 k p_ q_ fun v =>
  bif v then
    F1 k n_ 1 100000 fun v1 =>
    r0 v1
  else
    r0 false
theorem impl_bestOk_gen {α : Type} (F0 : Nat → Int → Int → (Bool → Option α) → Option α) (F1 : Nat → Int → Int → Int → (Bool → Option α) → Option α)  (n : Nat) (p_ : Int) (q_ : Int) (n_ : Int) (κ : Res → Option α) : evFn Try.prog (impl_bestOk_XG F0 F1 n) Try.f61 (((buildDs impl_bestOk_sh [.int p_, .int q_, .int n_]).map Prod.fst).getD []) κ = impl_bestOk_body F0 F1 n p_ q_ n_ (fun v1 => κ ⟨[.bool v1], []⟩) := by kernel_rfl
theorem impl_bestOk_ev {α : Type} (n : Nat) (p_ : Int) (q_ : Int) (n_ : Int) (κ : Res → Option α) : evFn Try.prog (impl_bestOk_X n) Try.f61 (((buildDs impl_bestOk_sh [.int p_, .int q_, .int n_]).map Prod.fst).getD []) κ = impl_bestOk_run n [.int p_, .int q_, .int n_] κ := (impl_bestOk_gen impl_ratioOk impl_in n p_ q_ n_ κ).trans (by kernel_rfl)
theorem impl_bestOk_en (p_ : Int) (q_ : Int) (n_ : Int) : (entry 0 (((buildDs impl_bestOk_sh [.int p_, .int q_, .int n_]).map Prod.fst).getD [])).map (fun x => (x.1.length, x.2.lent)) = some (3, []) := by kernel_rfl
theorem impl_bestOk_good {α : Type} : ∀ n, GoodFn (α := α) Try.prog 61 (byShape impl_bestOk_sh (impl_bestOk_run n)) := by
  refine fn_good' Try.func61 (c := (Try.f61.body.getD .skip)) (by kernel_rfl) (by kernel_rfl) (by kernel_rfl) impl_bestOk_C impl_bestOk_M eqs impl_bestOk_lps (fun n => tabC_good (List.forall_mem_cons.2 ⟨(impl_ratioOk_good n), (List.forall_mem_cons.2 ⟨(impl_in_good n), (fun _ h => absurd h List.not_mem_nil)⟩)⟩)) eqs_ok impl_bestOk_Lt ?_ ?_ impl_bestOk_sh impl_bestOk_run ?_
  · exact (fun _ h => absurd h List.not_mem_nil)
  · exact (fun _ h => absurd h List.not_mem_nil)
  · intro n p κ r ds hd hr
    have hr0 := hr
    unfold impl_bestOk_run impl_bestOk_runG at hr
    split at hr
    · rw [← ds_of hd]
      exact ⟨en_of (impl_bestOk_en _ _ _) ⟨rfl, rfl⟩, (impl_bestOk_ev n _ _ _ κ).trans hr0⟩
    · cases hr

/-! loop.example/g01297/impl.floor -/
def impl_floor_sh : List SkD := [.int .i64, .int .i64]
def impl_floor_runG {α : Type} (F : Nat → Int → Int → (Int → Option α) → Option α) (n : Nat) (p : List P1) (κ : Res → Option α) : Option α := match p with
  | [.int a, .int b_] => F n a b_ (fun v1 => κ ⟨[.int .i64 v1], []⟩)
  | _ => none
def impl_floor_run {α : Type} (n : Nat) (p : List P1) (κ : Res → Option α) : Option α := impl_floor_runG impl_floor n p κ
def impl_floor_CG {α : Type}  (n : Nat) : FuncId → List D → (Res → Option α) → Option α := tabC []
def impl_floor_C {α : Type} (n : Nat) : FuncId → List D → (Res → Option α) → Option α := impl_floor_CG n
def impl_floor_M : FuncId → List Nat := tabM []
def impl_floor_lpsG {α : Type}  : List (LoopT α) := []
def impl_floor_lps {α : Type} : List (LoopT α) := impl_floor_lpsG
def impl_floor_XG {α : Type}   (n : Nat) : Ctx α := ⟨impl_floor_CG n, impl_floor_M, eqs, lpOf (impl_floor_lpsG) n⟩
def impl_floor_X {α : Type} (n : Nat) : Ctx α := impl_floor_XG n
def impl_floor_Lt (np : Nat) (lent : List (Bool × Nat × Blk)) : Prop := np = 2 ∧ lent = []
def impl_floor_body {α : Type}   (k : Nat) (a : Int) (b_ : Int) (r0 : Int → Option α) : Option α :=
  bif decide (b_ = 0) then
    none
  else
  bif decide (b_ = 0) then
    none
  else
  bif (!decide ((Int.tmod a b_) = 0)) then
    bif (!(decide (a < 0) == decide (b_ < 0))) then
      r0 (w64 ((w64 (Int.tdiv a b_)) - 1))
    else
      r0 (w64 (Int.tdiv a b_))
  else
    r0 (w64 (Int.tdiv a b_))
theorem impl_floor_gen {α : Type}   (n : Nat) (a : Int) (b_ : Int) (κ : Res → Option α) : evFn Try.prog (impl_floor_XG n) Try.f112 (((buildDs impl_floor_sh [.int a, .int b_]).map Prod.fst).getD []) κ = impl_floor_body n a b_ (fun v1 => κ ⟨[.int .i64 v1], []⟩) := by kernel_rfl
theorem impl_floor_ev {α : Type} (n : Nat) (a : Int) (b_ : Int) (κ : Res → Option α) : evFn Try.prog (impl_floor_X n) Try.f112 (((buildDs impl_floor_sh [.int a, .int b_]).map Prod.fst).getD []) κ = impl_floor_run n [.int a, .int b_] κ := (impl_floor_gen n a b_ κ).trans (by kernel_rfl)
theorem impl_floor_en (a : Int) (b_ : Int) : (entry 0 (((buildDs impl_floor_sh [.int a, .int b_]).map Prod.fst).getD [])).map (fun x => (x.1.length, x.2.lent)) = some (2, []) := by kernel_rfl
theorem impl_floor_good {α : Type} : ∀ n, GoodFn (α := α) Try.prog 112 (byShape impl_floor_sh (impl_floor_run n)) := by
  refine fn_good' Try.func112 (c := (Try.f112.body.getD .skip)) (by kernel_rfl) (by kernel_rfl) (by kernel_rfl) impl_floor_C impl_floor_M eqs impl_floor_lps (fun n => tabC_good (fun _ h => absurd h List.not_mem_nil)) eqs_ok impl_floor_Lt ?_ ?_ impl_floor_sh impl_floor_run ?_
  · exact (fun _ h => absurd h List.not_mem_nil)
  · exact (fun _ h => absurd h List.not_mem_nil)
  · intro n p κ r ds hd hr
    have hr0 := hr
    unfold impl_floor_run impl_floor_runG at hr
    split at hr
    · rw [← ds_of hd]
      exact ⟨en_of (impl_floor_en _ _) ⟨rfl, rfl⟩, (impl_floor_ev n _ _ κ).trans hr0⟩
    · cases hr

/-! loop.example/g01297/impl.size -/
def impl_size_sh : List SkD := [.int .i64]
def impl_size_runG {α : Type} (F : Nat → Int → (Int → Option α) → Option α) (n : Nat) (p : List P1) (κ : Res → Option α) : Option α := match p with
  | [.int n_] => F n n_ (fun v1 => κ ⟨[.int .i64 v1], []⟩)
  | _ => none
def impl_size_run {α : Type} (n : Nat) (p : List P1) (κ : Res → Option α) : Option α := impl_size_runG impl_size n p κ
def impl_size_CG {α : Type}  (n : Nat) : FuncId → List D → (Res → Option α) → Option α := tabC []
def impl_size_C {α : Type} (n : Nat) : FuncId → List D → (Res → Option α) → Option α := impl_size_CG n
def impl_size_M : FuncId → List Nat := tabM []
def impl_size_lpsG {α : Type}  : List (LoopT α) := []
def impl_size_lps {α : Type} : List (LoopT α) := impl_size_lpsG
def impl_size_XG {α : Type}   (n : Nat) : Ctx α := ⟨impl_size_CG n, impl_size_M, eqs, lpOf (impl_size_lpsG) n⟩
def impl_size_X {α : Type} (n : Nat) : Ctx α := impl_size_XG n
def impl_size_Lt (np : Nat) (lent : List (Bool × Nat × Blk)) : Prop := np = 1 ∧ lent = []
def impl_size_body {α : Type}   (k : Nat) (n_ : Int) (r0 : Int → Option α) : Option α :=
  r0 (max n_ (w64 (0 - n_)))
theorem impl_size_gen {α : Type}   (n : Nat) (n_ : Int) (κ : Res → Option α) : evFn Try.prog (impl_size_XG n) Try.f93 (((buildDs impl_size_sh [.int n_]).map Prod.fst).getD []) κ = impl_size_body n n_ (fun v1 => κ ⟨[.int .i64 v1], []⟩) := by kernel_rfl
theorem impl_size_ev {α : Type} (n : Nat) (n_ : Int) (κ : Res → Option α) : evFn Try.prog (impl_size_X n) Try.f93 (((buildDs impl_size_sh [.int n_]).map Prod.fst).getD []) κ = impl_size_run n [.int n_] κ := (impl_size_gen n n_ κ).trans (by kernel_rfl)
theorem impl_size_en (n_ : Int) : (entry 0 (((buildDs impl_size_sh [.int n_]).map Prod.fst).getD [])).map (fun x => (x.1.length, x.2.lent)) = some (1, []) := by kernel_rfl
theorem impl_size_good {α : Type} : ∀ n, GoodFn (α := α) Try.prog 93 (byShape impl_size_sh (impl_size_run n)) := by
  refine fn_good' Try.func93 (c := (Try.f93.body.getD .skip)) (by kernel_rfl) (by kernel_rfl) (by kernel_rfl) impl_size_C impl_size_M eqs impl_size_lps (fun n => tabC_good (fun _ h => absurd h List.not_mem_nil)) eqs_ok impl_size_Lt ?_ ?_ impl_size_sh impl_size_run ?_
  · exact (fun _ h => absurd h List.not_mem_nil)
  · exact (fun _ h => absurd h List.not_mem_nil)
  · intro n p κ r ds hd hr
    have hr0 := hr
    unfold impl_size_run impl_size_runG at hr
    split at hr
    · rw [← ds_of hd]
      exact ⟨en_of (impl_size_en _) ⟨rfl, rfl⟩, (impl_size_ev n _ κ).trans hr0⟩
    · cases hr

/-! loop.example/g01297/impl.bestOfFirst$1 -/
def impl_bestOfFirst_1_sh : List SkD := [.int .i64]
def impl_bestOfFirst_1_runG {α : Type} (F : Nat → Int → (Int → Option α) → Option α) (n : Nat) (p : List P1) (κ : Res → Option α) : Option α := match p with
  | [.int k_] => F n k_ (fun v1 => κ ⟨[.int .i64 v1], []⟩)
  | _ => none
def impl_bestOfFirst_1_run {α : Type} (n : Nat) (p : List P1) (κ : Res → Option α) : Option α := impl_bestOfFirst_1_runG impl_bestOfFirst_1 n p κ
def impl_bestOfFirst_1_CG {α : Type}  (n : Nat) : FuncId → List D → (Res → Option α) → Option α := tabC []
def impl_bestOfFirst_1_C {α : Type} (n : Nat) : FuncId → List D → (Res → Option α) → Option α := impl_bestOfFirst_1_CG n
def impl_bestOfFirst_1_M : FuncId → List Nat := tabM []
def impl_bestOfFirst_1_lpsG {α : Type}  : List (LoopT α) := []
def impl_bestOfFirst_1_lps {α : Type} : List (LoopT α) := impl_bestOfFirst_1_lpsG
def impl_bestOfFirst_1_XG {α : Type}   (n : Nat) : Ctx α := ⟨impl_bestOfFirst_1_CG n, impl_bestOfFirst_1_M, eqs, lpOf (impl_bestOfFirst_1_lpsG) n⟩
def impl_bestOfFirst_1_X {α : Type} (n : Nat) : Ctx α := impl_bestOfFirst_1_XG n
def impl_bestOfFirst_1_Lt (np : Nat) (lent : List (Bool × Nat × Blk)) : Prop := np = 1 ∧ lent = []
def impl_bestOfFirst_1_body {α : Type}   (k : Nat) (k_ : Int) (r0 : Int → Option α) : Option α :=
  r0 k_
theorem impl_bestOfFirst_1_gen {α : Type}   (n : Nat) (k_ : Int) (κ : Res → Option α) : evFn Try.prog (impl_bestOfFirst_1_XG n) Try.f100 (((buildDs impl_bestOfFirst_1_sh [.int k_]).map Prod.fst).getD []) κ = impl_bestOfFirst_1_body n k_ (fun v1 => κ ⟨[.int .i64 v1], []⟩) := by kernel_rfl
theorem impl_bestOfFirst_1_ev {α : Type} (n : Nat) (k_ : Int) (κ : Res → Option α) : evFn Try.prog (impl_bestOfFirst_1_X n) Try.f100 (((buildDs impl_bestOfFirst_1_sh [.int k_]).map Prod.fst).getD []) κ = impl_bestOfFirst_1_run n [.int k_] κ := (impl_bestOfFirst_1_gen n k_ κ).trans (by kernel_rfl)
theorem impl_bestOfFirst_1_en (k_ : Int) : (entry 0 (((buildDs impl_bestOfFirst_1_sh [.int k_]).map Prod.fst).getD [])).map (fun x => (x.1.length, x.2.lent)) = some (1, []) := by kernel_rfl
theorem impl_bestOfFirst_1_good {α : Type} : ∀ n, GoodFn (α := α) Try.prog 100 (byShape impl_bestOfFirst_1_sh (impl_bestOfFirst_1_run n)) := by
  refine fn_good' Try.func100 (c := (Try.f100.body.getD .skip)) (by kernel_rfl) (by kernel_rfl) (by kernel_rfl) impl_bestOfFirst_1_C impl_bestOfFirst_1_M eqs impl_bestOfFirst_1_lps (fun n => tabC_good (fun _ h => absurd h List.not_mem_nil)) eqs_ok impl_bestOfFirst_1_Lt ?_ ?_ impl_bestOfFirst_1_sh impl_bestOfFirst_1_run ?_
  · exact (fun _ h => absurd h List.not_mem_nil)
  · exact (fun _ h => absurd h List.not_mem_nil)
  · intro n p κ r ds hd hr
    have hr0 := hr
    unfold impl_bestOfFirst_1_run impl_bestOfFirst_1_runG at hr
    split at hr
    · rw [← ds_of hd]
      exact ⟨en_of (impl_bestOfFirst_1_en _) ⟨rfl, rfl⟩, (impl_bestOfFirst_1_ev n _ κ).trans hr0⟩
    · cases hr

/-! loop.example/g01297/impl.records -/
def impl_records_3F_impl_bestOfFirst_1_sh : List SkD := [.int .i64, .int .i64, .int .i64, .fn 100 []]
def impl_records_3F_impl_bestOfFirst_1_runG {α : Type} (F : Nat → Int → Int → Int → ((List (Int × Int)) → Option α) → Option α) (n : Nat) (p : List P1) (κ : Res → Option α) : Option α := match p with
  | [.int p_, .int q_, .int n_] => F n p_ q_ n_ (fun v1 => κ ⟨[.sl 31 .pt v1], []⟩)
  | _ => none
def impl_records_3F_impl_bestOfFirst_1_run {α : Type} (n : Nat) (p : List P1) (κ : Res → Option α) : Option α := impl_records_3F_impl_bestOfFirst_1_runG impl_records_3F_impl_bestOfFirst_1 n p κ
def impl_records_3F_impl_bestOfFirst_1_CG {α : Type} (F0 : Nat → Int → Int → (Int → Option α) → Option α) (F1 : Nat → Int → (Int → Option α) → Option α) (F2 : Nat → Int → (Int → Option α) → Option α) (n : Nat) : FuncId → List D → (Res → Option α) → Option α := tabC [(112, (byShape impl_floor_sh (impl_floor_runG F0 n))), (93, (byShape impl_size_sh (impl_size_runG F1 n))), (100, (byShape impl_bestOfFirst_1_sh (impl_bestOfFirst_1_runG F2 n)))]
def impl_records_3F_impl_bestOfFirst_1_C {α : Type} (n : Nat) : FuncId → List D → (Res → Option α) → Option α := impl_records_3F_impl_bestOfFirst_1_CG impl_floor impl_size impl_bestOfFirst_1 n
def impl_records_3F_impl_bestOfFirst_1_M : FuncId → List Nat := tabM []
def impl_records_3F_impl_bestOfFirst_1_t3 : Tpl := ⟨[.int .i64, .int .i64, .int .i64, .fn 100 [], .any, .any, .any, .any, .any, .sl 1024, .int .i64, .int .i64, .int .i64, .any, .any, .any, .any, .any, .any, .any, .any, .any, .any, .any, .any, .any, .any, .any, .any, .any, .any, .any, .any, .any, .any, .any, .any, .any, .any, .any, .any, .any, .any, .any, .any, .any, .any, .any, .any, .any, .any, .any, .any, .any, .any, .any, .any, .any, .any, .any, .any, .any, .any, .any, .any, .any, .any, .any, .any, .any, .any, .any], [(1024, .rows 2 31 .pt)], []⟩
def impl_records_3F_impl_bestOfFirst_1_uG3 {α : Type} (G : Nat → Int → Int → Int → Int → Int → Int → (List (Int × Int)) → (Int → Int → Int → Int → Int → Int → (List (Int × Int)) → Option α) → ((List (Int × Int)) → Option α) → Option α) (n : Nat) (p : List P1) (brk : Nat → List P1 → Option α) (ret : Res → Option α) : Option α := match p with
  | [.int p_1, .int q_1, .int n_1, .int best, .int bestBy, .int k_, .rows .pt out] => G n p_1 q_1 n_1 best bestBy k_ out (fun p_1 q_1 n_1 best bestBy k_ out => brk 0 [.int p_1, .int q_1, .int n_1, .int best, .int bestBy, .int k_, .rows .pt out]) (fun v1 => ret ⟨[.sl 31 .pt v1], []⟩)
  | _ => none
def impl_records_3F_impl_bestOfFirst_1_u3 {α : Type} (n : Nat) (p : List P1) (brk : Nat → List P1 → Option α) (ret : Res → Option α) : Option α := impl_records_3F_impl_bestOfFirst_1_uG3 impl_records_3F_impl_bestOfFirst_1_l3 n p brk ret
def impl_records_3F_impl_bestOfFirst_1_lpsG {α : Type} (G3 : Nat → Int → Int → Int → Int → Int → Int → (List (Int × Int)) → (Int → Int → Int → Int → Int → Int → (List (Int × Int)) → Option α) → ((List (Int × Int)) → Option α) → Option α) : List (LoopT α) := [⟨3, impl_records_3F_impl_bestOfFirst_1_t3, impl_records_3F_impl_bestOfFirst_1_uG3 G3⟩]
def impl_records_3F_impl_bestOfFirst_1_lps {α : Type} : List (LoopT α) := impl_records_3F_impl_bestOfFirst_1_lpsG impl_records_3F_impl_bestOfFirst_1_l3
def impl_records_3F_impl_bestOfFirst_1_XG {α : Type} (F0 : Nat → Int → Int → (Int → Option α) → Option α) (F1 : Nat → Int → (Int → Option α) → Option α) (F2 : Nat → Int → (Int → Option α) → Option α) (G3 : Nat → Int → Int → Int → Int → Int → Int → (List (Int × Int)) → (Int → Int → Int → Int → Int → Int → (List (Int × Int)) → Option α) → ((List (Int × Int)) → Option α) → Option α) (n : Nat) : Ctx α := ⟨impl_records_3F_impl_bestOfFirst_1_CG F0 F1 F2 n, impl_records_3F_impl_bestOfFirst_1_M, eqs, lpOf (impl_records_3F_impl_bestOfFirst_1_lpsG G3) n⟩
def impl_records_3F_impl_bestOfFirst_1_X {α : Type} (n : Nat) : Ctx α := impl_records_3F_impl_bestOfFirst_1_XG impl_floor impl_size impl_bestOfFirst_1 impl_records_3F_impl_bestOfFirst_1_l3 n
def impl_records_3F_impl_bestOfFirst_1_Lt (np : Nat) (lent : List (Bool × Nat × Blk)) : Prop := np = 4 ∧ lent = []
def impl_records_3F_impl_bestOfFirst_1_lb3 {α : Type} (F0 : Nat → Int → Int → (Int → Option α) → Option α) (F1 : Nat → Int → (Int → Option α) → Option α) (F2 : Nat → Int → (Int → Option α) → Option α) (G3 : Nat → Int → Int → Int → Int → Int → Int → (List (Int × Int)) → (Int → Int → Int → Int → Int → Int → (List (Int × Int)) → Option α) → ((List (Int × Int)) → Option α) → Option α) (k : Nat) (p_1 : Int) (q_1 : Int) (n_1 : Int) (best : Int) (bestBy : Int) (k_ : Int) (out : List (Int × Int)) (b0 : Int → Int → Int → Int → Int → Int → (List (Int × Int)) → Option α) (r0 : (List (Int × Int)) → Option α) : Option α :=
  bif decide (k_ ≤ n_1) then
    F0 k (w64 (k_ * p_1)) q_1 fun v =>
    bif decide (q_1 < (w64 (2 * (w64 ((w64 (k_ * p_1)) - (w64 (v * q_1))))))) then
      F1 k (w64 ((w64 (k_ * p_1)) - (w64 ((w64 (v + 1)) * q_1)))) fun v1 =>
      bif decide (bestBy = 0) then
        bif decide (((List.length out) + 1) ≤ big) then
          F2 k k_ fun v2 =>
          G3 k p_1 q_1 n_1 v1 v2 (w64 (k_ + 1)) (out ++ [((w64 (v + 1)), k_)]) b0 r0
        else
          none
      else
        F2 k k_ fun v3 =>
        bif decide ((w64 (v1 * bestBy)) < (w64 (best * v3))) then
          bif decide (((List.length out) + 1) ≤ big) then
            F2 k k_ fun v4 =>
            G3 k p_1 q_1 n_1 v1 v4 (w64 (k_ + 1)) (out ++ [((w64 (v + 1)), k_)]) b0 r0
          else
            none
        else
          G3 k p_1 q_1 n_1 best bestBy (w64 (k_ + 1)) out b0 r0
    else
      F1 k (w64 ((w64 (k_ * p_1)) - (w64 (v * q_1)))) fun v5 =>
      bif decide (bestBy = 0) then
        bif decide (((List.length out) + 1) ≤ big) then
          F2 k k_ fun v6 =>
          G3 k p_1 q_1 n_1 v5 v6 (w64 (k_ + 1)) (out ++ [(v, k_)]) b0 r0
        else
          none
      else
        F2 k k_ fun v7 =>
        bif decide ((w64 (v5 * bestBy)) < (w64 (best * v7))) then
          bif decide (((List.length out) + 1) ≤ big) then
            F2 k k_ fun v8 =>
            G3 k p_1 q_1 n_1 v5 v8 (w64 (k_ + 1)) (out ++ [(v, k_)]) b0 r0
          else
            none
        else
          G3 k p_1 q_1 n_1 best bestBy (w64 (k_ + 1)) out b0 r0
  else
    b0 p_1 q_1 n_1 best bestBy k_ out
theorem impl_records_3F_impl_bestOfFirst_1_l3_gen {α : Type} (F0 : Nat → Int → Int → (Int → Option α) → Option α) (F1 : Nat → Int → (Int → Option α) → Option α) (F2 : Nat → Int → (Int → Option α) → Option α) (G3 : Nat → Int → Int → Int → Int → Int → Int → (List (Int × Int)) → (Int → Int → Int → Int → Int → Int → (List (Int × Int)) → Option α) → ((List (Int × Int)) → Option α) → Option α) (n : Nat) (p_1 : Int) (q_1 : Int) (n_1 : Int) (best : Int) (bestBy : Int) (k_ : Int) (out : List (Int × Int)) (brk : Nat → List P1 → Option α) (ret : Res → Option α) : ev ((impl_records_3F_impl_bestOfFirst_1_XG F0 F1 F2 G3 n).env Try.prog Try.f75 4 []) (findLoop (loopsIn (Try.f75.body.getD .skip)) 3) ((impl_records_3F_impl_bestOfFirst_1_t3.build [.int p_1, .int q_1, .int n_1, .int best, .int bestBy, .int k_, .rows .pt out]).getD ⟨[], []⟩) (roundK (4 * 64) impl_records_3F_impl_bestOfFirst_1_t3 (fun q => impl_records_3F_impl_bestOfFirst_1_uG3 G3 n q brk ret) brk ret) = impl_records_3F_impl_bestOfFirst_1_lb3 F0 F1 F2 G3 n p_1 q_1 n_1 best bestBy k_ out (fun p_1 q_1 n_1 best bestBy k_ out => brk 0 [.int p_1, .int q_1, .int n_1, .int best, .int bestBy, .int k_, .rows .pt out]) (fun v1 => ret ⟨[.sl 31 .pt v1], []⟩) := by kernel_rfl
theorem impl_records_3F_impl_bestOfFirst_1_l3_ev {α : Type} (n : Nat) (p_1 : Int) (q_1 : Int) (n_1 : Int) (best : Int) (bestBy : Int) (k_ : Int) (out : List (Int × Int)) (brk : Nat → List P1 → Option α) (ret : Res → Option α) : ev ((impl_records_3F_impl_bestOfFirst_1_X n).env Try.prog Try.f75 4 []) (findLoop (loopsIn (Try.f75.body.getD .skip)) 3) ((impl_records_3F_impl_bestOfFirst_1_t3.build [.int p_1, .int q_1, .int n_1, .int best, .int bestBy, .int k_, .rows .pt out]).getD ⟨[], []⟩) (roundK (4 * 64) impl_records_3F_impl_bestOfFirst_1_t3 (fun q => impl_records_3F_impl_bestOfFirst_1_u3 n q brk ret) brk ret) = impl_records_3F_impl_bestOfFirst_1_u3 (n + 1) [.int p_1, .int q_1, .int n_1, .int best, .int bestBy, .int k_, .rows .pt out] brk ret := (impl_records_3F_impl_bestOfFirst_1_l3_gen impl_floor impl_size impl_bestOfFirst_1 impl_records_3F_impl_bestOfFirst_1_l3 n p_1 q_1 n_1 best bestBy k_ out brk ret).trans (by kernel_rfl)
def impl_records_3F_impl_bestOfFirst_1_body {α : Type} (F0 : Nat → Int → Int → (Int → Option α) → Option α) (F1 : Nat → Int → (Int → Option α) → Option α) (F2 : Nat → Int → (Int → Option α) → Option α) (G3 : Nat → Int → Int → Int → Int → Int → Int → (List (Int × Int)) → (Int → Int → Int → Int → Int → Int → (List (Int × Int)) → Option α) → ((List (Int × Int)) → Option α) → Option α) (k : Nat) (p_ : Int) (q_ : Int) (n_ : Int) (r0 : (List (Int × Int)) → Option α) : Option α :=
  G3 k p_ q_ n_ 0 0 1 []
    (fun p_2 q_2 n_2 best1 bestBy1 k_1 out1 =>
      r0 out1)
    r0
theorem impl_records_3F_impl_bestOfFirst_1_gen {α : Type} (F0 : Nat → Int → Int → (Int → Option α) → Option α) (F1 : Nat → Int → (Int → Option α) → Option α) (F2 : Nat → Int → (Int → Option α) → Option α) (G3 : Nat → Int → Int → Int → Int → Int → Int → (List (Int × Int)) → (Int → Int → Int → Int → Int → Int → (List (Int × Int)) → Option α) → ((List (Int × Int)) → Option α) → Option α) (n : Nat) (p_ : Int) (q_ : Int) (n_ : Int) (κ : Res → Option α) : evFn Try.prog (impl_records_3F_impl_bestOfFirst_1_XG F0 F1 F2 G3 n) Try.f75 (((buildDs impl_records_3F_impl_bestOfFirst_1_sh [.int p_, .int q_, .int n_]).map Prod.fst).getD []) κ = impl_records_3F_impl_bestOfFirst_1_body F0 F1 F2 G3 n p_ q_ n_ (fun v1 => κ ⟨[.sl 31 .pt v1], []⟩) := by kernel_rfl
theorem impl_records_3F_impl_bestOfFirst_1_ev {α : Type} (n : Nat) (p_ : Int) (q_ : Int) (n_ : Int) (κ : Res → Option α) : evFn Try.prog (impl_records_3F_impl_bestOfFirst_1_X n) Try.f75 (((buildDs impl_records_3F_impl_bestOfFirst_1_sh [.int p_, .int q_, .int n_]).map Prod.fst).getD []) κ = impl_records_3F_impl_bestOfFirst_1_run n [.int p_, .int q_, .int n_] κ := (impl_records_3F_impl_bestOfFirst_1_gen impl_floor impl_size impl_bestOfFirst_1 impl_records_3F_impl_bestOfFirst_1_l3 n p_ q_ n_ κ).trans (by kernel_rfl)
theorem impl_records_3F_impl_bestOfFirst_1_en (p_ : Int) (q_ : Int) (n_ : Int) : (entry 0 (((buildDs impl_records_3F_impl_bestOfFirst_1_sh [.int p_, .int q_, .int n_]).map Prod.fst).getD [])).map (fun x => (x.1.length, x.2.lent)) = some (4, []) := by kernel_rfl
theorem impl_records_3F_impl_bestOfFirst_1_good {α : Type} : ∀ n, GoodFn (α := α) Try.prog 75 (byShape impl_records_3F_impl_bestOfFirst_1_sh (impl_records_3F_impl_bestOfFirst_1_run n)) := by
  refine fn_good' Try.func75 (c := (Try.f75.body.getD .skip)) (by kernel_rfl) (by kernel_rfl) (by kernel_rfl) impl_records_3F_impl_bestOfFirst_1_C impl_records_3F_impl_bestOfFirst_1_M eqs impl_records_3F_impl_bestOfFirst_1_lps (fun n => tabC_good (List.forall_mem_cons.2 ⟨(impl_floor_good n), (List.forall_mem_cons.2 ⟨(impl_size_good n), (List.forall_mem_cons.2 ⟨(impl_bestOfFirst_1_good n), (fun _ h => absurd h List.not_mem_nil)⟩)⟩)⟩)) eqs_ok impl_records_3F_impl_bestOfFirst_1_Lt ?_ ?_ impl_records_3F_impl_bestOfFirst_1_sh impl_records_3F_impl_bestOfFirst_1_run ?_
  · refine List.forall_mem_cons.2 ⟨?_, (fun _ h => absurd h List.not_mem_nil)⟩
    · intro p brk ret; show impl_records_3F_impl_bestOfFirst_1_u3 0 p brk ret = none; unfold impl_records_3F_impl_bestOfFirst_1_u3 impl_records_3F_impl_bestOfFirst_1_uG3; split <;> rfl
  · refine List.forall_mem_cons.2 ⟨?_, (fun _ h => absurd h List.not_mem_nil)⟩
    · intro np lent hL n p brk ret st r hb hr
      obtain ⟨rfl, rfl⟩ := hL
      rw [← tpl_of hb]
      change impl_records_3F_impl_bestOfFirst_1_u3 (n + 1) p brk ret = some r at hr
      have hr0 := hr
      unfold impl_records_3F_impl_bestOfFirst_1_u3 impl_records_3F_impl_bestOfFirst_1_uG3 at hr
      split at hr
      · exact (impl_records_3F_impl_bestOfFirst_1_l3_ev n _ _ _ _ _ _ _ brk ret).trans hr0
      · cases hr
  · intro n p κ r ds hd hr
    have hr0 := hr
    unfold impl_records_3F_impl_bestOfFirst_1_run impl_records_3F_impl_bestOfFirst_1_runG at hr
    split at hr
    · rw [← ds_of hd]
      exact ⟨en_of (impl_records_3F_impl_bestOfFirst_1_en _ _ _) ⟨rfl, rfl⟩, (impl_records_3F_impl_bestOfFirst_1_ev n _ _ _ κ).trans hr0⟩
    · cases hr

/-! loop.example/g01297/impl.bestOfFirst -/
def impl_bestOfFirst_sh : List SkD := [.int .i64, .int .i64, .int .i64]
def impl_bestOfFirst_runG {α : Type} (F : Nat → Int → Int → Int → ((List (Int × Int)) → Option α) → Option α) (n : Nat) (p : List P1) (κ : Res → Option α) : Option α := match p with
  | [.int p_, .int q_, .int n_] => F n p_ q_ n_ (fun v1 => κ ⟨[.sl 31 .pt v1], []⟩)
  | _ => none
def impl_bestOfFirst_run {α : Type} (n : Nat) (p : List P1) (κ : Res → Option α) : Option α := impl_bestOfFirst_runG impl_bestOfFirst n p κ
def impl_bestOfFirst_CG {α : Type} (F0 : Nat → Int → Int → Int → ((List (Int × Int)) → Option α) → Option α) (n : Nat) : FuncId → List D → (Res → Option α) → Option α := tabC [(75, (byShape impl_records_3F_impl_bestOfFirst_1_sh (impl_records_3F_impl_bestOfFirst_1_runG F0 n)))]
def impl_bestOfFirst_C {α : Type} (n : Nat) : FuncId → List D → (Res → Option α) → Option α := impl_bestOfFirst_CG impl_records_3F_impl_bestOfFirst_1 n
def impl_bestOfFirst_M : FuncId → List Nat := tabM []
def impl_bestOfFirst_lpsG {α : Type}  : List (LoopT α) := []
def impl_bestOfFirst_lps {α : Type} : List (LoopT α) := impl_bestOfFirst_lpsG
def impl_bestOfFirst_XG {α : Type} (F0 : Nat → Int → Int → Int → ((List (Int × Int)) → Option α) → Option α)  (n : Nat) : Ctx α := ⟨impl_bestOfFirst_CG F0 n, impl_bestOfFirst_M, eqs, lpOf (impl_bestOfFirst_lpsG) n⟩
def impl_bestOfFirst_X {α : Type} (n : Nat) : Ctx α := impl_bestOfFirst_XG impl_records_3F_impl_bestOfFirst_1 n
def impl_bestOfFirst_Lt (np : Nat) (lent : List (Bool × Nat × Blk)) : Prop := np = 3 ∧ lent = []
def impl_bestOfFirst_body {α : Type} (F0 : Nat → Int → Int → Int → ((List (Int × Int)) → Option α) → Option α)  (k : Nat) (p_ : Int) (q_ : Int) (n_ : Int) (r0 : (List (Int × Int)) → Option α) : Option α :=
  F0 k p_ q_ n_ fun v =>
  r0 v
theorem impl_bestOfFirst_gen {α : Type} (F0 : Nat → Int → Int → Int → ((List (Int × Int)) → Option α) → Option α)  (n : Nat) (p_ : Int) (q_ : Int) (n_ : Int) (κ : Res → Option α) : evFn Try.prog (impl_bestOfFirst_XG F0 n) Try.f65 (((buildDs impl_bestOfFirst_sh [.int p_, .int q_, .int n_]).map Prod.fst).getD []) κ = impl_bestOfFirst_body F0 n p_ q_ n_ (fun v1 => κ ⟨[.sl 31 .pt v1], []⟩) := by kernel_rfl
theorem impl_bestOfFirst_ev {α : Type} (n : Nat) (p_ : Int) (q_ : Int) (n_ : Int) (κ : Res → Option α) : evFn Try.prog (impl_bestOfFirst_X n) Try.f65 (((buildDs impl_bestOfFirst_sh [.int p_, .int q_, .int n_]).map Prod.fst).getD []) κ = impl_bestOfFirst_run n [.int p_, .int q_, .int n_] κ := (impl_bestOfFirst_gen impl_records_3F_impl_bestOfFirst_1 n p_ q_ n_ κ).trans (by kernel_rfl)
theorem impl_bestOfFirst_en (p_ : Int) (q_ : Int) (n_ : Int) : (entry 0 (((buildDs impl_bestOfFirst_sh [.int p_, .int q_, .int n_]).map Prod.fst).getD [])).map (fun x => (x.1.length, x.2.lent)) = some (3, []) := by kernel_rfl
theorem impl_bestOfFirst_good {α : Type} : ∀ n, GoodFn (α := α) Try.prog 65 (byShape impl_bestOfFirst_sh (impl_bestOfFirst_run n)) := by
  refine fn_good' Try.func65 (c := (Try.f65.body.getD .skip)) (by kernel_rfl) (by kernel_rfl) (by kernel_rfl) impl_bestOfFirst_C impl_bestOfFirst_M eqs impl_bestOfFirst_lps (fun n => tabC_good (List.forall_mem_cons.2 ⟨(impl_records_3F_impl_bestOfFirst_1_good n), (fun _ h => absurd h List.not_mem_nil)⟩)) eqs_ok impl_bestOfFirst_Lt ?_ ?_ impl_bestOfFirst_sh impl_bestOfFirst_run ?_
  · exact (fun _ h => absurd h List.not_mem_nil)
  · exact (fun _ h => absurd h List.not_mem_nil)
  · intro n p κ r ds hd hr
    have hr0 := hr
    unfold impl_bestOfFirst_run impl_bestOfFirst_runG at hr
    split at hr
    · rw [← ds_of hd]
      exact ⟨en_of (impl_bestOfFirst_en _ _ _) ⟨rfl, rfl⟩, (impl_bestOfFirst_ev n _ _ _ κ).trans hr0⟩
    · cases hr

/-! loop.example/g01297/impl.BestOfFirst -/
def impl_BestOfFirst_sh : List SkD := [.int .i64, .int .i64, .int .i64]
def impl_BestOfFirst_runG {α : Type} (F : Nat → Int → Int → Int → (Int → Option α) → ((List (Int × Int)) → Int → Option α) → Option α) (n : Nat) (p : List P1) (κ : Res → Option α) : Option α := match p with
  | [.int p_, .int q_, .int n_] => F n p_ q_ n_ (fun v1 => κ ⟨[.nilsl, .int .i64 v1], []⟩) (fun v1 v2 => κ ⟨[.sl 31 .pt v1, .int .i64 v2], []⟩)
  | _ => none
def impl_BestOfFirst_run {α : Type} (n : Nat) (p : List P1) (κ : Res → Option α) : Option α := impl_BestOfFirst_runG impl_BestOfFirst n p κ
def impl_BestOfFirst_CG {α : Type} (F0 : Nat → Int → Int → Int → (Bool → Option α) → Option α) (F1 : Nat → Int → Int → Int → ((List (Int × Int)) → Option α) → Option α) (n : Nat) : FuncId → List D → (Res → Option α) → Option α := tabC [(61, (byShape impl_bestOk_sh (impl_bestOk_runG F0 n))), (65, (byShape impl_bestOfFirst_sh (impl_bestOfFirst_runG F1 n)))]
def impl_BestOfFirst_C {α : Type} (n : Nat) : FuncId → List D → (Res → Option α) → Option α := impl_BestOfFirst_CG impl_bestOk impl_bestOfFirst n
def impl_BestOfFirst_M : FuncId → List Nat := tabM []
def impl_BestOfFirst_lpsG {α : Type}  : List (LoopT α) := []
def impl_BestOfFirst_lps {α : Type} : List (LoopT α) := impl_BestOfFirst_lpsG
def impl_BestOfFirst_XG {α : Type} (F0 : Nat → Int → Int → Int → (Bool → Option α) → Option α) (F1 : Nat → Int → Int → Int → ((List (Int × Int)) → Option α) → Option α)  (n : Nat) : Ctx α := ⟨impl_BestOfFirst_CG F0 F1 n, impl_BestOfFirst_M, eqs, lpOf (impl_BestOfFirst_lpsG) n⟩
def impl_BestOfFirst_X {α : Type} (n : Nat) : Ctx α := impl_BestOfFirst_XG impl_bestOk impl_bestOfFirst n
def impl_BestOfFirst_Lt (np : Nat) (lent : List (Bool × Nat × Blk)) : Prop := np = 3 ∧ lent = []
def impl_BestOfFirst_body {α : Type} (F0 : Nat → Int → Int → Int → (Bool → Option α) → Option α) (F1 : Nat → Int → Int → Int → ((List (Int × Int)) → Option α) → Option α)  (k : Nat) (p_ : Int) (q_ : Int) (n_ : Int) (r0 : Int → Option α) (r1 : (List (Int × Int)) → Int → Option α) : Option α :=
  F0 k p_ q_ n_ fun v =>
  bif (!v) then
    r0 2
  else
    F1 k p_ q_ n_ fun v1 =>
    r1 v1 0
theorem impl_BestOfFirst_gen {α : Type} (F0 : Nat → Int → Int → Int → (Bool → Option α) → Option α) (F1 : Nat → Int → Int → Int → ((List (Int × Int)) → Option α) → Option α)  (n : Nat) (p_ : Int) (q_ : Int) (n_ : Int) (κ : Res → Option α) : evFn Try.prog (impl_BestOfFirst_XG F0 F1 n) Try.f44 (((buildDs impl_BestOfFirst_sh [.int p_, .int q_, .int n_]).map Prod.fst).getD []) κ = impl_BestOfFirst_body F0 F1 n p_ q_ n_ (fun v1 => κ ⟨[.nilsl, .int .i64 v1], []⟩) (fun v1 v2 => κ ⟨[.sl 31 .pt v1, .int .i64 v2], []⟩) := by kernel_rfl
theorem impl_BestOfFirst_ev {α : Type} (n : Nat) (p_ : Int) (q_ : Int) (n_ : Int) (κ : Res → Option α) : evFn Try.prog (impl_BestOfFirst_X n) Try.f44 (((buildDs impl_BestOfFirst_sh [.int p_, .int q_, .int n_]).map Prod.fst).getD []) κ = impl_BestOfFirst_run n [.int p_, .int q_, .int n_] κ := (impl_BestOfFirst_gen impl_bestOk impl_bestOfFirst n p_ q_ n_ κ).trans (by kernel_rfl)
theorem impl_BestOfFirst_en (p_ : Int) (q_ : Int) (n_ : Int) : (entry 0 (((buildDs impl_BestOfFirst_sh [.int p_, .int q_, .int n_]).map Prod.fst).getD [])).map (fun x => (x.1.length, x.2.lent)) = some (3, []) := by kernel_rfl
theorem impl_BestOfFirst_good {α : Type} : ∀ n, GoodFn (α := α) Try.prog 44 (byShape impl_BestOfFirst_sh (impl_BestOfFirst_run n)) := by
  refine fn_good' Try.func44 (c := (Try.f44.body.getD .skip)) (by kernel_rfl) (by kernel_rfl) (by kernel_rfl) impl_BestOfFirst_C impl_BestOfFirst_M eqs impl_BestOfFirst_lps (fun n => tabC_good (List.forall_mem_cons.2 ⟨(impl_bestOk_good n), (List.forall_mem_cons.2 ⟨(impl_bestOfFirst_good n), (fun _ h => absurd h List.not_mem_nil)⟩)⟩)) eqs_ok impl_BestOfFirst_Lt ?_ ?_ impl_BestOfFirst_sh impl_BestOfFirst_run ?_
  · exact (fun _ h => absurd h List.not_mem_nil)
  · exact (fun _ h => absurd h List.not_mem_nil)
  · intro n p κ r ds hd hr
    have hr0 := hr
    unfold impl_BestOfFirst_run impl_BestOfFirst_runG at hr
    split at hr
    · rw [← ds_of hd]
      exact ⟨en_of (impl_BestOfFirst_en _ _ _) ⟨rfl, rfl⟩, (impl_BestOfFirst_ev n _ _ _ κ).trans hr0⟩
    · cases hr

/-! loop.example/g01297/laws.eqPointS -/
def laws_eqPointS_0N_1N_sh : List SkD := [.nilsl, .nilsl]
def laws_eqPointS_0N_1N_runG {α : Type} (F : Nat → (Bool → Option α) → Option α) (n : Nat) (p : List P1) (κ : Res → Option α) : Option α := match p with
  | [] => F n (fun v1 => κ ⟨[.bool v1], []⟩)
  | _ => none
def laws_eqPointS_0N_1N_run {α : Type} (n : Nat) (p : List P1) (κ : Res → Option α) : Option α := laws_eqPointS_0N_1N_runG laws_eqPointS_0N_1N n p κ
def laws_eqPointS_0N_1N_CG {α : Type}  (n : Nat) : FuncId → List D → (Res → Option α) → Option α := tabC []
def laws_eqPointS_0N_1N_C {α : Type} (n : Nat) : FuncId → List D → (Res → Option α) → Option α := laws_eqPointS_0N_1N_CG n
def laws_eqPointS_0N_1N_M : FuncId → List Nat := tabM []
def laws_eqPointS_0N_1N_lpsG {α : Type}  : List (LoopT α) := []
def laws_eqPointS_0N_1N_lps {α : Type} : List (LoopT α) := laws_eqPointS_0N_1N_lpsG
def laws_eqPointS_0N_1N_XG {α : Type}   (n : Nat) : Ctx α := ⟨laws_eqPointS_0N_1N_CG n, laws_eqPointS_0N_1N_M, eqs, lpOf (laws_eqPointS_0N_1N_lpsG) n⟩
def laws_eqPointS_0N_1N_X {α : Type} (n : Nat) : Ctx α := laws_eqPointS_0N_1N_XG n
def laws_eqPointS_0N_1N_Lt (np : Nat) (lent : List (Bool × Nat × Blk)) : Prop := np = 2 ∧ lent = []
def laws_eqPointS_0N_1N_body {α : Type}   (k : Nat)  (r0 : Bool → Option α) : Option α :=
  r0 true
theorem laws_eqPointS_0N_1N_gen {α : Type}   (n : Nat)  (κ : Res → Option α) : evFn Try.prog (laws_eqPointS_0N_1N_XG n) Try.f38 (((buildDs laws_eqPointS_0N_1N_sh []).map Prod.fst).getD []) κ = laws_eqPointS_0N_1N_body n (fun v1 => κ ⟨[.bool v1], []⟩) := by kernel_rfl
theorem laws_eqPointS_0N_1N_ev {α : Type} (n : Nat)  (κ : Res → Option α) : evFn Try.prog (laws_eqPointS_0N_1N_X n) Try.f38 (((buildDs laws_eqPointS_0N_1N_sh []).map Prod.fst).getD []) κ = laws_eqPointS_0N_1N_run n [] κ := (laws_eqPointS_0N_1N_gen n κ).trans (by kernel_rfl)
theorem laws_eqPointS_0N_1N_en  : (entry 0 (((buildDs laws_eqPointS_0N_1N_sh []).map Prod.fst).getD [])).map (fun x => (x.1.length, x.2.lent)) = some (2, []) := by kernel_rfl
theorem laws_eqPointS_0N_1N_good {α : Type} : ∀ n, GoodFn (α := α) Try.prog 38 (byShape laws_eqPointS_0N_1N_sh (laws_eqPointS_0N_1N_run n)) := by
  refine fn_good' Try.func38 (c := (Try.f38.body.getD .skip)) (by kernel_rfl) (by kernel_rfl) (by kernel_rfl) laws_eqPointS_0N_1N_C laws_eqPointS_0N_1N_M eqs laws_eqPointS_0N_1N_lps (fun n => tabC_good (fun _ h => absurd h List.not_mem_nil)) eqs_ok laws_eqPointS_0N_1N_Lt ?_ ?_ laws_eqPointS_0N_1N_sh laws_eqPointS_0N_1N_run ?_
  · exact (fun _ h => absurd h List.not_mem_nil)
  · exact (fun _ h => absurd h List.not_mem_nil)
  · intro n p κ r ds hd hr
    have hr0 := hr
    unfold laws_eqPointS_0N_1N_run laws_eqPointS_0N_1N_runG at hr
    split at hr
    · rw [← ds_of hd]
      exact ⟨en_of (laws_eqPointS_0N_1N_en) ⟨rfl, rfl⟩, (laws_eqPointS_0N_1N_ev n κ).trans hr0⟩
    · cases hr

/-! loop.example/g01297/laws.markPointS -/
def laws_markPointS_0N_sh : List SkD := [.nilsl, .int .i64]
def laws_markPointS_0N_runG {α : Type} (F : Nat → Int → (Int → Option α) → Option α) (n : Nat) (p : List P1) (κ : Res → Option α) : Option α := match p with
  | [.int k_] => F n k_ (fun v1 => κ ⟨[.int .i64 v1], []⟩)
  | _ => none
def laws_markPointS_0N_run {α : Type} (n : Nat) (p : List P1) (κ : Res → Option α) : Option α := laws_markPointS_0N_runG laws_markPointS_0N n p κ
def laws_markPointS_0N_CG {α : Type}  (n : Nat) : FuncId → List D → (Res → Option α) → Option α := tabC []
def laws_markPointS_0N_C {α : Type} (n : Nat) : FuncId → List D → (Res → Option α) → Option α := laws_markPointS_0N_CG n
def laws_markPointS_0N_M : FuncId → List Nat := tabM []
def laws_markPointS_0N_lpsG {α : Type}  : List (LoopT α) := []
def laws_markPointS_0N_lps {α : Type} : List (LoopT α) := laws_markPointS_0N_lpsG
def laws_markPointS_0N_XG {α : Type}   (n : Nat) : Ctx α := ⟨laws_markPointS_0N_CG n, laws_markPointS_0N_M, eqs, lpOf (laws_markPointS_0N_lpsG) n⟩
def laws_markPointS_0N_X {α : Type} (n : Nat) : Ctx α := laws_markPointS_0N_XG n
def laws_markPointS_0N_Lt (np : Nat) (lent : List (Bool × Nat × Blk)) : Prop := np = 2 ∧ lent = []
def laws_markPointS_0N_body {α : Type}   (k : Nat) (k_ : Int) (r0 : Int → Option α) : Option α :=
  r0 k_
theorem laws_markPointS_0N_gen {α : Type}   (n : Nat) (k_ : Int) (κ : Res → Option α) : evFn Try.prog (laws_markPointS_0N_XG n) Try.f39 (((buildDs laws_markPointS_0N_sh [.int k_]).map Prod.fst).getD []) κ = laws_markPointS_0N_body n k_ (fun v1 => κ ⟨[.int .i64 v1], []⟩) := by kernel_rfl
theorem laws_markPointS_0N_ev {α : Type} (n : Nat) (k_ : Int) (κ : Res → Option α) : evFn Try.prog (laws_markPointS_0N_X n) Try.f39 (((buildDs laws_markPointS_0N_sh [.int k_]).map Prod.fst).getD []) κ = laws_markPointS_0N_run n [.int k_] κ := (laws_markPointS_0N_gen n k_ κ).trans (by kernel_rfl)
theorem laws_markPointS_0N_en (k_ : Int) : (entry 0 (((buildDs laws_markPointS_0N_sh [.int k_]).map Prod.fst).getD [])).map (fun x => (x.1.length, x.2.lent)) = some (2, []) := by kernel_rfl
theorem laws_markPointS_0N_good {α : Type} : ∀ n, GoodFn (α := α) Try.prog 39 (byShape laws_markPointS_0N_sh (laws_markPointS_0N_run n)) := by
  refine fn_good' Try.func39 (c := (Try.f39.body.getD .skip)) (by kernel_rfl) (by kernel_rfl) (by kernel_rfl) laws_markPointS_0N_C laws_markPointS_0N_M eqs laws_markPointS_0N_lps (fun n => tabC_good (fun _ h => absurd h List.not_mem_nil)) eqs_ok laws_markPointS_0N_Lt ?_ ?_ laws_markPointS_0N_sh laws_markPointS_0N_run ?_
  · exact (fun _ h => absurd h List.not_mem_nil)
  · exact (fun _ h => absurd h List.not_mem_nil)
  · intro n p κ r ds hd hr
    have hr0 := hr
    unfold laws_markPointS_0N_run laws_markPointS_0N_runG at hr
    split at hr
    · rw [← ds_of hd]
      exact ⟨en_of (laws_markPointS_0N_en _) ⟨rfl, rfl⟩, (laws_markPointS_0N_ev n _ κ).trans hr0⟩
    · cases hr

/-! loop.example/g01297/laws.heldPointS -/
def laws_heldPointS_0N_sh : List SkD := [.nilsl, .int .i64]
def laws_heldPointS_0N_runG {α : Type} (F : Nat → Int → (Int → Option α) → Option α) (n : Nat) (p : List P1) (κ : Res → Option α) : Option α := match p with
  | [.int k_] => F n k_ (fun v1 => κ ⟨[.int .i64 v1], []⟩)
  | _ => none
def laws_heldPointS_0N_run {α : Type} (n : Nat) (p : List P1) (κ : Res → Option α) : Option α := laws_heldPointS_0N_runG laws_heldPointS_0N n p κ
def laws_heldPointS_0N_CG {α : Type}  (n : Nat) : FuncId → List D → (Res → Option α) → Option α := tabC []
def laws_heldPointS_0N_C {α : Type} (n : Nat) : FuncId → List D → (Res → Option α) → Option α := laws_heldPointS_0N_CG n
def laws_heldPointS_0N_M : FuncId → List Nat := tabM []
def laws_heldPointS_0N_lpsG {α : Type}  : List (LoopT α) := []
def laws_heldPointS_0N_lps {α : Type} : List (LoopT α) := laws_heldPointS_0N_lpsG
def laws_heldPointS_0N_XG {α : Type}   (n : Nat) : Ctx α := ⟨laws_heldPointS_0N_CG n, laws_heldPointS_0N_M, eqs, lpOf (laws_heldPointS_0N_lpsG) n⟩
def laws_heldPointS_0N_X {α : Type} (n : Nat) : Ctx α := laws_heldPointS_0N_XG n
def laws_heldPointS_0N_Lt (np : Nat) (lent : List (Bool × Nat × Blk)) : Prop := np = 2 ∧ lent = []
def laws_heldPointS_0N_body {α : Type}   (k : Nat) (k_ : Int) (r0 : Int → Option α) : Option α :=
  r0 k_
theorem laws_heldPointS_0N_gen {α : Type}   (n : Nat) (k_ : Int) (κ : Res → Option α) : evFn Try.prog (laws_heldPointS_0N_XG n) Try.f40 (((buildDs laws_heldPointS_0N_sh [.int k_]).map Prod.fst).getD []) κ = laws_heldPointS_0N_body n k_ (fun v1 => κ ⟨[.int .i64 v1], []⟩) := by kernel_rfl
theorem laws_heldPointS_0N_ev {α : Type} (n : Nat) (k_ : Int) (κ : Res → Option α) : evFn Try.prog (laws_heldPointS_0N_X n) Try.f40 (((buildDs laws_heldPointS_0N_sh [.int k_]).map Prod.fst).getD []) κ = laws_heldPointS_0N_run n [.int k_] κ := (laws_heldPointS_0N_gen n k_ κ).trans (by kernel_rfl)
theorem laws_heldPointS_0N_en (k_ : Int) : (entry 0 (((buildDs laws_heldPointS_0N_sh [.int k_]).map Prod.fst).getD [])).map (fun x => (x.1.length, x.2.lent)) = some (2, []) := by kernel_rfl
theorem laws_heldPointS_0N_good {α : Type} : ∀ n, GoodFn (α := α) Try.prog 40 (byShape laws_heldPointS_0N_sh (laws_heldPointS_0N_run n)) := by
  refine fn_good' Try.func40 (c := (Try.f40.body.getD .skip)) (by kernel_rfl) (by kernel_rfl) (by kernel_rfl) laws_heldPointS_0N_C laws_heldPointS_0N_M eqs laws_heldPointS_0N_lps (fun n => tabC_good (fun _ h => absurd h List.not_mem_nil)) eqs_ok laws_heldPointS_0N_Lt ?_ ?_ laws_heldPointS_0N_sh laws_heldPointS_0N_run ?_
  · exact (fun _ h => absurd h List.not_mem_nil)
  · exact (fun _ h => absurd h List.not_mem_nil)
  · intro n p κ r ds hd hr
    have hr0 := hr
    unfold laws_heldPointS_0N_run laws_heldPointS_0N_runG at hr
    split at hr
    · rw [← ds_of hd]
      exact ⟨en_of (laws_heldPointS_0N_en _) ⟨rfl, rfl⟩, (laws_heldPointS_0N_ev n _ κ).trans hr0⟩
    · cases hr

/-! loop.example/g01297/laws.eqPointS -/
def laws_eqPointS_1N_sh : List SkD := [.sl 31 .pt, .nilsl]
def laws_eqPointS_1N_runG {α : Type} (F : Nat → (List (Int × Int)) → (Bool → Option α) → Option α) (n : Nat) (p : List P1) (κ : Res → Option α) : Option α := match p with
  | [.rows .pt a] => F n a (fun v1 => κ ⟨[.bool v1], []⟩)
  | _ => none
def laws_eqPointS_1N_run {α : Type} (n : Nat) (p : List P1) (κ : Res → Option α) : Option α := laws_eqPointS_1N_runG laws_eqPointS_1N n p κ
def laws_eqPointS_1N_CG {α : Type}  (n : Nat) : FuncId → List D → (Res → Option α) → Option α := tabC []
def laws_eqPointS_1N_C {α : Type} (n : Nat) : FuncId → List D → (Res → Option α) → Option α := laws_eqPointS_1N_CG n
def laws_eqPointS_1N_M : FuncId → List Nat := tabM []
def laws_eqPointS_1N_t4 : Tpl := ⟨[.sl 0, .nilsl, .any, .any, .any, .int .i64, .any, .any, .any, .any, .any, .any, .any, .any, .any, .any, .any, .any, .any, .any, .any, .any, .any, .any, .any, .any, .any], [(0, .rows 0 31 .pt)], []⟩
def laws_eqPointS_1N_uG4 {α : Type} (G : Nat → Int → (List (Int × Int)) → (Int → (List (Int × Int)) → Option α) → (Bool → Option α) → Option α) (n : Nat) (p : List P1) (brk : Nat → List P1 → Option α) (ret : Res → Option α) : Option α := match p with
  | [.int i, .rows .pt a1] => G n i a1 (fun i a1 => brk 0 [.int i, .rows .pt a1]) (fun v1 => ret ⟨[.bool v1], []⟩)
  | _ => none
def laws_eqPointS_1N_u4 {α : Type} (n : Nat) (p : List P1) (brk : Nat → List P1 → Option α) (ret : Res → Option α) : Option α := laws_eqPointS_1N_uG4 laws_eqPointS_1N_l4 n p brk ret
def laws_eqPointS_1N_lpsG {α : Type} (G4 : Nat → Int → (List (Int × Int)) → (Int → (List (Int × Int)) → Option α) → (Bool → Option α) → Option α) : List (LoopT α) := [⟨4, laws_eqPointS_1N_t4, laws_eqPointS_1N_uG4 G4⟩]
def laws_eqPointS_1N_lps {α : Type} : List (LoopT α) := laws_eqPointS_1N_lpsG laws_eqPointS_1N_l4
def laws_eqPointS_1N_XG {α : Type}  (G4 : Nat → Int → (List (Int × Int)) → (Int → (List (Int × Int)) → Option α) → (Bool → Option α) → Option α) (n : Nat) : Ctx α := ⟨laws_eqPointS_1N_CG n, laws_eqPointS_1N_M, eqs, lpOf (laws_eqPointS_1N_lpsG G4) n⟩
def laws_eqPointS_1N_X {α : Type} (n : Nat) : Ctx α := laws_eqPointS_1N_XG laws_eqPointS_1N_l4 n
def laws_eqPointS_1N_Lt (np : Nat) (lent : List (Bool × Nat × Blk)) : Prop := np = 2 ∧ lent = []
def laws_eqPointS_1N_lb4 {α : Type}  (G4 : Nat → Int → (List (Int × Int)) → (Int → (List (Int × Int)) → Option α) → (Bool → Option α) → Option α) (k : Nat) (i : Int) (a1 : List (Int × Int)) (b0 : Int → (List (Int × Int)) → Option α) (r0 : Bool → Option α) : Option α :=
  bif decide (i < (((List.length a1) : Nat) : Int)) then
    bif (decide (0 ≤ i) && decide (i < (((List.length a1) : Nat) : Int))) then
      (a1[i.toNat]?).bind fun e_ =>
      none
    else
      none
  else
    b0 i a1
theorem laws_eqPointS_1N_l4_gen {α : Type}  (G4 : Nat → Int → (List (Int × Int)) → (Int → (List (Int × Int)) → Option α) → (Bool → Option α) → Option α) (n : Nat) (i : Int) (a1 : List (Int × Int)) (brk : Nat → List P1 → Option α) (ret : Res → Option α) : ev ((laws_eqPointS_1N_XG G4 n).env Try.prog Try.f38 2 []) (findLoop (loopsIn (Try.f38.body.getD .skip)) 4) ((laws_eqPointS_1N_t4.build [.int i, .rows .pt a1]).getD ⟨[], []⟩) (roundK (2 * 64) laws_eqPointS_1N_t4 (fun q => laws_eqPointS_1N_uG4 G4 n q brk ret) brk ret) = laws_eqPointS_1N_lb4 G4 n i a1 (fun i a1 => brk 0 [.int i, .rows .pt a1]) (fun v1 => ret ⟨[.bool v1], []⟩) := by kernel_rfl
theorem laws_eqPointS_1N_l4_ev {α : Type} (n : Nat) (i : Int) (a1 : List (Int × Int)) (brk : Nat → List P1 → Option α) (ret : Res → Option α) : ev ((laws_eqPointS_1N_X n).env Try.prog Try.f38 2 []) (findLoop (loopsIn (Try.f38.body.getD .skip)) 4) ((laws_eqPointS_1N_t4.build [.int i, .rows .pt a1]).getD ⟨[], []⟩) (roundK (2 * 64) laws_eqPointS_1N_t4 (fun q => laws_eqPointS_1N_u4 n q brk ret) brk ret) = laws_eqPointS_1N_u4 (n + 1) [.int i, .rows .pt a1] brk ret := (laws_eqPointS_1N_l4_gen laws_eqPointS_1N_l4 n i a1 brk ret).trans (by kernel_rfl)
def laws_eqPointS_1N_body {α : Type}  (G4 : Nat → Int → (List (Int × Int)) → (Int → (List (Int × Int)) → Option α) → (Bool → Option α) → Option α) (k : Nat) (a : List (Int × Int)) (r0 : Bool → Option α) : Option α :=
  bif (!decide ((((List.length a) : Nat) : Int) = 0)) then
    r0 false
  else
    G4 k 0 a
      (fun i1 a2 =>
        r0 true)
      r0
theorem laws_eqPointS_1N_gen {α : Type}  (G4 : Nat → Int → (List (Int × Int)) → (Int → (List (Int × Int)) → Option α) → (Bool → Option α) → Option α) (n : Nat) (a : List (Int × Int)) (κ : Res → Option α) : evFn Try.prog (laws_eqPointS_1N_XG G4 n) Try.f38 (((buildDs laws_eqPointS_1N_sh [.rows .pt a]).map Prod.fst).getD []) κ = laws_eqPointS_1N_body G4 n a (fun v1 => κ ⟨[.bool v1], []⟩) := by kernel_rfl
theorem laws_eqPointS_1N_ev {α : Type} (n : Nat) (a : List (Int × Int)) (κ : Res → Option α) : evFn Try.prog (laws_eqPointS_1N_X n) Try.f38 (((buildDs laws_eqPointS_1N_sh [.rows .pt a]).map Prod.fst).getD []) κ = laws_eqPointS_1N_run n [.rows .pt a] κ := (laws_eqPointS_1N_gen laws_eqPointS_1N_l4 n a κ).trans (by kernel_rfl)
theorem laws_eqPointS_1N_en (a : List (Int × Int)) : (entry 0 (((buildDs laws_eqPointS_1N_sh [.rows .pt a]).map Prod.fst).getD [])).map (fun x => (x.1.length, x.2.lent)) = some (2, []) := by kernel_rfl
theorem laws_eqPointS_1N_good {α : Type} : ∀ n, GoodFn (α := α) Try.prog 38 (byShape laws_eqPointS_1N_sh (laws_eqPointS_1N_run n)) := by
  refine fn_good' Try.func38 (c := (Try.f38.body.getD .skip)) (by kernel_rfl) (by kernel_rfl) (by kernel_rfl) laws_eqPointS_1N_C laws_eqPointS_1N_M eqs laws_eqPointS_1N_lps (fun n => tabC_good (fun _ h => absurd h List.not_mem_nil)) eqs_ok laws_eqPointS_1N_Lt ?_ ?_ laws_eqPointS_1N_sh laws_eqPointS_1N_run ?_
  · refine List.forall_mem_cons.2 ⟨?_, (fun _ h => absurd h List.not_mem_nil)⟩
    · intro p brk ret; show laws_eqPointS_1N_u4 0 p brk ret = none; unfold laws_eqPointS_1N_u4 laws_eqPointS_1N_uG4; split <;> rfl
  · refine List.forall_mem_cons.2 ⟨?_, (fun _ h => absurd h List.not_mem_nil)⟩
    · intro np lent hL n p brk ret st r hb hr
      obtain ⟨rfl, rfl⟩ := hL
      rw [← tpl_of hb]
      change laws_eqPointS_1N_u4 (n + 1) p brk ret = some r at hr
      have hr0 := hr
      unfold laws_eqPointS_1N_u4 laws_eqPointS_1N_uG4 at hr
      split at hr
      · exact (laws_eqPointS_1N_l4_ev n _ _ brk ret).trans hr0
      · cases hr
  · intro n p κ r ds hd hr
    have hr0 := hr
    unfold laws_eqPointS_1N_run laws_eqPointS_1N_runG at hr
    split at hr
    · rw [← ds_of hd]
      exact ⟨en_of (laws_eqPointS_1N_en _) ⟨rfl, rfl⟩, (laws_eqPointS_1N_ev n _ κ).trans hr0⟩
    · cases hr

/-! loop.example/g01297/laws.markPointS -/
def laws_markPointS_sh : List SkD := [.msl 31 .pt, .int .i64]
def laws_markPointS_runG {α : Type} (F : Nat → (List (Int × Int)) → Int → (Int → (List (Int × Int)) → Option α) → Option α) (n : Nat) (p : List P1) (κ : Res → Option α) : Option α := match p with
  | [.rows .pt a, .int k_] => F n a k_ (fun v1 v2 => κ ⟨[.int .i64 v1], [.sl 31 .pt v2]⟩)
  | _ => none
def laws_markPointS_run {α : Type} (n : Nat) (p : List P1) (κ : Res → Option α) : Option α := laws_markPointS_runG laws_markPointS n p κ
def laws_markPointS_CG {α : Type}  (n : Nat) : FuncId → List D → (Res → Option α) → Option α := tabC []
def laws_markPointS_C {α : Type} (n : Nat) : FuncId → List D → (Res → Option α) → Option α := laws_markPointS_CG n
def laws_markPointS_M : FuncId → List Nat := tabM []
def laws_markPointS_t2 : Tpl := ⟨[.sl 0, .int .i64, .any, .any, .any, .int .i64, .any, .any, .any, .any, .any, .any, .any, .any, .any, .any, .any, .any, .any, .any, .any, .any, .any, .any, .any, .any], [(0, .rows 1 31 .pt)], []⟩
def laws_markPointS_uG2 {α : Type} (G : Nat → Int → Int → (List (Int × Int)) → (Int → Int → (List (Int × Int)) → Option α) → (Int → (List (Int × Int)) → Option α) → Option α) (n : Nat) (p : List P1) (brk : Nat → List P1 → Option α) (ret : Res → Option α) : Option α := match p with
  | [.int k_1, .int i, .rows .pt a1] => G n k_1 i a1 (fun k_1 i a1 => brk 0 [.int k_1, .int i, .rows .pt a1]) (fun v1 v2 => ret ⟨[.int .i64 v1], [.sl 31 .pt v2]⟩)
  | _ => none
def laws_markPointS_u2 {α : Type} (n : Nat) (p : List P1) (brk : Nat → List P1 → Option α) (ret : Res → Option α) : Option α := laws_markPointS_uG2 laws_markPointS_l2 n p brk ret
def laws_markPointS_lpsG {α : Type} (G2 : Nat → Int → Int → (List (Int × Int)) → (Int → Int → (List (Int × Int)) → Option α) → (Int → (List (Int × Int)) → Option α) → Option α) : List (LoopT α) := [⟨2, laws_markPointS_t2, laws_markPointS_uG2 G2⟩]
def laws_markPointS_lps {α : Type} : List (LoopT α) := laws_markPointS_lpsG laws_markPointS_l2
def laws_markPointS_XG {α : Type}  (G2 : Nat → Int → Int → (List (Int × Int)) → (Int → Int → (List (Int × Int)) → Option α) → (Int → (List (Int × Int)) → Option α) → Option α) (n : Nat) : Ctx α := ⟨laws_markPointS_CG n, laws_markPointS_M, eqs, lpOf (laws_markPointS_lpsG G2) n⟩
def laws_markPointS_X {α : Type} (n : Nat) : Ctx α := laws_markPointS_XG laws_markPointS_l2 n
def laws_markPointS_Lt (np : Nat) (lent : List (Bool × Nat × Blk)) : Prop := np = 2 ∧ ∃ (a : List (Int × Int)), lent = [(true, 0, .rows 1 31 .pt a)]
def laws_markPointS_lb2 {α : Type}  (G2 : Nat → Int → Int → (List (Int × Int)) → (Int → Int → (List (Int × Int)) → Option α) → (Int → (List (Int × Int)) → Option α) → Option α) (k : Nat) (k_1 : Int) (i : Int) (a1 : List (Int × Int)) (b0 : Int → Int → (List (Int × Int)) → Option α) (r0 : Int → (List (Int × Int)) → Option α) : Option α :=
  bif decide (i < (((List.length a1) : Nat) : Int)) then
    bif (decide (0 ≤ i) && decide (i < (((List.length a1) : Nat) : Int))) then
      (a1[i.toNat]?).bind fun e_ =>
      bif (decide (0 ≤ i) && decide (i < (((List.length (List.set a1 i.toNat (k_1, e_.2))) : Nat) : Int))) then
        ((List.set a1 i.toNat (k_1, e_.2))[i.toNat]?).bind fun e_1 =>
        G2 k (w64 ((w64 (k_1 + 1)) + 1)) (w64 (i + 1)) (List.set (List.set a1 i.toNat (k_1, e_.2)) i.toNat (e_1.1, (w64 (k_1 + 1)))) b0 r0
      else
        none
    else
      none
  else
    b0 k_1 i a1
theorem laws_markPointS_l2_gen {α : Type}  (G2 : Nat → Int → Int → (List (Int × Int)) → (Int → Int → (List (Int × Int)) → Option α) → (Int → (List (Int × Int)) → Option α) → Option α) (n : Nat) (a_0 : List (Int × Int)) (k_1 : Int) (i : Int) (a1 : List (Int × Int)) (brk : Nat → List P1 → Option α) (ret : Res → Option α) : ev ((laws_markPointS_XG G2 n).env Try.prog Try.f39 2 [(true, 0, .rows 1 31 .pt a_0)]) (findLoop (loopsIn (Try.f39.body.getD .skip)) 2) ((laws_markPointS_t2.build [.int k_1, .int i, .rows .pt a1]).getD ⟨[], []⟩) (roundK (2 * 64) laws_markPointS_t2 (fun q => laws_markPointS_uG2 G2 n q brk ret) brk ret) = laws_markPointS_lb2 G2 n k_1 i a1 (fun k_1 i a1 => brk 0 [.int k_1, .int i, .rows .pt a1]) (fun v1 v2 => ret ⟨[.int .i64 v1], [.sl 31 .pt v2]⟩) := by kernel_rfl
theorem laws_markPointS_l2_ev {α : Type} (n : Nat) (a_0 : List (Int × Int)) (k_1 : Int) (i : Int) (a1 : List (Int × Int)) (brk : Nat → List P1 → Option α) (ret : Res → Option α) : ev ((laws_markPointS_X n).env Try.prog Try.f39 2 [(true, 0, .rows 1 31 .pt a_0)]) (findLoop (loopsIn (Try.f39.body.getD .skip)) 2) ((laws_markPointS_t2.build [.int k_1, .int i, .rows .pt a1]).getD ⟨[], []⟩) (roundK (2 * 64) laws_markPointS_t2 (fun q => laws_markPointS_u2 n q brk ret) brk ret) = laws_markPointS_u2 (n + 1) [.int k_1, .int i, .rows .pt a1] brk ret := (laws_markPointS_l2_gen laws_markPointS_l2 n a_0 k_1 i a1 brk ret).trans (by kernel_rfl)
def laws_markPointS_body {α : Type}  (G2 : Nat → Int → Int → (List (Int × Int)) → (Int → Int → (List (Int × Int)) → Option α) → (Int → (List (Int × Int)) → Option α) → Option α) (k : Nat) (a : List (Int × Int)) (k_ : Int) (r0 : Int → (List (Int × Int)) → Option α) : Option α :=
  G2 k k_ 0 a
    (fun k_2 i1 a2 =>
      r0 k_2 a2)
    r0
theorem laws_markPointS_gen {α : Type}  (G2 : Nat → Int → Int → (List (Int × Int)) → (Int → Int → (List (Int × Int)) → Option α) → (Int → (List (Int × Int)) → Option α) → Option α) (n : Nat) (a : List (Int × Int)) (k_ : Int) (κ : Res → Option α) : evFn Try.prog (laws_markPointS_XG G2 n) Try.f39 (((buildDs laws_markPointS_sh [.rows .pt a, .int k_]).map Prod.fst).getD []) κ = laws_markPointS_body G2 n a k_ (fun v1 v2 => κ ⟨[.int .i64 v1], [.sl 31 .pt v2]⟩) := by kernel_rfl
theorem laws_markPointS_ev {α : Type} (n : Nat) (a : List (Int × Int)) (k_ : Int) (κ : Res → Option α) : evFn Try.prog (laws_markPointS_X n) Try.f39 (((buildDs laws_markPointS_sh [.rows .pt a, .int k_]).map Prod.fst).getD []) κ = laws_markPointS_run n [.rows .pt a, .int k_] κ := (laws_markPointS_gen laws_markPointS_l2 n a k_ κ).trans (by kernel_rfl)
theorem laws_markPointS_en (a : List (Int × Int)) (k_ : Int) : (entry 0 (((buildDs laws_markPointS_sh [.rows .pt a, .int k_]).map Prod.fst).getD [])).map (fun x => (x.1.length, x.2.lent)) = some (2, [(true, 0, .rows 1 31 .pt a)]) := by kernel_rfl
theorem laws_markPointS_good {α : Type} : ∀ n, GoodFn (α := α) Try.prog 39 (byShape laws_markPointS_sh (laws_markPointS_run n)) := by
  refine fn_good' Try.func39 (c := (Try.f39.body.getD .skip)) (by kernel_rfl) (by kernel_rfl) (by kernel_rfl) laws_markPointS_C laws_markPointS_M eqs laws_markPointS_lps (fun n => tabC_good (fun _ h => absurd h List.not_mem_nil)) eqs_ok laws_markPointS_Lt ?_ ?_ laws_markPointS_sh laws_markPointS_run ?_
  · refine List.forall_mem_cons.2 ⟨?_, (fun _ h => absurd h List.not_mem_nil)⟩
    · intro p brk ret; show laws_markPointS_u2 0 p brk ret = none; unfold laws_markPointS_u2 laws_markPointS_uG2; split <;> rfl
  · refine List.forall_mem_cons.2 ⟨?_, (fun _ h => absurd h List.not_mem_nil)⟩
    · intro np lent hL n p brk ret st r hb hr
      obtain ⟨rfl, a_0, rfl⟩ := hL
      rw [← tpl_of hb]
      change laws_markPointS_u2 (n + 1) p brk ret = some r at hr
      have hr0 := hr
      unfold laws_markPointS_u2 laws_markPointS_uG2 at hr
      split at hr
      · exact (laws_markPointS_l2_ev n _ _ _ _ brk ret).trans hr0
      · cases hr
  · intro n p κ r ds hd hr
    have hr0 := hr
    unfold laws_markPointS_run laws_markPointS_runG at hr
    split at hr
    · rw [← ds_of hd]
      exact ⟨en_of (laws_markPointS_en _ _) ⟨rfl, _, rfl⟩, (laws_markPointS_ev n _ _ κ).trans hr0⟩
    · cases hr

/-! loop.example/g01297/laws.heldPointS -/
def laws_heldPointS_sh : List SkD := [.sl 31 .pt, .int .i64]
def laws_heldPointS_runG {α : Type} (F : Nat → (List (Int × Int)) → Int → (Int → Option α) → Option α) (n : Nat) (p : List P1) (κ : Res → Option α) : Option α := match p with
  | [.rows .pt a, .int k_] => F n a k_ (fun v1 => κ ⟨[.int .i64 v1], []⟩)
  | _ => none
def laws_heldPointS_run {α : Type} (n : Nat) (p : List P1) (κ : Res → Option α) : Option α := laws_heldPointS_runG laws_heldPointS n p κ
def laws_heldPointS_CG {α : Type}  (n : Nat) : FuncId → List D → (Res → Option α) → Option α := tabC []
def laws_heldPointS_C {α : Type} (n : Nat) : FuncId → List D → (Res → Option α) → Option α := laws_heldPointS_CG n
def laws_heldPointS_M : FuncId → List Nat := tabM []
def laws_heldPointS_t2 : Tpl := ⟨[.sl 0, .int .i64, .any, .any, .any, .int .i64, .any, .any, .any, .any, .any, .any, .any, .any, .any, .any, .any, .any, .any, .any, .any, .any, .any, .any, .any, .any, .any, .any], [(0, .rows 0 31 .pt)], []⟩
def laws_heldPointS_uG2 {α : Type} (G : Nat → Int → Int → (List (Int × Int)) → (Int → Int → (List (Int × Int)) → Option α) → (Int → Option α) → Option α) (n : Nat) (p : List P1) (brk : Nat → List P1 → Option α) (ret : Res → Option α) : Option α := match p with
  | [.int k_1, .int i, .rows .pt a1] => G n k_1 i a1 (fun k_1 i a1 => brk 0 [.int k_1, .int i, .rows .pt a1]) (fun v1 => ret ⟨[.int .i64 v1], []⟩)
  | _ => none
def laws_heldPointS_u2 {α : Type} (n : Nat) (p : List P1) (brk : Nat → List P1 → Option α) (ret : Res → Option α) : Option α := laws_heldPointS_uG2 laws_heldPointS_l2 n p brk ret
def laws_heldPointS_lpsG {α : Type} (G2 : Nat → Int → Int → (List (Int × Int)) → (Int → Int → (List (Int × Int)) → Option α) → (Int → Option α) → Option α) : List (LoopT α) := [⟨2, laws_heldPointS_t2, laws_heldPointS_uG2 G2⟩]
def laws_heldPointS_lps {α : Type} : List (LoopT α) := laws_heldPointS_lpsG laws_heldPointS_l2
def laws_heldPointS_XG {α : Type}  (G2 : Nat → Int → Int → (List (Int × Int)) → (Int → Int → (List (Int × Int)) → Option α) → (Int → Option α) → Option α) (n : Nat) : Ctx α := ⟨laws_heldPointS_CG n, laws_heldPointS_M, eqs, lpOf (laws_heldPointS_lpsG G2) n⟩
def laws_heldPointS_X {α : Type} (n : Nat) : Ctx α := laws_heldPointS_XG laws_heldPointS_l2 n
def laws_heldPointS_Lt (np : Nat) (lent : List (Bool × Nat × Blk)) : Prop := np = 2 ∧ lent = []
def laws_heldPointS_lb2 {α : Type}  (G2 : Nat → Int → Int → (List (Int × Int)) → (Int → Int → (List (Int × Int)) → Option α) → (Int → Option α) → Option α) (k : Nat) (k_1 : Int) (i : Int) (a1 : List (Int × Int)) (b0 : Int → Int → (List (Int × Int)) → Option α) (r0 : Int → Option α) : Option α :=
  bif decide (i < (((List.length a1) : Nat) : Int)) then
    bif (decide (0 ≤ i) && decide (i < (((List.length a1) : Nat) : Int))) then
      (a1[i.toNat]?).bind fun e_ =>
      bif (!decide (e_.1 = k_1)) then
        r0 (-1)
      else
      bif (decide (0 ≤ i) && decide (i < (((List.length a1) : Nat) : Int))) then
        (a1[i.toNat]?).bind fun e_1 =>
        bif (!decide (e_1.2 = (w64 (k_1 + 1)))) then
          r0 (-1)
        else
          G2 k (w64 ((w64 (k_1 + 1)) + 1)) (w64 (i + 1)) a1 b0 r0
      else
        none
    else
      none
  else
    b0 k_1 i a1
theorem laws_heldPointS_l2_gen {α : Type}  (G2 : Nat → Int → Int → (List (Int × Int)) → (Int → Int → (List (Int × Int)) → Option α) → (Int → Option α) → Option α) (n : Nat) (k_1 : Int) (i : Int) (a1 : List (Int × Int)) (brk : Nat → List P1 → Option α) (ret : Res → Option α) : ev ((laws_heldPointS_XG G2 n).env Try.prog Try.f40 2 []) (findLoop (loopsIn (Try.f40.body.getD .skip)) 2) ((laws_heldPointS_t2.build [.int k_1, .int i, .rows .pt a1]).getD ⟨[], []⟩) (roundK (2 * 64) laws_heldPointS_t2 (fun q => laws_heldPointS_uG2 G2 n q brk ret) brk ret) = laws_heldPointS_lb2 G2 n k_1 i a1 (fun k_1 i a1 => brk 0 [.int k_1, .int i, .rows .pt a1]) (fun v1 => ret ⟨[.int .i64 v1], []⟩) := by kernel_rfl
theorem laws_heldPointS_l2_ev {α : Type} (n : Nat) (k_1 : Int) (i : Int) (a1 : List (Int × Int)) (brk : Nat → List P1 → Option α) (ret : Res → Option α) : ev ((laws_heldPointS_X n).env Try.prog Try.f40 2 []) (findLoop (loopsIn (Try.f40.body.getD .skip)) 2) ((laws_heldPointS_t2.build [.int k_1, .int i, .rows .pt a1]).getD ⟨[], []⟩) (roundK (2 * 64) laws_heldPointS_t2 (fun q => laws_heldPointS_u2 n q brk ret) brk ret) = laws_heldPointS_u2 (n + 1) [.int k_1, .int i, .rows .pt a1] brk ret := (laws_heldPointS_l2_gen laws_heldPointS_l2 n k_1 i a1 brk ret).trans (by kernel_rfl)
def laws_heldPointS_body {α : Type}  (G2 : Nat → Int → Int → (List (Int × Int)) → (Int → Int → (List (Int × Int)) → Option α) → (Int → Option α) → Option α) (k : Nat) (a : List (Int × Int)) (k_ : Int) (r0 : Int → Option α) : Option α :=
  G2 k k_ 0 a
    (fun k_2 i1 a2 =>
      r0 k_2)
    r0
theorem laws_heldPointS_gen {α : Type}  (G2 : Nat → Int → Int → (List (Int × Int)) → (Int → Int → (List (Int × Int)) → Option α) → (Int → Option α) → Option α) (n : Nat) (a : List (Int × Int)) (k_ : Int) (κ : Res → Option α) : evFn Try.prog (laws_heldPointS_XG G2 n) Try.f40 (((buildDs laws_heldPointS_sh [.rows .pt a, .int k_]).map Prod.fst).getD []) κ = laws_heldPointS_body G2 n a k_ (fun v1 => κ ⟨[.int .i64 v1], []⟩) := by kernel_rfl
theorem laws_heldPointS_ev {α : Type} (n : Nat) (a : List (Int × Int)) (k_ : Int) (κ : Res → Option α) : evFn Try.prog (laws_heldPointS_X n) Try.f40 (((buildDs laws_heldPointS_sh [.rows .pt a, .int k_]).map Prod.fst).getD []) κ = laws_heldPointS_run n [.rows .pt a, .int k_] κ := (laws_heldPointS_gen laws_heldPointS_l2 n a k_ κ).trans (by kernel_rfl)
theorem laws_heldPointS_en (a : List (Int × Int)) (k_ : Int) : (entry 0 (((buildDs laws_heldPointS_sh [.rows .pt a, .int k_]).map Prod.fst).getD [])).map (fun x => (x.1.length, x.2.lent)) = some (2, []) := by kernel_rfl
theorem laws_heldPointS_good {α : Type} : ∀ n, GoodFn (α := α) Try.prog 40 (byShape laws_heldPointS_sh (laws_heldPointS_run n)) := by
  refine fn_good' Try.func40 (c := (Try.f40.body.getD .skip)) (by kernel_rfl) (by kernel_rfl) (by kernel_rfl) laws_heldPointS_C laws_heldPointS_M eqs laws_heldPointS_lps (fun n => tabC_good (fun _ h => absurd h List.not_mem_nil)) eqs_ok laws_heldPointS_Lt ?_ ?_ laws_heldPointS_sh laws_heldPointS_run ?_
  · refine List.forall_mem_cons.2 ⟨?_, (fun _ h => absurd h List.not_mem_nil)⟩
    · intro p brk ret; show laws_heldPointS_u2 0 p brk ret = none; unfold laws_heldPointS_u2 laws_heldPointS_uG2; split <;> rfl
  · refine List.forall_mem_cons.2 ⟨?_, (fun _ h => absurd h List.not_mem_nil)⟩
    · intro np lent hL n p brk ret st r hb hr
      obtain ⟨rfl, rfl⟩ := hL
      rw [← tpl_of hb]
      change laws_heldPointS_u2 (n + 1) p brk ret = some r at hr
      have hr0 := hr
      unfold laws_heldPointS_u2 laws_heldPointS_uG2 at hr
      split at hr
      · exact (laws_heldPointS_l2_ev n _ _ _ brk ret).trans hr0
      · cases hr
  · intro n p κ r ds hd hr
    have hr0 := hr
    unfold laws_heldPointS_run laws_heldPointS_runG at hr
    split at hr
    · rw [← ds_of hd]
      exact ⟨en_of (laws_heldPointS_en _ _) ⟨rfl, rfl⟩, (laws_heldPointS_ev n _ _ κ).trans hr0⟩
    · cases hr

/-! loop.example/g01297/laws.eqPointS -/
def laws_eqPointS_0N_sh : List SkD := [.nilsl, .sl 31 .pt]
def laws_eqPointS_0N_runG {α : Type} (F : Nat → (List (Int × Int)) → (Bool → Option α) → Option α) (n : Nat) (p : List P1) (κ : Res → Option α) : Option α := match p with
  | [.rows .pt b_] => F n b_ (fun v1 => κ ⟨[.bool v1], []⟩)
  | _ => none
def laws_eqPointS_0N_run {α : Type} (n : Nat) (p : List P1) (κ : Res → Option α) : Option α := laws_eqPointS_0N_runG laws_eqPointS_0N n p κ
def laws_eqPointS_0N_CG {α : Type}  (n : Nat) : FuncId → List D → (Res → Option α) → Option α := tabC []
def laws_eqPointS_0N_C {α : Type} (n : Nat) : FuncId → List D → (Res → Option α) → Option α := laws_eqPointS_0N_CG n
def laws_eqPointS_0N_M : FuncId → List Nat := tabM []
def laws_eqPointS_0N_lpsG {α : Type}  : List (LoopT α) := []
def laws_eqPointS_0N_lps {α : Type} : List (LoopT α) := laws_eqPointS_0N_lpsG
def laws_eqPointS_0N_XG {α : Type}   (n : Nat) : Ctx α := ⟨laws_eqPointS_0N_CG n, laws_eqPointS_0N_M, eqs, lpOf (laws_eqPointS_0N_lpsG) n⟩
def laws_eqPointS_0N_X {α : Type} (n : Nat) : Ctx α := laws_eqPointS_0N_XG n
def laws_eqPointS_0N_Lt (np : Nat) (lent : List (Bool × Nat × Blk)) : Prop := np = 2 ∧ lent = []
def laws_eqPointS_0N_body {α : Type}   (k : Nat) (b_ : List (Int × Int)) (r0 : Bool → Option α) : Option α :=
  bif (!decide (0 = (((List.length b_) : Nat) : Int))) then
    r0 false
  else
    r0 true
theorem laws_eqPointS_0N_gen {α : Type}   (n : Nat) (b_ : List (Int × Int)) (κ : Res → Option α) : evFn Try.prog (laws_eqPointS_0N_XG n) Try.f38 (((buildDs laws_eqPointS_0N_sh [.rows .pt b_]).map Prod.fst).getD []) κ = laws_eqPointS_0N_body n b_ (fun v1 => κ ⟨[.bool v1], []⟩) := by kernel_rfl
theorem laws_eqPointS_0N_ev {α : Type} (n : Nat) (b_ : List (Int × Int)) (κ : Res → Option α) : evFn Try.prog (laws_eqPointS_0N_X n) Try.f38 (((buildDs laws_eqPointS_0N_sh [.rows .pt b_]).map Prod.fst).getD []) κ = laws_eqPointS_0N_run n [.rows .pt b_] κ := (laws_eqPointS_0N_gen n b_ κ).trans (by kernel_rfl)
theorem laws_eqPointS_0N_en (b_ : List (Int × Int)) : (entry 0 (((buildDs laws_eqPointS_0N_sh [.rows .pt b_]).map Prod.fst).getD [])).map (fun x => (x.1.length, x.2.lent)) = some (2, []) := by kernel_rfl
theorem laws_eqPointS_0N_good {α : Type} : ∀ n, GoodFn (α := α) Try.prog 38 (byShape laws_eqPointS_0N_sh (laws_eqPointS_0N_run n)) := by
  refine fn_good' Try.func38 (c := (Try.f38.body.getD .skip)) (by kernel_rfl) (by kernel_rfl) (by kernel_rfl) laws_eqPointS_0N_C laws_eqPointS_0N_M eqs laws_eqPointS_0N_lps (fun n => tabC_good (fun _ h => absurd h List.not_mem_nil)) eqs_ok laws_eqPointS_0N_Lt ?_ ?_ laws_eqPointS_0N_sh laws_eqPointS_0N_run ?_
  · exact (fun _ h => absurd h List.not_mem_nil)
  · exact (fun _ h => absurd h List.not_mem_nil)
  · intro n p κ r ds hd hr
    have hr0 := hr
    unfold laws_eqPointS_0N_run laws_eqPointS_0N_runG at hr
    split at hr
    · rw [← ds_of hd]
      exact ⟨en_of (laws_eqPointS_0N_en _) ⟨rfl, rfl⟩, (laws_eqPointS_0N_ev n _ κ).trans hr0⟩
    · cases hr

/-! loop.example/g01297/laws.eqPoint -/
def laws_eqPoint_sh : List SkD := [.agg [.int .i64, .int .i64], .agg [.int .i64, .int .i64]]
def laws_eqPoint_runG {α : Type} (F : Nat → Int → Int → Int → Int → (Bool → Option α) → Option α) (n : Nat) (p : List P1) (κ : Res → Option α) : Option α := match p with
  | [.int a, .int a1, .int b_, .int b_1] => F n a a1 b_ b_1 (fun v1 => κ ⟨[.bool v1], []⟩)
  | _ => none
def laws_eqPoint_run {α : Type} (n : Nat) (p : List P1) (κ : Res → Option α) : Option α := laws_eqPoint_runG laws_eqPoint n p κ
def laws_eqPoint_CG {α : Type}  (n : Nat) : FuncId → List D → (Res → Option α) → Option α := tabC []
def laws_eqPoint_C {α : Type} (n : Nat) : FuncId → List D → (Res → Option α) → Option α := laws_eqPoint_CG n
def laws_eqPoint_M : FuncId → List Nat := tabM []
def laws_eqPoint_lpsG {α : Type}  : List (LoopT α) := []
def laws_eqPoint_lps {α : Type} : List (LoopT α) := laws_eqPoint_lpsG
def laws_eqPoint_XG {α : Type}   (n : Nat) : Ctx α := ⟨laws_eqPoint_CG n, laws_eqPoint_M, eqs, lpOf (laws_eqPoint_lpsG) n⟩
def laws_eqPoint_X {α : Type} (n : Nat) : Ctx α := laws_eqPoint_XG n
def laws_eqPoint_Lt (np : Nat) (lent : List (Bool × Nat × Blk)) : Prop := np = 2 ∧ lent = []
def laws_eqPoint_body {α : Type}   (k : Nat) (a : Int) (a1 : Int) (b_ : Int) (b_1 : Int) (r0 : Bool → Option α) : Option α :=
  bif (!decide (a = b_)) then
    r0 false
  else
  bif (!decide (a1 = b_1)) then
    r0 false
  else
    r0 true
theorem laws_eqPoint_gen {α : Type}   (n : Nat) (a : Int) (a1 : Int) (b_ : Int) (b_1 : Int) (κ : Res → Option α) : evFn Try.prog (laws_eqPoint_XG n) Try.f27 (((buildDs laws_eqPoint_sh [.int a, .int a1, .int b_, .int b_1]).map Prod.fst).getD []) κ = laws_eqPoint_body n a a1 b_ b_1 (fun v1 => κ ⟨[.bool v1], []⟩) := by kernel_rfl
theorem laws_eqPoint_ev {α : Type} (n : Nat) (a : Int) (a1 : Int) (b_ : Int) (b_1 : Int) (κ : Res → Option α) : evFn Try.prog (laws_eqPoint_X n) Try.f27 (((buildDs laws_eqPoint_sh [.int a, .int a1, .int b_, .int b_1]).map Prod.fst).getD []) κ = laws_eqPoint_run n [.int a, .int a1, .int b_, .int b_1] κ := (laws_eqPoint_gen n a a1 b_ b_1 κ).trans (by kernel_rfl)
theorem laws_eqPoint_en (a : Int) (a1 : Int) (b_ : Int) (b_1 : Int) : (entry 0 (((buildDs laws_eqPoint_sh [.int a, .int a1, .int b_, .int b_1]).map Prod.fst).getD [])).map (fun x => (x.1.length, x.2.lent)) = some (2, []) := by kernel_rfl
theorem laws_eqPoint_good {α : Type} : ∀ n, GoodFn (α := α) Try.prog 27 (byShape laws_eqPoint_sh (laws_eqPoint_run n)) := by
  refine fn_good' Try.func27 (c := (Try.f27.body.getD .skip)) (by kernel_rfl) (by kernel_rfl) (by kernel_rfl) laws_eqPoint_C laws_eqPoint_M eqs laws_eqPoint_lps (fun n => tabC_good (fun _ h => absurd h List.not_mem_nil)) eqs_ok laws_eqPoint_Lt ?_ ?_ laws_eqPoint_sh laws_eqPoint_run ?_
  · exact (fun _ h => absurd h List.not_mem_nil)
  · exact (fun _ h => absurd h List.not_mem_nil)
  · intro n p κ r ds hd hr
    have hr0 := hr
    unfold laws_eqPoint_run laws_eqPoint_runG at hr
    split at hr
    · rw [← ds_of hd]
      exact ⟨en_of (laws_eqPoint_en _ _ _ _) ⟨rfl, rfl⟩, (laws_eqPoint_ev n _ _ _ _ κ).trans hr0⟩
    · cases hr

/-! loop.example/g01297/laws.eqPointS -/
def laws_eqPointS_sh : List SkD := [.sl 31 .pt, .sl 31 .pt]
def laws_eqPointS_runG {α : Type} (F : Nat → (List (Int × Int)) → (List (Int × Int)) → (Bool → Option α) → Option α) (n : Nat) (p : List P1) (κ : Res → Option α) : Option α := match p with
  | [.rows .pt a, .rows .pt b_] => F n a b_ (fun v1 => κ ⟨[.bool v1], []⟩)
  | _ => none
def laws_eqPointS_run {α : Type} (n : Nat) (p : List P1) (κ : Res → Option α) : Option α := laws_eqPointS_runG laws_eqPointS n p κ
def laws_eqPointS_CG {α : Type} (F0 : Nat → Int → Int → Int → Int → (Bool → Option α) → Option α) (n : Nat) : FuncId → List D → (Res → Option α) → Option α := tabC [(27, (byShape laws_eqPoint_sh (laws_eqPoint_runG F0 n)))]
def laws_eqPointS_C {α : Type} (n : Nat) : FuncId → List D → (Res → Option α) → Option α := laws_eqPointS_CG laws_eqPoint n
def laws_eqPointS_M : FuncId → List Nat := tabM []
def laws_eqPointS_t4 : Tpl := ⟨[.sl 0, .sl 64, .any, .any, .any, .int .i64, .any, .any, .any, .any, .any, .any, .any, .any, .any, .any, .any, .any, .any, .any, .any, .any, .any, .any, .any, .any, .any], [(0, .rows 0 31 .pt), (64, .rows 0 31 .pt)], []⟩
def laws_eqPointS_uG4 {α : Type} (G : Nat → Int → (List (Int × Int)) → (List (Int × Int)) → (Int → (List (Int × Int)) → (List (Int × Int)) → Option α) → (Bool → Option α) → Option α) (n : Nat) (p : List P1) (brk : Nat → List P1 → Option α) (ret : Res → Option α) : Option α := match p with
  | [.int i, .rows .pt a1, .rows .pt b_1] => G n i a1 b_1 (fun i a1 b_1 => brk 0 [.int i, .rows .pt a1, .rows .pt b_1]) (fun v1 => ret ⟨[.bool v1], []⟩)
  | _ => none
def laws_eqPointS_u4 {α : Type} (n : Nat) (p : List P1) (brk : Nat → List P1 → Option α) (ret : Res → Option α) : Option α := laws_eqPointS_uG4 laws_eqPointS_l4 n p brk ret
def laws_eqPointS_lpsG {α : Type} (G4 : Nat → Int → (List (Int × Int)) → (List (Int × Int)) → (Int → (List (Int × Int)) → (List (Int × Int)) → Option α) → (Bool → Option α) → Option α) : List (LoopT α) := [⟨4, laws_eqPointS_t4, laws_eqPointS_uG4 G4⟩]
def laws_eqPointS_lps {α : Type} : List (LoopT α) := laws_eqPointS_lpsG laws_eqPointS_l4
def laws_eqPointS_XG {α : Type} (F0 : Nat → Int → Int → Int → Int → (Bool → Option α) → Option α) (G4 : Nat → Int → (List (Int × Int)) → (List (Int × Int)) → (Int → (List (Int × Int)) → (List (Int × Int)) → Option α) → (Bool → Option α) → Option α) (n : Nat) : Ctx α := ⟨laws_eqPointS_CG F0 n, laws_eqPointS_M, eqs, lpOf (laws_eqPointS_lpsG G4) n⟩
def laws_eqPointS_X {α : Type} (n : Nat) : Ctx α := laws_eqPointS_XG laws_eqPoint laws_eqPointS_l4 n
def laws_eqPointS_Lt (np : Nat) (lent : List (Bool × Nat × Blk)) : Prop := np = 2 ∧ lent = []
def laws_eqPointS_lb4 {α : Type} (F0 : Nat → Int → Int → Int → Int → (Bool → Option α) → Option α) (G4 : Nat → Int → (List (Int × Int)) → (List (Int × Int)) → (Int → (List (Int × Int)) → (List (Int × Int)) → Option α) → (Bool → Option α) → Option α) (k : Nat) (i : Int) (a1 : List (Int × Int)) (b_1 : List (Int × Int)) (b0 : Int → (List (Int × Int)) → (List (Int × Int)) → Option α) (r0 : Bool → Option α) : Option α :=
  bif decide (i < (((List.length a1) : Nat) : Int)) then
    bif (decide (0 ≤ i) && decide (i < (((List.length a1) : Nat) : Int))) then
      (a1[i.toNat]?).bind fun e_ =>
      bif (decide (0 ≤ i) && decide (i < (((List.length b_1) : Nat) : Int))) then
        (b_1[i.toNat]?).bind fun e_1 =>
        F0 k e_.1 e_.2 e_1.1 e_1.2 fun v =>
        bif (!v) then
          r0 false
        else
          G4 k (w64 (i + 1)) a1 b_1 b0 r0
      else
        none
    else
      none
  else
    b0 i a1 b_1
theorem laws_eqPointS_l4_gen {α : Type} (F0 : Nat → Int → Int → Int → Int → (Bool → Option α) → Option α) (G4 : Nat → Int → (List (Int × Int)) → (List (Int × Int)) → (Int → (List (Int × Int)) → (List (Int × Int)) → Option α) → (Bool → Option α) → Option α) (n : Nat) (i : Int) (a1 : List (Int × Int)) (b_1 : List (Int × Int)) (brk : Nat → List P1 → Option α) (ret : Res → Option α) : ev ((laws_eqPointS_XG F0 G4 n).env Try.prog Try.f38 2 []) (findLoop (loopsIn (Try.f38.body.getD .skip)) 4) ((laws_eqPointS_t4.build [.int i, .rows .pt a1, .rows .pt b_1]).getD ⟨[], []⟩) (roundK (2 * 64) laws_eqPointS_t4 (fun q => laws_eqPointS_uG4 G4 n q brk ret) brk ret) = laws_eqPointS_lb4 F0 G4 n i a1 b_1 (fun i a1 b_1 => brk 0 [.int i, .rows .pt a1, .rows .pt b_1]) (fun v1 => ret ⟨[.bool v1], []⟩) := by kernel_rfl
theorem laws_eqPointS_l4_ev {α : Type} (n : Nat) (i : Int) (a1 : List (Int × Int)) (b_1 : List (Int × Int)) (brk : Nat → List P1 → Option α) (ret : Res → Option α) : ev ((laws_eqPointS_X n).env Try.prog Try.f38 2 []) (findLoop (loopsIn (Try.f38.body.getD .skip)) 4) ((laws_eqPointS_t4.build [.int i, .rows .pt a1, .rows .pt b_1]).getD ⟨[], []⟩) (roundK (2 * 64) laws_eqPointS_t4 (fun q => laws_eqPointS_u4 n q brk ret) brk ret) = laws_eqPointS_u4 (n + 1) [.int i, .rows .pt a1, .rows .pt b_1] brk ret := (laws_eqPointS_l4_gen laws_eqPoint laws_eqPointS_l4 n i a1 b_1 brk ret).trans (by kernel_rfl)
def laws_eqPointS_body {α : Type} (F0 : Nat → Int → Int → Int → Int → (Bool → Option α) → Option α) (G4 : Nat → Int → (List (Int × Int)) → (List (Int × Int)) → (Int → (List (Int × Int)) → (List (Int × Int)) → Option α) → (Bool → Option α) → Option α) (k : Nat) (a : List (Int × Int)) (b_ : List (Int × Int)) (r0 : Bool → Option α) : Option α :=
  bif (!decide ((((List.length a) : Nat) : Int) = (((List.length b_) : Nat) : Int))) then
    r0 false
  else
    G4 k 0 a b_
      (fun i1 a2 b_2 =>
        r0 true)
      r0
theorem laws_eqPointS_gen {α : Type} (F0 : Nat → Int → Int → Int → Int → (Bool → Option α) → Option α) (G4 : Nat → Int → (List (Int × Int)) → (List (Int × Int)) → (Int → (List (Int × Int)) → (List (Int × Int)) → Option α) → (Bool → Option α) → Option α) (n : Nat) (a : List (Int × Int)) (b_ : List (Int × Int)) (κ : Res → Option α) : evFn Try.prog (laws_eqPointS_XG F0 G4 n) Try.f38 (((buildDs laws_eqPointS_sh [.rows .pt a, .rows .pt b_]).map Prod.fst).getD []) κ = laws_eqPointS_body F0 G4 n a b_ (fun v1 => κ ⟨[.bool v1], []⟩) := by kernel_rfl
theorem laws_eqPointS_ev {α : Type} (n : Nat) (a : List (Int × Int)) (b_ : List (Int × Int)) (κ : Res → Option α) : evFn Try.prog (laws_eqPointS_X n) Try.f38 (((buildDs laws_eqPointS_sh [.rows .pt a, .rows .pt b_]).map Prod.fst).getD []) κ = laws_eqPointS_run n [.rows .pt a, .rows .pt b_] κ := (laws_eqPointS_gen laws_eqPoint laws_eqPointS_l4 n a b_ κ).trans (by kernel_rfl)
theorem laws_eqPointS_en (a : List (Int × Int)) (b_ : List (Int × Int)) : (entry 0 (((buildDs laws_eqPointS_sh [.rows .pt a, .rows .pt b_]).map Prod.fst).getD [])).map (fun x => (x.1.length, x.2.lent)) = some (2, []) := by kernel_rfl
theorem laws_eqPointS_good {α : Type} : ∀ n, GoodFn (α := α) Try.prog 38 (byShape laws_eqPointS_sh (laws_eqPointS_run n)) := by
  refine fn_good' Try.func38 (c := (Try.f38.body.getD .skip)) (by kernel_rfl) (by kernel_rfl) (by kernel_rfl) laws_eqPointS_C laws_eqPointS_M eqs laws_eqPointS_lps (fun n => tabC_good (List.forall_mem_cons.2 ⟨(laws_eqPoint_good n), (fun _ h => absurd h List.not_mem_nil)⟩)) eqs_ok laws_eqPointS_Lt ?_ ?_ laws_eqPointS_sh laws_eqPointS_run ?_
  · refine List.forall_mem_cons.2 ⟨?_, (fun _ h => absurd h List.not_mem_nil)⟩
    · intro p brk ret; show laws_eqPointS_u4 0 p brk ret = none; unfold laws_eqPointS_u4 laws_eqPointS_uG4; split <;> rfl
  · refine List.forall_mem_cons.2 ⟨?_, (fun _ h => absurd h List.not_mem_nil)⟩
    · intro np lent hL n p brk ret st r hb hr
      obtain ⟨rfl, rfl⟩ := hL
      rw [← tpl_of hb]
      change laws_eqPointS_u4 (n + 1) p brk ret = some r at hr
      have hr0 := hr
      unfold laws_eqPointS_u4 laws_eqPointS_uG4 at hr
      split at hr
      · exact (laws_eqPointS_l4_ev n _ _ _ brk ret).trans hr0
      · cases hr
  · intro n p κ r ds hd hr
    have hr0 := hr
    unfold laws_eqPointS_run laws_eqPointS_runG at hr
    split at hr
    · rw [← ds_of hd]
      exact ⟨en_of (laws_eqPointS_en _ _) ⟨rfl, rfl⟩, (laws_eqPointS_ev n _ _ κ).trans hr0⟩
    · cases hr

end Go.Proofs.Ytegnnbhphgeocaa
