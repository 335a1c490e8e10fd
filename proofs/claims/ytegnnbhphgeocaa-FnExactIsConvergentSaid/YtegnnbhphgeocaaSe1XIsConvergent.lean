/- The program's functions hold to their readings without memory: printed by a program of ours. -/
import Derived.Test.YtegnnbhphgeocaaSeXIsConvergent
namespace Go.Proofs.Ytegnnbhphgeocaa
open Go Go.Ev Go.Sh Go.Proofs

/-! loop.example/g01297/spec.l01In -/
def spec_l01In_sh : List SkD := [.int .i64, .int .i64, .int .i64]
def spec_l01In_runG {α : Type} (F : Nat → Int → Int → Int → (Bool → Option α) → Option α) (n : Nat) (p : List P1) (κ : Res → Option α) : Option α := match p with
  | [.int n_, .int low, .int high] => F n n_ low high (fun v1 => κ ⟨[.bool v1], []⟩)
  | _ => none
def spec_l01In_run {α : Type} (n : Nat) (p : List P1) (κ : Res → Option α) : Option α := spec_l01In_runG spec_l01In n p κ
def spec_l01In_CG {α : Type}  (n : Nat) : FuncId → List D → (Res → Option α) → Option α := tabC []
def spec_l01In_C {α : Type} (n : Nat) : FuncId → List D → (Res → Option α) → Option α := spec_l01In_CG n
def spec_l01In_M : FuncId → List Nat := tabM []
def spec_l01In_lpsG {α : Type}  : List (LoopT α) := []
def spec_l01In_lps {α : Type} : List (LoopT α) := spec_l01In_lpsG
def spec_l01In_XG {α : Type}   (n : Nat) : Ctx α := ⟨spec_l01In_CG n, spec_l01In_M, eqs, lpOf (spec_l01In_lpsG) n⟩
def spec_l01In_X {α : Type} (n : Nat) : Ctx α := spec_l01In_XG n
def spec_l01In_Lt (np : Nat) (lent : List (Bool × Nat × Blk)) : Prop := np = 3 ∧ lent = []
def spec_l01In_body {α : Type}   (k : Nat) (n_ : Int) (low : Int) (high : Int) (r0 : Bool → Option α) : Option α :=
  bif decide (low ≤ n_) then
    r0 (decide (n_ ≤ high))
  else
    r0 false
theorem spec_l01In_gen {α : Type}   (n : Nat) (n_ : Int) (low : Int) (high : Int) (κ : Res → Option α) : evFn Try.prog (spec_l01In_XG n) Try.f59 (((buildDs spec_l01In_sh [.int n_, .int low, .int high]).map Prod.fst).getD []) κ = spec_l01In_body n n_ low high (fun v1 => κ ⟨[.bool v1], []⟩) := by kernel_rfl
theorem spec_l01In_ev {α : Type} (n : Nat) (n_ : Int) (low : Int) (high : Int) (κ : Res → Option α) : evFn Try.prog (spec_l01In_X n) Try.f59 (((buildDs spec_l01In_sh [.int n_, .int low, .int high]).map Prod.fst).getD []) κ = spec_l01In_run n [.int n_, .int low, .int high] κ := (spec_l01In_gen n n_ low high κ).trans (by kernel_rfl)
theorem spec_l01In_en (n_ : Int) (low : Int) (high : Int) : (entry 0 (((buildDs spec_l01In_sh [.int n_, .int low, .int high]).map Prod.fst).getD [])).map (fun x => (x.1.length, x.2.lent)) = some (3, []) := by kernel_rfl
theorem spec_l01In_good {α : Type} : ∀ n, GoodFn (α := α) Try.prog 59 (byShape spec_l01In_sh (spec_l01In_run n)) := by
  refine fn_good' Try.func59 (c := (Try.f59.body.getD .skip)) (by kernel_rfl) (by kernel_rfl) (by kernel_rfl) spec_l01In_C spec_l01In_M eqs spec_l01In_lps (fun n => tabC_good (fun _ h => absurd h List.not_mem_nil)) eqs_ok spec_l01In_Lt ?_ ?_ spec_l01In_sh spec_l01In_run ?_
  · exact (fun _ h => absurd h List.not_mem_nil)
  · exact (fun _ h => absurd h List.not_mem_nil)
  · intro n p κ r ds hd hr
    have hr0 := hr
    unfold spec_l01In_run spec_l01In_runG at hr
    split at hr
    · rw [← ds_of hd]
      exact ⟨en_of (spec_l01In_en _ _ _) ⟨rfl, rfl⟩, (spec_l01In_ev n _ _ _ κ).trans hr0⟩
    · cases hr

/-! loop.example/g01297/spec.l01Fits -/
def spec_l01Fits_sh : List SkD := [.int .i64]
def spec_l01Fits_runG {α : Type} (F : Nat → Int → (Bool → Option α) → Option α) (n : Nat) (p : List P1) (κ : Res → Option α) : Option α := match p with
  | [.int x] => F n x (fun v1 => κ ⟨[.bool v1], []⟩)
  | _ => none
def spec_l01Fits_run {α : Type} (n : Nat) (p : List P1) (κ : Res → Option α) : Option α := spec_l01Fits_runG spec_l01Fits n p κ
def spec_l01Fits_CG {α : Type} (F0 : Nat → Int → Int → Int → (Bool → Option α) → Option α) (n : Nat) : FuncId → List D → (Res → Option α) → Option α := tabC [(59, (byShape spec_l01In_sh (spec_l01In_runG F0 n)))]
def spec_l01Fits_C {α : Type} (n : Nat) : FuncId → List D → (Res → Option α) → Option α := spec_l01Fits_CG spec_l01In n
def spec_l01Fits_M : FuncId → List Nat := tabM []
def spec_l01Fits_lpsG {α : Type}  : List (LoopT α) := []
def spec_l01Fits_lps {α : Type} : List (LoopT α) := spec_l01Fits_lpsG
def spec_l01Fits_XG {α : Type} (F0 : Nat → Int → Int → Int → (Bool → Option α) → Option α)  (n : Nat) : Ctx α := ⟨spec_l01Fits_CG F0 n, spec_l01Fits_M, eqs, lpOf (spec_l01Fits_lpsG) n⟩
def spec_l01Fits_X {α : Type} (n : Nat) : Ctx α := spec_l01Fits_XG spec_l01In n
def spec_l01Fits_Lt (np : Nat) (lent : List (Bool × Nat × Blk)) : Prop := np = 1 ∧ lent = []
def spec_l01Fits_body {α : Type} (F0 : Nat → Int → Int → Int → (Bool → Option α) → Option α)  (k : Nat) (x : Int) (r0 : Bool → Option α) : Option α :=
  F0 k x (-1000000) 1000000 fun v =>
  r0 v
theorem spec_l01Fits_gen {α : Type} (F0 : Nat → Int → Int → Int → (Bool → Option α) → Option α)  (n : Nat) (x : Int) (κ : Res → Option α) : evFn Try.prog (spec_l01Fits_XG F0 n) Try.f87 (((buildDs spec_l01Fits_sh [.int x]).map Prod.fst).getD []) κ = spec_l01Fits_body F0 n x (fun v1 => κ ⟨[.bool v1], []⟩) := by kernel_rfl
theorem spec_l01Fits_ev {α : Type} (n : Nat) (x : Int) (κ : Res → Option α) : evFn Try.prog (spec_l01Fits_X n) Try.f87 (((buildDs spec_l01Fits_sh [.int x]).map Prod.fst).getD []) κ = spec_l01Fits_run n [.int x] κ := (spec_l01Fits_gen spec_l01In n x κ).trans (by kernel_rfl)
theorem spec_l01Fits_en (x : Int) : (entry 0 (((buildDs spec_l01Fits_sh [.int x]).map Prod.fst).getD [])).map (fun x => (x.1.length, x.2.lent)) = some (1, []) := by kernel_rfl
theorem spec_l01Fits_good {α : Type} : ∀ n, GoodFn (α := α) Try.prog 87 (byShape spec_l01Fits_sh (spec_l01Fits_run n)) := by
  refine fn_good' Try.func87 (c := (Try.f87.body.getD .skip)) (by kernel_rfl) (by kernel_rfl) (by kernel_rfl) spec_l01Fits_C spec_l01Fits_M eqs spec_l01Fits_lps (fun n => tabC_good (List.forall_mem_cons.2 ⟨(spec_l01In_good n), (fun _ h => absurd h List.not_mem_nil)⟩)) eqs_ok spec_l01Fits_Lt ?_ ?_ spec_l01Fits_sh spec_l01Fits_run ?_
  · exact (fun _ h => absurd h List.not_mem_nil)
  · exact (fun _ h => absurd h List.not_mem_nil)
  · intro n p κ r ds hd hr
    have hr0 := hr
    unfold spec_l01Fits_run spec_l01Fits_runG at hr
    split at hr
    · rw [← ds_of hd]
      exact ⟨en_of (spec_l01Fits_en _) ⟨rfl, rfl⟩, (spec_l01Fits_ev n _ κ).trans hr0⟩
    · cases hr

/-! loop.example/g01297/spec.l10Ratio -/
def spec_l10Ratio_sh : List SkD := [.int .i64, .int .i64, .int .i64]
def spec_l10Ratio_runG {α : Type} (F : Nat → Int → Int → Int → (Bool → Option α) → Option α) (n : Nat) (p : List P1) (κ : Res → Option α) : Option α := match p with
  | [.int p_, .int q_, .int low] => F n p_ q_ low (fun v1 => κ ⟨[.bool v1], []⟩)
  | _ => none
def spec_l10Ratio_run {α : Type} (n : Nat) (p : List P1) (κ : Res → Option α) : Option α := spec_l10Ratio_runG spec_l10Ratio n p κ
def spec_l10Ratio_CG {α : Type} (F0 : Nat → Int → (Bool → Option α) → Option α) (F1 : Nat → Int → Int → Int → (Bool → Option α) → Option α) (n : Nat) : FuncId → List D → (Res → Option α) → Option α := tabC [(87, (byShape spec_l01Fits_sh (spec_l01Fits_runG F0 n))), (59, (byShape spec_l01In_sh (spec_l01In_runG F1 n)))]
def spec_l10Ratio_C {α : Type} (n : Nat) : FuncId → List D → (Res → Option α) → Option α := spec_l10Ratio_CG spec_l01Fits spec_l01In n
def spec_l10Ratio_M : FuncId → List Nat := tabM []
def spec_l10Ratio_lpsG {α : Type}  : List (LoopT α) := []
def spec_l10Ratio_lps {α : Type} : List (LoopT α) := spec_l10Ratio_lpsG
def spec_l10Ratio_XG {α : Type} (F0 : Nat → Int → (Bool → Option α) → Option α) (F1 : Nat → Int → Int → Int → (Bool → Option α) → Option α)  (n : Nat) : Ctx α := ⟨spec_l10Ratio_CG F0 F1 n, spec_l10Ratio_M, eqs, lpOf (spec_l10Ratio_lpsG) n⟩
def spec_l10Ratio_X {α : Type} (n : Nat) : Ctx α := spec_l10Ratio_XG spec_l01Fits spec_l01In n
def spec_l10Ratio_Lt (np : Nat) (lent : List (Bool × Nat × Blk)) : Prop := np = 3 ∧ lent = []
def spec_l10Ratio_body {α : Type} (F0 : Nat → Int → (Bool → Option α) → Option α) (F1 : Nat → Int → Int → Int → (Bool → Option α) → Option α)  (k : Nat) (p_ : Int) (q_ : Int) (low : Int) (r0 : Bool → Option α) : Option α :=
  F0 k p_ fun v =>
  bif v then
    F1 k q_ low 1000000 fun v1 =>
    r0 v1
  else
    r0 false
theorem spec_l10Ratio_gen {α : Type} (F0 : Nat → Int → (Bool → Option α) → Option α) (F1 : Nat → Int → Int → Int → (Bool → Option α) → Option α)  (n : Nat) (p_ : Int) (q_ : Int) (low : Int) (κ : Res → Option α) : evFn Try.prog (spec_l10Ratio_XG F0 F1 n) Try.f58 (((buildDs spec_l10Ratio_sh [.int p_, .int q_, .int low]).map Prod.fst).getD []) κ = spec_l10Ratio_body F0 F1 n p_ q_ low (fun v1 => κ ⟨[.bool v1], []⟩) := by kernel_rfl
theorem spec_l10Ratio_ev {α : Type} (n : Nat) (p_ : Int) (q_ : Int) (low : Int) (κ : Res → Option α) : evFn Try.prog (spec_l10Ratio_X n) Try.f58 (((buildDs spec_l10Ratio_sh [.int p_, .int q_, .int low]).map Prod.fst).getD []) κ = spec_l10Ratio_run n [.int p_, .int q_, .int low] κ := (spec_l10Ratio_gen spec_l01Fits spec_l01In n p_ q_ low κ).trans (by kernel_rfl)
theorem spec_l10Ratio_en (p_ : Int) (q_ : Int) (low : Int) : (entry 0 (((buildDs spec_l10Ratio_sh [.int p_, .int q_, .int low]).map Prod.fst).getD [])).map (fun x => (x.1.length, x.2.lent)) = some (3, []) := by kernel_rfl
theorem spec_l10Ratio_good {α : Type} : ∀ n, GoodFn (α := α) Try.prog 58 (byShape spec_l10Ratio_sh (spec_l10Ratio_run n)) := by
  refine fn_good' Try.func58 (c := (Try.f58.body.getD .skip)) (by kernel_rfl) (by kernel_rfl) (by kernel_rfl) spec_l10Ratio_C spec_l10Ratio_M eqs spec_l10Ratio_lps (fun n => tabC_good (List.forall_mem_cons.2 ⟨(spec_l01Fits_good n), (List.forall_mem_cons.2 ⟨(spec_l01In_good n), (fun _ h => absurd h List.not_mem_nil)⟩)⟩)) eqs_ok spec_l10Ratio_Lt ?_ ?_ spec_l10Ratio_sh spec_l10Ratio_run ?_
  · exact (fun _ h => absurd h List.not_mem_nil)
  · exact (fun _ h => absurd h List.not_mem_nil)
  · intro n p κ r ds hd hr
    have hr0 := hr
    unfold spec_l10Ratio_run spec_l10Ratio_runG at hr
    split at hr
    · rw [← ds_of hd]
      exact ⟨en_of (spec_l10Ratio_en _ _ _) ⟨rfl, rfl⟩, (spec_l10Ratio_ev n _ _ _ κ).trans hr0⟩
    · cases hr

/-! loop.example/g01297/spec.l01Floor -/
def spec_l01Floor_sh : List SkD := [.int .i64, .int .i64]
def spec_l01Floor_runG {α : Type} (F : Nat → Int → Int → (Int → Option α) → Option α) (n : Nat) (p : List P1) (κ : Res → Option α) : Option α := match p with
  | [.int p_, .int q_] => F n p_ q_ (fun v1 => κ ⟨[.int .i64 v1], []⟩)
  | _ => none
def spec_l01Floor_run {α : Type} (n : Nat) (p : List P1) (κ : Res → Option α) : Option α := spec_l01Floor_runG spec_l01Floor n p κ
def spec_l01Floor_CG {α : Type}  (n : Nat) : FuncId → List D → (Res → Option α) → Option α := tabC []
def spec_l01Floor_C {α : Type} (n : Nat) : FuncId → List D → (Res → Option α) → Option α := spec_l01Floor_CG n
def spec_l01Floor_M : FuncId → List Nat := tabM []
def spec_l01Floor_lpsG {α : Type}  : List (LoopT α) := []
def spec_l01Floor_lps {α : Type} : List (LoopT α) := spec_l01Floor_lpsG
def spec_l01Floor_XG {α : Type}   (n : Nat) : Ctx α := ⟨spec_l01Floor_CG n, spec_l01Floor_M, eqs, lpOf (spec_l01Floor_lpsG) n⟩
def spec_l01Floor_X {α : Type} (n : Nat) : Ctx α := spec_l01Floor_XG n
def spec_l01Floor_Lt (np : Nat) (lent : List (Bool × Nat × Blk)) : Prop := np = 2 ∧ lent = []
def spec_l01Floor_body {α : Type}   (k : Nat) (p_ : Int) (q_ : Int) (r0 : Int → Option α) : Option α :=
  bif decide (q_ = 0) then
    none
  else
  bif decide (q_ = 0) then
    none
  else
  bif (!decide ((Int.tmod p_ q_) = 0)) then
    bif (!(decide (p_ < 0) == decide (q_ < 0))) then
      r0 (w64 ((w64 (Int.tdiv p_ q_)) - 1))
    else
      r0 (w64 (Int.tdiv p_ q_))
  else
    r0 (w64 (Int.tdiv p_ q_))
theorem spec_l01Floor_gen {α : Type}   (n : Nat) (p_ : Int) (q_ : Int) (κ : Res → Option α) : evFn Try.prog (spec_l01Floor_XG n) Try.f98 (((buildDs spec_l01Floor_sh [.int p_, .int q_]).map Prod.fst).getD []) κ = spec_l01Floor_body n p_ q_ (fun v1 => κ ⟨[.int .i64 v1], []⟩) := by kernel_rfl
theorem spec_l01Floor_ev {α : Type} (n : Nat) (p_ : Int) (q_ : Int) (κ : Res → Option α) : evFn Try.prog (spec_l01Floor_X n) Try.f98 (((buildDs spec_l01Floor_sh [.int p_, .int q_]).map Prod.fst).getD []) κ = spec_l01Floor_run n [.int p_, .int q_] κ := (spec_l01Floor_gen n p_ q_ κ).trans (by kernel_rfl)
theorem spec_l01Floor_en (p_ : Int) (q_ : Int) : (entry 0 (((buildDs spec_l01Floor_sh [.int p_, .int q_]).map Prod.fst).getD [])).map (fun x => (x.1.length, x.2.lent)) = some (2, []) := by kernel_rfl
theorem spec_l01Floor_good {α : Type} : ∀ n, GoodFn (α := α) Try.prog 98 (byShape spec_l01Floor_sh (spec_l01Floor_run n)) := by
  refine fn_good' Try.func98 (c := (Try.f98.body.getD .skip)) (by kernel_rfl) (by kernel_rfl) (by kernel_rfl) spec_l01Floor_C spec_l01Floor_M eqs spec_l01Floor_lps (fun n => tabC_good (fun _ h => absurd h List.not_mem_nil)) eqs_ok spec_l01Floor_Lt ?_ ?_ spec_l01Floor_sh spec_l01Floor_run ?_
  · exact (fun _ h => absurd h List.not_mem_nil)
  · exact (fun _ h => absurd h List.not_mem_nil)
  · intro n p κ r ds hd hr
    have hr0 := hr
    unfold spec_l01Floor_run spec_l01Floor_runG at hr
    split at hr
    · rw [← ds_of hd]
      exact ⟨en_of (spec_l01Floor_en _ _) ⟨rfl, rfl⟩, (spec_l01Floor_ev n _ _ κ).trans hr0⟩
    · cases hr

/-! loop.example/g01297/spec.l01Expand -/
def spec_l01Expand_sh : List SkD := [.int .i64, .int .i64]
def spec_l01Expand_runG {α : Type} (F : Nat → Int → Int → (List Int → Option α) → Option α) (n : Nat) (p : List P1) (κ : Res → Option α) : Option α := match p with
  | [.int p_, .int q_] => F n p_ q_ (fun v1 => κ ⟨[.sl 2 (.int .i64) v1], []⟩)
  | _ => none
def spec_l01Expand_run {α : Type} (n : Nat) (p : List P1) (κ : Res → Option α) : Option α := spec_l01Expand_runG spec_l01Expand n p κ
def spec_l01Expand_CG {α : Type} (F0 : Nat → Int → Int → (Int → Option α) → Option α) (n : Nat) : FuncId → List D → (Res → Option α) → Option α := tabC [(98, (byShape spec_l01Floor_sh (spec_l01Floor_runG F0 n)))]
def spec_l01Expand_C {α : Type} (n : Nat) : FuncId → List D → (Res → Option α) → Option α := spec_l01Expand_CG spec_l01Floor n
def spec_l01Expand_M : FuncId → List Nat := tabM []
def spec_l01Expand_t2 : Tpl := ⟨[.int .i64, .int .i64, .any, .any, .any, .sl 512, .any, .any, .any, .any, .any, .any, .any, .any, .any, .any, .any, .any, .any, .any, .any, .any, .any, .any, .any, .any], [(512, .rows 2 2 (.int .i64))], []⟩
def spec_l01Expand_uG2 {α : Type} (G : Nat → Int → Int → List Int → (Int → Int → List Int → Option α) → (List Int → Option α) → Option α) (n : Nat) (p : List P1) (brk : Nat → List P1 → Option α) (ret : Res → Option α) : Option α := match p with
  | [.int p_1, .int q_1, .rows (.int .i64) out] => G n p_1 q_1 out (fun p_1 q_1 out => brk 0 [.int p_1, .int q_1, .rows (.int .i64) out]) (fun v1 => ret ⟨[.sl 2 (.int .i64) v1], []⟩)
  | _ => none
def spec_l01Expand_u2 {α : Type} (n : Nat) (p : List P1) (brk : Nat → List P1 → Option α) (ret : Res → Option α) : Option α := spec_l01Expand_uG2 spec_l01Expand_l2 n p brk ret
def spec_l01Expand_lpsG {α : Type} (G2 : Nat → Int → Int → List Int → (Int → Int → List Int → Option α) → (List Int → Option α) → Option α) : List (LoopT α) := [⟨2, spec_l01Expand_t2, spec_l01Expand_uG2 G2⟩]
def spec_l01Expand_lps {α : Type} : List (LoopT α) := spec_l01Expand_lpsG spec_l01Expand_l2
def spec_l01Expand_XG {α : Type} (F0 : Nat → Int → Int → (Int → Option α) → Option α) (G2 : Nat → Int → Int → List Int → (Int → Int → List Int → Option α) → (List Int → Option α) → Option α) (n : Nat) : Ctx α := ⟨spec_l01Expand_CG F0 n, spec_l01Expand_M, eqs, lpOf (spec_l01Expand_lpsG G2) n⟩
def spec_l01Expand_X {α : Type} (n : Nat) : Ctx α := spec_l01Expand_XG spec_l01Floor spec_l01Expand_l2 n
def spec_l01Expand_Lt (np : Nat) (lent : List (Bool × Nat × Blk)) : Prop := np = 2 ∧ lent = []
def spec_l01Expand_lb2 {α : Type} (F0 : Nat → Int → Int → (Int → Option α) → Option α) (G2 : Nat → Int → Int → List Int → (Int → Int → List Int → Option α) → (List Int → Option α) → Option α) (k : Nat) (p_1 : Int) (q_1 : Int) (out : List Int) (b0 : Int → Int → List Int → Option α) (r0 : List Int → Option α) : Option α :=
  bif (!decide (q_1 = 0)) then
    F0 k p_1 q_1 fun v =>
    bif decide (((List.length out) + 1) ≤ big) then
      G2 k q_1 (w64 (p_1 - (w64 (v * q_1)))) (out ++ [v]) b0 r0
    else
      none
  else
    b0 p_1 q_1 out
theorem spec_l01Expand_l2_gen {α : Type} (F0 : Nat → Int → Int → (Int → Option α) → Option α) (G2 : Nat → Int → Int → List Int → (Int → Int → List Int → Option α) → (List Int → Option α) → Option α) (n : Nat) (p_1 : Int) (q_1 : Int) (out : List Int) (brk : Nat → List P1 → Option α) (ret : Res → Option α) : ev ((spec_l01Expand_XG F0 G2 n).env Try.prog Try.f107 2 []) (findLoop (loopsIn (Try.f107.body.getD .skip)) 2) ((spec_l01Expand_t2.build [.int p_1, .int q_1, .rows (.int .i64) out]).getD ⟨[], []⟩) (roundK (2 * 64) spec_l01Expand_t2 (fun q => spec_l01Expand_uG2 G2 n q brk ret) brk ret) = spec_l01Expand_lb2 F0 G2 n p_1 q_1 out (fun p_1 q_1 out => brk 0 [.int p_1, .int q_1, .rows (.int .i64) out]) (fun v1 => ret ⟨[.sl 2 (.int .i64) v1], []⟩) := by kernel_rfl
theorem spec_l01Expand_l2_ev {α : Type} (n : Nat) (p_1 : Int) (q_1 : Int) (out : List Int) (brk : Nat → List P1 → Option α) (ret : Res → Option α) : ev ((spec_l01Expand_X n).env Try.prog Try.f107 2 []) (findLoop (loopsIn (Try.f107.body.getD .skip)) 2) ((spec_l01Expand_t2.build [.int p_1, .int q_1, .rows (.int .i64) out]).getD ⟨[], []⟩) (roundK (2 * 64) spec_l01Expand_t2 (fun q => spec_l01Expand_u2 n q brk ret) brk ret) = spec_l01Expand_u2 (n + 1) [.int p_1, .int q_1, .rows (.int .i64) out] brk ret := (spec_l01Expand_l2_gen spec_l01Floor spec_l01Expand_l2 n p_1 q_1 out brk ret).trans (by kernel_rfl)
def spec_l01Expand_body {α : Type} (F0 : Nat → Int → Int → (Int → Option α) → Option α) (G2 : Nat → Int → Int → List Int → (Int → Int → List Int → Option α) → (List Int → Option α) → Option α) (k : Nat) (p_ : Int) (q_ : Int) (r0 : List Int → Option α) : Option α :=
  G2 k p_ q_ []
    (fun p_2 q_2 out1 =>
      r0 out1)
    r0
theorem spec_l01Expand_gen {α : Type} (F0 : Nat → Int → Int → (Int → Option α) → Option α) (G2 : Nat → Int → Int → List Int → (Int → Int → List Int → Option α) → (List Int → Option α) → Option α) (n : Nat) (p_ : Int) (q_ : Int) (κ : Res → Option α) : evFn Try.prog (spec_l01Expand_XG F0 G2 n) Try.f107 (((buildDs spec_l01Expand_sh [.int p_, .int q_]).map Prod.fst).getD []) κ = spec_l01Expand_body F0 G2 n p_ q_ (fun v1 => κ ⟨[.sl 2 (.int .i64) v1], []⟩) := by kernel_rfl
theorem spec_l01Expand_ev {α : Type} (n : Nat) (p_ : Int) (q_ : Int) (κ : Res → Option α) : evFn Try.prog (spec_l01Expand_X n) Try.f107 (((buildDs spec_l01Expand_sh [.int p_, .int q_]).map Prod.fst).getD []) κ = spec_l01Expand_run n [.int p_, .int q_] κ := (spec_l01Expand_gen spec_l01Floor spec_l01Expand_l2 n p_ q_ κ).trans (by kernel_rfl)
theorem spec_l01Expand_en (p_ : Int) (q_ : Int) : (entry 0 (((buildDs spec_l01Expand_sh [.int p_, .int q_]).map Prod.fst).getD [])).map (fun x => (x.1.length, x.2.lent)) = some (2, []) := by kernel_rfl
theorem spec_l01Expand_good {α : Type} : ∀ n, GoodFn (α := α) Try.prog 107 (byShape spec_l01Expand_sh (spec_l01Expand_run n)) := by
  refine fn_good' Try.func107 (c := (Try.f107.body.getD .skip)) (by kernel_rfl) (by kernel_rfl) (by kernel_rfl) spec_l01Expand_C spec_l01Expand_M eqs spec_l01Expand_lps (fun n => tabC_good (List.forall_mem_cons.2 ⟨(spec_l01Floor_good n), (fun _ h => absurd h List.not_mem_nil)⟩)) eqs_ok spec_l01Expand_Lt ?_ ?_ spec_l01Expand_sh spec_l01Expand_run ?_
  · refine List.forall_mem_cons.2 ⟨?_, (fun _ h => absurd h List.not_mem_nil)⟩
    · intro p brk ret; show spec_l01Expand_u2 0 p brk ret = none; unfold spec_l01Expand_u2 spec_l01Expand_uG2; split <;> rfl
  · refine List.forall_mem_cons.2 ⟨?_, (fun _ h => absurd h List.not_mem_nil)⟩
    · intro np lent hL n p brk ret st r hb hr
      obtain ⟨rfl, rfl⟩ := hL
      rw [← tpl_of hb]
      change spec_l01Expand_u2 (n + 1) p brk ret = some r at hr
      have hr0 := hr
      unfold spec_l01Expand_u2 spec_l01Expand_uG2 at hr
      split at hr
      · exact (spec_l01Expand_l2_ev n _ _ _ brk ret).trans hr0
      · cases hr
  · intro n p κ r ds hd hr
    have hr0 := hr
    unfold spec_l01Expand_run spec_l01Expand_runG at hr
    split at hr
    · rw [← ds_of hd]
      exact ⟨en_of (spec_l01Expand_en _ _) ⟨rfl, rfl⟩, (spec_l01Expand_ev n _ _ κ).trans hr0⟩
    · cases hr

/-! loop.example/g01297/spec.l01Fold -/
def spec_l01Fold_sh : List SkD := [.sl 2 (.int .i64)]
def spec_l01Fold_runG {α : Type} (F : Nat → List Int → (Int → Int → Bool → Option α) → Option α) (n : Nat) (p : List P1) (κ : Res → Option α) : Option α := match p with
  | [.rows (.int .i64) list] => F n list (fun v1 v2 v3 => κ ⟨[.int .i64 v1, .int .i64 v2, .bool v3], []⟩)
  | _ => none
def spec_l01Fold_run {α : Type} (n : Nat) (p : List P1) (κ : Res → Option α) : Option α := spec_l01Fold_runG spec_l01Fold n p κ
def spec_l01Fold_CG {α : Type} (F0 : Nat → Int → (Bool → Option α) → Option α) (n : Nat) : FuncId → List D → (Res → Option α) → Option α := tabC [(87, (byShape spec_l01Fits_sh (spec_l01Fits_runG F0 n)))]
def spec_l01Fold_C {α : Type} (n : Nat) : FuncId → List D → (Res → Option α) → Option α := spec_l01Fold_CG spec_l01Fits n
def spec_l01Fold_M : FuncId → List Nat := tabM []
def spec_l01Fold_t3 : Tpl := ⟨[.sl 0, .any, .any, .any, .any, .int .i64, .int .i64, .int .i64, .any, .any, .any, .any, .any, .any, .any, .any, .any, .any, .any, .any, .any, .any, .any, .any, .any, .any, .any, .any, .any, .any, .any, .any, .any, .any, .any, .any, .any, .any, .any, .any, .any, .any], [(0, .rows 0 2 (.int .i64))], []⟩
def spec_l01Fold_uG3 {α : Type} (G : Nat → Int → Int → Int → List Int → (Int → Int → Int → List Int → Option α) → (Int → Int → Bool → Option α) → Option α) (n : Nat) (p : List P1) (brk : Nat → List P1 → Option α) (ret : Res → Option α) : Option α := match p with
  | [.int p_, .int q_, .int i, .rows (.int .i64) list1] => G n p_ q_ i list1 (fun p_ q_ i list1 => brk 0 [.int p_, .int q_, .int i, .rows (.int .i64) list1]) (fun v1 v2 v3 => ret ⟨[.int .i64 v1, .int .i64 v2, .bool v3], []⟩)
  | _ => none
def spec_l01Fold_u3 {α : Type} (n : Nat) (p : List P1) (brk : Nat → List P1 → Option α) (ret : Res → Option α) : Option α := spec_l01Fold_uG3 spec_l01Fold_l3 n p brk ret
def spec_l01Fold_lpsG {α : Type} (G3 : Nat → Int → Int → Int → List Int → (Int → Int → Int → List Int → Option α) → (Int → Int → Bool → Option α) → Option α) : List (LoopT α) := [⟨3, spec_l01Fold_t3, spec_l01Fold_uG3 G3⟩]
def spec_l01Fold_lps {α : Type} : List (LoopT α) := spec_l01Fold_lpsG spec_l01Fold_l3
def spec_l01Fold_XG {α : Type} (F0 : Nat → Int → (Bool → Option α) → Option α) (G3 : Nat → Int → Int → Int → List Int → (Int → Int → Int → List Int → Option α) → (Int → Int → Bool → Option α) → Option α) (n : Nat) : Ctx α := ⟨spec_l01Fold_CG F0 n, spec_l01Fold_M, eqs, lpOf (spec_l01Fold_lpsG G3) n⟩
def spec_l01Fold_X {α : Type} (n : Nat) : Ctx α := spec_l01Fold_XG spec_l01Fits spec_l01Fold_l3 n
def spec_l01Fold_Lt (np : Nat) (lent : List (Bool × Nat × Blk)) : Prop := np = 1 ∧ lent = []
def spec_l01Fold_lb3 {α : Type} (F0 : Nat → Int → (Bool → Option α) → Option α) (G3 : Nat → Int → Int → Int → List Int → (Int → Int → Int → List Int → Option α) → (Int → Int → Bool → Option α) → Option α) (k : Nat) (p_ : Int) (q_ : Int) (i : Int) (list1 : List Int) (b0 : Int → Int → Int → List Int → Option α) (r0 : Int → Int → Bool → Option α) : Option α :=
  bif decide (0 ≤ i) then
    bif (decide (0 ≤ i) && decide (i < (((List.length list1) : Nat) : Int))) then
      (list1[i.toNat]?).bind fun e_1 =>
      F0 k (w64 ((w64 (e_1 * p_)) + q_)) fun v =>
      bif (!v) then
        r0 0 0 false
      else
        F0 k p_ fun v1 =>
        bif (!v1) then
          r0 0 0 false
        else
          G3 k (w64 ((w64 (e_1 * p_)) + q_)) p_ (w64 (i - 1)) list1 b0 r0
    else
      none
  else
    b0 p_ q_ i list1
theorem spec_l01Fold_l3_gen {α : Type} (F0 : Nat → Int → (Bool → Option α) → Option α) (G3 : Nat → Int → Int → Int → List Int → (Int → Int → Int → List Int → Option α) → (Int → Int → Bool → Option α) → Option α) (n : Nat) (p_ : Int) (q_ : Int) (i : Int) (list1 : List Int) (brk : Nat → List P1 → Option α) (ret : Res → Option α) : ev ((spec_l01Fold_XG F0 G3 n).env Try.prog Try.f108 1 []) (findLoop (loopsIn (Try.f108.body.getD .skip)) 3) ((spec_l01Fold_t3.build [.int p_, .int q_, .int i, .rows (.int .i64) list1]).getD ⟨[], []⟩) (roundK (1 * 64) spec_l01Fold_t3 (fun q => spec_l01Fold_uG3 G3 n q brk ret) brk ret) = spec_l01Fold_lb3 F0 G3 n p_ q_ i list1 (fun p_ q_ i list1 => brk 0 [.int p_, .int q_, .int i, .rows (.int .i64) list1]) (fun v1 v2 v3 => ret ⟨[.int .i64 v1, .int .i64 v2, .bool v3], []⟩) := by kernel_rfl
theorem spec_l01Fold_l3_ev {α : Type} (n : Nat) (p_ : Int) (q_ : Int) (i : Int) (list1 : List Int) (brk : Nat → List P1 → Option α) (ret : Res → Option α) : ev ((spec_l01Fold_X n).env Try.prog Try.f108 1 []) (findLoop (loopsIn (Try.f108.body.getD .skip)) 3) ((spec_l01Fold_t3.build [.int p_, .int q_, .int i, .rows (.int .i64) list1]).getD ⟨[], []⟩) (roundK (1 * 64) spec_l01Fold_t3 (fun q => spec_l01Fold_u3 n q brk ret) brk ret) = spec_l01Fold_u3 (n + 1) [.int p_, .int q_, .int i, .rows (.int .i64) list1] brk ret := (spec_l01Fold_l3_gen spec_l01Fits spec_l01Fold_l3 n p_ q_ i list1 brk ret).trans (by kernel_rfl)
def spec_l01Fold_body {α : Type} (F0 : Nat → Int → (Bool → Option α) → Option α) (G3 : Nat → Int → Int → Int → List Int → (Int → Int → Int → List Int → Option α) → (Int → Int → Bool → Option α) → Option α) (k : Nat) (list : List Int) (r0 : Int → Int → Bool → Option α) : Option α :=
  bif (decide (0 ≤ (w64 ((((List.length list) : Nat) : Int) - 1))) && decide ((w64 ((((List.length list) : Nat) : Int) - 1)) < (((List.length list) : Nat) : Int))) then
    (list[(w64 ((((List.length list) : Nat) : Int) - 1)).toNat]?).bind fun e_ =>
    G3 k e_ 1 (w64 ((((List.length list) : Nat) : Int) - 2)) list
      (fun p_1 q_1 i1 list2 =>
        r0 p_1 q_1 true)
      r0
  else
    none
theorem spec_l01Fold_gen {α : Type} (F0 : Nat → Int → (Bool → Option α) → Option α) (G3 : Nat → Int → Int → Int → List Int → (Int → Int → Int → List Int → Option α) → (Int → Int → Bool → Option α) → Option α) (n : Nat) (list : List Int) (κ : Res → Option α) : evFn Try.prog (spec_l01Fold_XG F0 G3 n) Try.f108 (((buildDs spec_l01Fold_sh [.rows (.int .i64) list]).map Prod.fst).getD []) κ = spec_l01Fold_body F0 G3 n list (fun v1 v2 v3 => κ ⟨[.int .i64 v1, .int .i64 v2, .bool v3], []⟩) := by kernel_rfl
theorem spec_l01Fold_ev {α : Type} (n : Nat) (list : List Int) (κ : Res → Option α) : evFn Try.prog (spec_l01Fold_X n) Try.f108 (((buildDs spec_l01Fold_sh [.rows (.int .i64) list]).map Prod.fst).getD []) κ = spec_l01Fold_run n [.rows (.int .i64) list] κ := (spec_l01Fold_gen spec_l01Fits spec_l01Fold_l3 n list κ).trans (by kernel_rfl)
theorem spec_l01Fold_en (list : List Int) : (entry 0 (((buildDs spec_l01Fold_sh [.rows (.int .i64) list]).map Prod.fst).getD [])).map (fun x => (x.1.length, x.2.lent)) = some (1, []) := by kernel_rfl
theorem spec_l01Fold_good {α : Type} : ∀ n, GoodFn (α := α) Try.prog 108 (byShape spec_l01Fold_sh (spec_l01Fold_run n)) := by
  refine fn_good' Try.func108 (c := (Try.f108.body.getD .skip)) (by kernel_rfl) (by kernel_rfl) (by kernel_rfl) spec_l01Fold_C spec_l01Fold_M eqs spec_l01Fold_lps (fun n => tabC_good (List.forall_mem_cons.2 ⟨(spec_l01Fits_good n), (fun _ h => absurd h List.not_mem_nil)⟩)) eqs_ok spec_l01Fold_Lt ?_ ?_ spec_l01Fold_sh spec_l01Fold_run ?_
  · refine List.forall_mem_cons.2 ⟨?_, (fun _ h => absurd h List.not_mem_nil)⟩
    · intro p brk ret; show spec_l01Fold_u3 0 p brk ret = none; unfold spec_l01Fold_u3 spec_l01Fold_uG3; split <;> rfl
  · refine List.forall_mem_cons.2 ⟨?_, (fun _ h => absurd h List.not_mem_nil)⟩
    · intro np lent hL n p brk ret st r hb hr
      obtain ⟨rfl, rfl⟩ := hL
      rw [← tpl_of hb]
      change spec_l01Fold_u3 (n + 1) p brk ret = some r at hr
      have hr0 := hr
      unfold spec_l01Fold_u3 spec_l01Fold_uG3 at hr
      split at hr
      · exact (spec_l01Fold_l3_ev n _ _ _ _ brk ret).trans hr0
      · cases hr
  · intro n p κ r ds hd hr
    have hr0 := hr
    unfold spec_l01Fold_run spec_l01Fold_runG at hr
    split at hr
    · rw [← ds_of hd]
      exact ⟨en_of (spec_l01Fold_en _) ⟨rfl, rfl⟩, (spec_l01Fold_ev n _ κ).trans hr0⟩
    · cases hr

/-! loop.example/g01297/spec.ConvergentsOf -/
def spec_ConvergentsOf_sh : List SkD := [.int .i64, .int .i64]
def spec_ConvergentsOf_runG {α : Type} (F : Nat → Int → Int → (Int → Option α) → ((List (Int × Int)) → Int → Option α) → Option α) (n : Nat) (p : List P1) (κ : Res → Option α) : Option α := match p with
  | [.int p_, .int q_] => F n p_ q_ (fun v1 => κ ⟨[.nilsl, .int .i64 v1], []⟩) (fun v1 v2 => κ ⟨[.sl 31 .pt v1, .int .i64 v2], []⟩)
  | _ => none
def spec_ConvergentsOf_run {α : Type} (n : Nat) (p : List P1) (κ : Res → Option α) : Option α := spec_ConvergentsOf_runG spec_ConvergentsOf n p κ
def spec_ConvergentsOf_CG {α : Type} (F0 : Nat → Int → (Bool → Option α) → Option α) (F1 : Nat → Int → Int → Int → (Bool → Option α) → Option α) (F2 : Nat → Int → Int → (List Int → Option α) → Option α) (F3 : Nat → List Int → (Int → Int → Bool → Option α) → Option α) (n : Nat) : FuncId → List D → (Res → Option α) → Option α := tabC [(87, (byShape spec_l01Fits_sh (spec_l01Fits_runG F0 n))), (59, (byShape spec_l01In_sh (spec_l01In_runG F1 n))), (107, (byShape spec_l01Expand_sh (spec_l01Expand_runG F2 n))), (108, (byShape spec_l01Fold_sh (spec_l01Fold_runG F3 n)))]
def spec_ConvergentsOf_C {α : Type} (n : Nat) : FuncId → List D → (Res → Option α) → Option α := spec_ConvergentsOf_CG spec_l01Fits spec_l01In spec_l01Expand spec_l01Fold n
def spec_ConvergentsOf_M : FuncId → List Nat := tabM []
def spec_ConvergentsOf_t5 : Tpl := ⟨[.any, .any, .any, .any, .any, .any, .sl 1408, .sl 1472, .int .i64, .any, .any, .any, .any, .any, .any, .any, .any, .any, .any, .any, .any, .any, .any, .any, .any, .any, .any, .any, .any, .any, .any, .any, .any, .any, .any, .any, .any, .any, .any, .any, .any, .any, .any, .any, .any], [(1408, .rows 2 2 (.int .i64)), (1472, .rows 2 31 .pt)], []⟩
def spec_ConvergentsOf_uG5 {α : Type} (G : Nat → Int → List Int → (List (Int × Int)) → (Int → List Int → (List (Int × Int)) → Option α) → (Int → Option α) → ((List (Int × Int)) → Int → Option α) → Option α) (n : Nat) (p : List P1) (brk : Nat → List P1 → Option α) (ret : Res → Option α) : Option α := match p with
  | [.int n_, .rows (.int .i64) list, .rows .pt out] => G n n_ list out (fun n_ list out => brk 0 [.int n_, .rows (.int .i64) list, .rows .pt out]) (fun v1 => ret ⟨[.nilsl, .int .i64 v1], []⟩) (fun v1 v2 => ret ⟨[.sl 31 .pt v1, .int .i64 v2], []⟩)
  | _ => none
def spec_ConvergentsOf_u5 {α : Type} (n : Nat) (p : List P1) (brk : Nat → List P1 → Option α) (ret : Res → Option α) : Option α := spec_ConvergentsOf_uG5 spec_ConvergentsOf_l5 n p brk ret
def spec_ConvergentsOf_lpsG {α : Type} (G5 : Nat → Int → List Int → (List (Int × Int)) → (Int → List Int → (List (Int × Int)) → Option α) → (Int → Option α) → ((List (Int × Int)) → Int → Option α) → Option α) : List (LoopT α) := [⟨5, spec_ConvergentsOf_t5, spec_ConvergentsOf_uG5 G5⟩]
def spec_ConvergentsOf_lps {α : Type} : List (LoopT α) := spec_ConvergentsOf_lpsG spec_ConvergentsOf_l5
def spec_ConvergentsOf_XG {α : Type} (F0 : Nat → Int → (Bool → Option α) → Option α) (F1 : Nat → Int → Int → Int → (Bool → Option α) → Option α) (F2 : Nat → Int → Int → (List Int → Option α) → Option α) (F3 : Nat → List Int → (Int → Int → Bool → Option α) → Option α) (G5 : Nat → Int → List Int → (List (Int × Int)) → (Int → List Int → (List (Int × Int)) → Option α) → (Int → Option α) → ((List (Int × Int)) → Int → Option α) → Option α) (n : Nat) : Ctx α := ⟨spec_ConvergentsOf_CG F0 F1 F2 F3 n, spec_ConvergentsOf_M, eqs, lpOf (spec_ConvergentsOf_lpsG G5) n⟩
def spec_ConvergentsOf_X {α : Type} (n : Nat) : Ctx α := spec_ConvergentsOf_XG spec_l01Fits spec_l01In spec_l01Expand spec_l01Fold spec_ConvergentsOf_l5 n
def spec_ConvergentsOf_Lt (np : Nat) (lent : List (Bool × Nat × Blk)) : Prop := np = 2 ∧ lent = []
def spec_ConvergentsOf_lb5 {α : Type} (F0 : Nat → Int → (Bool → Option α) → Option α) (F1 : Nat → Int → Int → Int → (Bool → Option α) → Option α) (F2 : Nat → Int → Int → (List Int → Option α) → Option α) (F3 : Nat → List Int → (Int → Int → Bool → Option α) → Option α) (G5 : Nat → Int → List Int → (List (Int × Int)) → (Int → List Int → (List (Int × Int)) → Option α) → (Int → Option α) → ((List (Int × Int)) → Int → Option α) → Option α) (k : Nat) (n_ : Int) (list : List Int) (out : List (Int × Int)) (b0 : Int → List Int → (List (Int × Int)) → Option α) (r0 : Int → Option α) (r1 : (List (Int × Int)) → Int → Option α) : Option α :=
  bif decide (n_ ≤ (((List.length list) : Nat) : Int)) then
    bif (decide (0 ≤ n_) && decide (n_ ≤ (((List.length list) : Nat) : Int))) then
      F3 k (List.take (n_.toNat - 0) (List.drop 0 list)) fun v3 v4 v5 =>
      bif decide (((List.length out) + 1) ≤ big) then
        G5 k (w64 (n_ + 1)) list (out ++ [(v3, v4)]) b0 r0 r1
      else
        none
    else
      none
  else
    b0 n_ list out
theorem spec_ConvergentsOf_l5_gen {α : Type} (F0 : Nat → Int → (Bool → Option α) → Option α) (F1 : Nat → Int → Int → Int → (Bool → Option α) → Option α) (F2 : Nat → Int → Int → (List Int → Option α) → Option α) (F3 : Nat → List Int → (Int → Int → Bool → Option α) → Option α) (G5 : Nat → Int → List Int → (List (Int × Int)) → (Int → List Int → (List (Int × Int)) → Option α) → (Int → Option α) → ((List (Int × Int)) → Int → Option α) → Option α) (n : Nat) (n_ : Int) (list : List Int) (out : List (Int × Int)) (brk : Nat → List P1 → Option α) (ret : Res → Option α) : ev ((spec_ConvergentsOf_XG F0 F1 F2 F3 G5 n).env Try.prog Try.f72 2 []) (findLoop (loopsIn (Try.f72.body.getD .skip)) 5) ((spec_ConvergentsOf_t5.build [.int n_, .rows (.int .i64) list, .rows .pt out]).getD ⟨[], []⟩) (roundK (2 * 64) spec_ConvergentsOf_t5 (fun q => spec_ConvergentsOf_uG5 G5 n q brk ret) brk ret) = spec_ConvergentsOf_lb5 F0 F1 F2 F3 G5 n n_ list out (fun n_ list out => brk 0 [.int n_, .rows (.int .i64) list, .rows .pt out]) (fun v1 => ret ⟨[.nilsl, .int .i64 v1], []⟩) (fun v1 v2 => ret ⟨[.sl 31 .pt v1, .int .i64 v2], []⟩) := by kernel_rfl
theorem spec_ConvergentsOf_l5_ev {α : Type} (n : Nat) (n_ : Int) (list : List Int) (out : List (Int × Int)) (brk : Nat → List P1 → Option α) (ret : Res → Option α) : ev ((spec_ConvergentsOf_X n).env Try.prog Try.f72 2 []) (findLoop (loopsIn (Try.f72.body.getD .skip)) 5) ((spec_ConvergentsOf_t5.build [.int n_, .rows (.int .i64) list, .rows .pt out]).getD ⟨[], []⟩) (roundK (2 * 64) spec_ConvergentsOf_t5 (fun q => spec_ConvergentsOf_u5 n q brk ret) brk ret) = spec_ConvergentsOf_u5 (n + 1) [.int n_, .rows (.int .i64) list, .rows .pt out] brk ret := (spec_ConvergentsOf_l5_gen spec_l01Fits spec_l01In spec_l01Expand spec_l01Fold spec_ConvergentsOf_l5 n n_ list out brk ret).trans (by kernel_rfl)
def spec_ConvergentsOf_body {α : Type} (F0 : Nat → Int → (Bool → Option α) → Option α) (F1 : Nat → Int → Int → Int → (Bool → Option α) → Option α) (F2 : Nat → Int → Int → (List Int → Option α) → Option α) (F3 : Nat → List Int → (Int → Int → Bool → Option α) → Option α) (G5 : Nat → Int → List Int → (List (Int × Int)) → (Int → List Int → (List (Int × Int)) → Option α) → (Int → Option α) → ((List (Int × Int)) → Int → Option α) → Option α) (k : Nat) (p_ : Int) (q_ : Int) (r0 : Int → Option α) (r1 : (List (Int × Int)) → Int → Option α) : Option α :=
  F0 k p_ fun v =>
  bif (!v) then
    r0 2
  else
    F1 k q_ 1 1000000 fun v1 =>
    bif (!v1) then
      r0 2
    else
      F2 k p_ q_ fun v2 =>
      G5 k 1 v2 []
        (fun n_1 list1 out1 =>
          r1 out1 0)
        r0 r1
theorem spec_ConvergentsOf_gen {α : Type} (F0 : Nat → Int → (Bool → Option α) → Option α) (F1 : Nat → Int → Int → Int → (Bool → Option α) → Option α) (F2 : Nat → Int → Int → (List Int → Option α) → Option α) (F3 : Nat → List Int → (Int → Int → Bool → Option α) → Option α) (G5 : Nat → Int → List Int → (List (Int × Int)) → (Int → List Int → (List (Int × Int)) → Option α) → (Int → Option α) → ((List (Int × Int)) → Int → Option α) → Option α) (n : Nat) (p_ : Int) (q_ : Int) (κ : Res → Option α) : evFn Try.prog (spec_ConvergentsOf_XG F0 F1 F2 F3 G5 n) Try.f72 (((buildDs spec_ConvergentsOf_sh [.int p_, .int q_]).map Prod.fst).getD []) κ = spec_ConvergentsOf_body F0 F1 F2 F3 G5 n p_ q_ (fun v1 => κ ⟨[.nilsl, .int .i64 v1], []⟩) (fun v1 v2 => κ ⟨[.sl 31 .pt v1, .int .i64 v2], []⟩) := by kernel_rfl
theorem spec_ConvergentsOf_ev {α : Type} (n : Nat) (p_ : Int) (q_ : Int) (κ : Res → Option α) : evFn Try.prog (spec_ConvergentsOf_X n) Try.f72 (((buildDs spec_ConvergentsOf_sh [.int p_, .int q_]).map Prod.fst).getD []) κ = spec_ConvergentsOf_run n [.int p_, .int q_] κ := (spec_ConvergentsOf_gen spec_l01Fits spec_l01In spec_l01Expand spec_l01Fold spec_ConvergentsOf_l5 n p_ q_ κ).trans (by kernel_rfl)
theorem spec_ConvergentsOf_en (p_ : Int) (q_ : Int) : (entry 0 (((buildDs spec_ConvergentsOf_sh [.int p_, .int q_]).map Prod.fst).getD [])).map (fun x => (x.1.length, x.2.lent)) = some (2, []) := by kernel_rfl
theorem spec_ConvergentsOf_good {α : Type} : ∀ n, GoodFn (α := α) Try.prog 72 (byShape spec_ConvergentsOf_sh (spec_ConvergentsOf_run n)) := by
  refine fn_good' Try.func72 (c := (Try.f72.body.getD .skip)) (by kernel_rfl) (by kernel_rfl) (by kernel_rfl) spec_ConvergentsOf_C spec_ConvergentsOf_M eqs spec_ConvergentsOf_lps (fun n => tabC_good (List.forall_mem_cons.2 ⟨(spec_l01Fits_good n), (List.forall_mem_cons.2 ⟨(spec_l01In_good n), (List.forall_mem_cons.2 ⟨(spec_l01Expand_good n), (List.forall_mem_cons.2 ⟨(spec_l01Fold_good n), (fun _ h => absurd h List.not_mem_nil)⟩)⟩)⟩)⟩)) eqs_ok spec_ConvergentsOf_Lt ?_ ?_ spec_ConvergentsOf_sh spec_ConvergentsOf_run ?_
  · refine List.forall_mem_cons.2 ⟨?_, (fun _ h => absurd h List.not_mem_nil)⟩
    · intro p brk ret; show spec_ConvergentsOf_u5 0 p brk ret = none; unfold spec_ConvergentsOf_u5 spec_ConvergentsOf_uG5; split <;> rfl
  · refine List.forall_mem_cons.2 ⟨?_, (fun _ h => absurd h List.not_mem_nil)⟩
    · intro np lent hL n p brk ret st r hb hr
      obtain ⟨rfl, rfl⟩ := hL
      rw [← tpl_of hb]
      change spec_ConvergentsOf_u5 (n + 1) p brk ret = some r at hr
      have hr0 := hr
      unfold spec_ConvergentsOf_u5 spec_ConvergentsOf_uG5 at hr
      split at hr
      · exact (spec_ConvergentsOf_l5_ev n _ _ _ brk ret).trans hr0
      · cases hr
  · intro n p κ r ds hd hr
    have hr0 := hr
    unfold spec_ConvergentsOf_run spec_ConvergentsOf_runG at hr
    split at hr
    · rw [← ds_of hd]
      exact ⟨en_of (spec_ConvergentsOf_en _ _) ⟨rfl, rfl⟩, (spec_ConvergentsOf_ev n _ _ κ).trans hr0⟩
    · cases hr

/-! loop.example/g01297/spec.IsConvergent -/
def spec_IsConvergent_sh : List SkD := [.int .i64, .int .i64, .int .i64, .int .i64]
def spec_IsConvergent_runG {α : Type} (F : Nat → Int → Int → Int → Int → (Bool → Int → Option α) → Option α) (n : Nat) (p : List P1) (κ : Res → Option α) : Option α := match p with
  | [.int p_, .int q_, .int r_, .int s] => F n p_ q_ r_ s (fun v1 v2 => κ ⟨[.bool v1, .int .i64 v2], []⟩)
  | _ => none
def spec_IsConvergent_run {α : Type} (n : Nat) (p : List P1) (κ : Res → Option α) : Option α := spec_IsConvergent_runG spec_IsConvergent n p κ
def spec_IsConvergent_CG {α : Type} (F0 : Nat → Int → Int → Int → (Bool → Option α) → Option α) (F1 : Nat → Int → Int → (Int → Option α) → ((List (Int × Int)) → Int → Option α) → Option α) (n : Nat) : FuncId → List D → (Res → Option α) → Option α := tabC [(58, (byShape spec_l10Ratio_sh (spec_l10Ratio_runG F0 n))), (72, (byShape spec_ConvergentsOf_sh (spec_ConvergentsOf_runG F1 n)))]
def spec_IsConvergent_C {α : Type} (n : Nat) : FuncId → List D → (Res → Option α) → Option α := spec_IsConvergent_CG spec_l10Ratio spec_ConvergentsOf n
def spec_IsConvergent_M : FuncId → List Nat := tabM []
def spec_IsConvergent_t5 : Tpl := ⟨[.any, .any, .int .i64, .int .i64, .any, .any, .any, .any, .any, .any, .sl 1664, .any, .int .i64, .any, .any, .any, .any, .any, .any, .any, .any, .any, .any, .any, .any, .any, .any, .any, .any, .any, .any, .any, .any, .any, .any, .any, .any, .any, .any, .any, .any, .any, .any], [(1664, .rows 2 31 .pt)], [(10, 1664, 31, .pt)]⟩
def spec_IsConvergent_uG5 {α : Type} (G : Nat → Int → Int → Int → (List (Int × Int)) → (Int → Int → Int → (List (Int × Int)) → Option α) → (Bool → Int → Option α) → Option α) (n : Nat) (p : List P1) (brk : Nat → List P1 → Option α) (ret : Res → Option α) : Option α := match p with
  | [.int r_1, .int s1, .int i, .rows .pt list] => G n r_1 s1 i list (fun r_1 s1 i list => brk 0 [.int r_1, .int s1, .int i, .rows .pt list]) (fun v1 v2 => ret ⟨[.bool v1, .int .i64 v2], []⟩)
  | _ => none
def spec_IsConvergent_u5 {α : Type} (n : Nat) (p : List P1) (brk : Nat → List P1 → Option α) (ret : Res → Option α) : Option α := spec_IsConvergent_uG5 spec_IsConvergent_l5 n p brk ret
def spec_IsConvergent_lpsG {α : Type} (G5 : Nat → Int → Int → Int → (List (Int × Int)) → (Int → Int → Int → (List (Int × Int)) → Option α) → (Bool → Int → Option α) → Option α) : List (LoopT α) := [⟨5, spec_IsConvergent_t5, spec_IsConvergent_uG5 G5⟩]
def spec_IsConvergent_lps {α : Type} : List (LoopT α) := spec_IsConvergent_lpsG spec_IsConvergent_l5
def spec_IsConvergent_XG {α : Type} (F0 : Nat → Int → Int → Int → (Bool → Option α) → Option α) (F1 : Nat → Int → Int → (Int → Option α) → ((List (Int × Int)) → Int → Option α) → Option α) (G5 : Nat → Int → Int → Int → (List (Int × Int)) → (Int → Int → Int → (List (Int × Int)) → Option α) → (Bool → Int → Option α) → Option α) (n : Nat) : Ctx α := ⟨spec_IsConvergent_CG F0 F1 n, spec_IsConvergent_M, eqs, lpOf (spec_IsConvergent_lpsG G5) n⟩
def spec_IsConvergent_X {α : Type} (n : Nat) : Ctx α := spec_IsConvergent_XG spec_l10Ratio spec_ConvergentsOf spec_IsConvergent_l5 n
def spec_IsConvergent_Lt (np : Nat) (lent : List (Bool × Nat × Blk)) : Prop := np = 4 ∧ lent = []
def spec_IsConvergent_lb5 {α : Type} (F0 : Nat → Int → Int → Int → (Bool → Option α) → Option α) (F1 : Nat → Int → Int → (Int → Option α) → ((List (Int × Int)) → Int → Option α) → Option α) (G5 : Nat → Int → Int → Int → (List (Int × Int)) → (Int → Int → Int → (List (Int × Int)) → Option α) → (Bool → Int → Option α) → Option α) (k : Nat) (r_1 : Int) (s1 : Int) (i : Int) (list : List (Int × Int)) (b0 : Int → Int → Int → (List (Int × Int)) → Option α) (r0 : Bool → Int → Option α) : Option α :=
  bif decide (i < (((List.length list) : Nat) : Int)) then
    bif (decide (0 ≤ i) && decide (i < (((List.length list) : Nat) : Int))) then
      (list[i.toNat]?).bind fun e_ =>
      bif (decide (e_.1 = r_1) && decide (e_.2 = s1)) then
        r0 true 0
      else
        G5 k r_1 s1 (w64 (i + 1)) list b0 r0
    else
      none
  else
    b0 r_1 s1 i list
theorem spec_IsConvergent_l5_gen {α : Type} (F0 : Nat → Int → Int → Int → (Bool → Option α) → Option α) (F1 : Nat → Int → Int → (Int → Option α) → ((List (Int × Int)) → Int → Option α) → Option α) (G5 : Nat → Int → Int → Int → (List (Int × Int)) → (Int → Int → Int → (List (Int × Int)) → Option α) → (Bool → Int → Option α) → Option α) (n : Nat) (r_1 : Int) (s1 : Int) (i : Int) (list : List (Int × Int)) (brk : Nat → List P1 → Option α) (ret : Res → Option α) : ev ((spec_IsConvergent_XG F0 F1 G5 n).env Try.prog Try.f34 4 []) (findLoop (loopsIn (Try.f34.body.getD .skip)) 5) ((spec_IsConvergent_t5.build [.int r_1, .int s1, .int i, .rows .pt list]).getD ⟨[], []⟩) (roundK (4 * 64) spec_IsConvergent_t5 (fun q => spec_IsConvergent_uG5 G5 n q brk ret) brk ret) = spec_IsConvergent_lb5 F0 F1 G5 n r_1 s1 i list (fun r_1 s1 i list => brk 0 [.int r_1, .int s1, .int i, .rows .pt list]) (fun v1 v2 => ret ⟨[.bool v1, .int .i64 v2], []⟩) := by kernel_rfl
theorem spec_IsConvergent_l5_ev {α : Type} (n : Nat) (r_1 : Int) (s1 : Int) (i : Int) (list : List (Int × Int)) (brk : Nat → List P1 → Option α) (ret : Res → Option α) : ev ((spec_IsConvergent_X n).env Try.prog Try.f34 4 []) (findLoop (loopsIn (Try.f34.body.getD .skip)) 5) ((spec_IsConvergent_t5.build [.int r_1, .int s1, .int i, .rows .pt list]).getD ⟨[], []⟩) (roundK (4 * 64) spec_IsConvergent_t5 (fun q => spec_IsConvergent_u5 n q brk ret) brk ret) = spec_IsConvergent_u5 (n + 1) [.int r_1, .int s1, .int i, .rows .pt list] brk ret := (spec_IsConvergent_l5_gen spec_l10Ratio spec_ConvergentsOf spec_IsConvergent_l5 n r_1 s1 i list brk ret).trans (by kernel_rfl)
def spec_IsConvergent_body {α : Type} (F0 : Nat → Int → Int → Int → (Bool → Option α) → Option α) (F1 : Nat → Int → Int → (Int → Option α) → ((List (Int × Int)) → Int → Option α) → Option α) (G5 : Nat → Int → Int → Int → (List (Int × Int)) → (Int → Int → Int → (List (Int × Int)) → Option α) → (Bool → Int → Option α) → Option α) (k : Nat) (p_ : Int) (q_ : Int) (r_ : Int) (s : Int) (r0 : Bool → Int → Option α) : Option α :=
  F0 k p_ q_ 1 fun v =>
  bif (!v) then
    r0 false 2
  else
    F0 k r_ s 1 fun v1 =>
    bif (!v1) then
      r0 false 2
    else
      F1 k p_ q_
        (fun v2 =>
          G5 k r_ s 0 []
            (fun r_2 s2 i1 list1 =>
              r0 false 0)
            r0)
        (fun v3 v4 =>
          G5 k r_ s 0 v3
            (fun r_3 s3 i2 list2 =>
              r0 false 0)
            r0)
theorem spec_IsConvergent_gen {α : Type} (F0 : Nat → Int → Int → Int → (Bool → Option α) → Option α) (F1 : Nat → Int → Int → (Int → Option α) → ((List (Int × Int)) → Int → Option α) → Option α) (G5 : Nat → Int → Int → Int → (List (Int × Int)) → (Int → Int → Int → (List (Int × Int)) → Option α) → (Bool → Int → Option α) → Option α) (n : Nat) (p_ : Int) (q_ : Int) (r_ : Int) (s : Int) (κ : Res → Option α) : evFn Try.prog (spec_IsConvergent_XG F0 F1 G5 n) Try.f34 (((buildDs spec_IsConvergent_sh [.int p_, .int q_, .int r_, .int s]).map Prod.fst).getD []) κ = spec_IsConvergent_body F0 F1 G5 n p_ q_ r_ s (fun v1 v2 => κ ⟨[.bool v1, .int .i64 v2], []⟩) := by kernel_rfl
theorem spec_IsConvergent_ev {α : Type} (n : Nat) (p_ : Int) (q_ : Int) (r_ : Int) (s : Int) (κ : Res → Option α) : evFn Try.prog (spec_IsConvergent_X n) Try.f34 (((buildDs spec_IsConvergent_sh [.int p_, .int q_, .int r_, .int s]).map Prod.fst).getD []) κ = spec_IsConvergent_run n [.int p_, .int q_, .int r_, .int s] κ := (spec_IsConvergent_gen spec_l10Ratio spec_ConvergentsOf spec_IsConvergent_l5 n p_ q_ r_ s κ).trans (by kernel_rfl)
theorem spec_IsConvergent_en (p_ : Int) (q_ : Int) (r_ : Int) (s : Int) : (entry 0 (((buildDs spec_IsConvergent_sh [.int p_, .int q_, .int r_, .int s]).map Prod.fst).getD [])).map (fun x => (x.1.length, x.2.lent)) = some (4, []) := by kernel_rfl
theorem spec_IsConvergent_good {α : Type} : ∀ n, GoodFn (α := α) Try.prog 34 (byShape spec_IsConvergent_sh (spec_IsConvergent_run n)) := by
  refine fn_good' Try.func34 (c := (Try.f34.body.getD .skip)) (by kernel_rfl) (by kernel_rfl) (by kernel_rfl) spec_IsConvergent_C spec_IsConvergent_M eqs spec_IsConvergent_lps (fun n => tabC_good (List.forall_mem_cons.2 ⟨(spec_l10Ratio_good n), (List.forall_mem_cons.2 ⟨(spec_ConvergentsOf_good n), (fun _ h => absurd h List.not_mem_nil)⟩)⟩)) eqs_ok spec_IsConvergent_Lt ?_ ?_ spec_IsConvergent_sh spec_IsConvergent_run ?_
  · refine List.forall_mem_cons.2 ⟨?_, (fun _ h => absurd h List.not_mem_nil)⟩
    · intro p brk ret; show spec_IsConvergent_u5 0 p brk ret = none; unfold spec_IsConvergent_u5 spec_IsConvergent_uG5; split <;> rfl
  · refine List.forall_mem_cons.2 ⟨?_, (fun _ h => absurd h List.not_mem_nil)⟩
    · intro np lent hL n p brk ret st r hb hr
      obtain ⟨rfl, rfl⟩ := hL
      rw [← tpl_of hb]
      change spec_IsConvergent_u5 (n + 1) p brk ret = some r at hr
      have hr0 := hr
      unfold spec_IsConvergent_u5 spec_IsConvergent_uG5 at hr
      split at hr
      · exact (spec_IsConvergent_l5_ev n _ _ _ _ brk ret).trans hr0
      · cases hr
  · intro n p κ r ds hd hr
    have hr0 := hr
    unfold spec_IsConvergent_run spec_IsConvergent_runG at hr
    split at hr
    · rw [← ds_of hd]
      exact ⟨en_of (spec_IsConvergent_en _ _ _ _) ⟨rfl, rfl⟩, (spec_IsConvergent_ev n _ _ _ _ κ).trans hr0⟩
    · cases hr

/-! loop.example/g01297/impl.in -/
def impl_in_sh : List SkD := [.int .i64, .int .i64, .int .i64]
def impl_in_runG {α : Type} (F : Nat → Int → Int → Int → (Bool → Option α) → Option α) (n : Nat) (p : List P1) (κ : Res → Option α) : Option α := match p with
  | [.int n_, .int low, .int high] => F n n_ low high (fun v1 => κ ⟨[.bool v1], []⟩)
  | _ => none
def impl_in_run {α : Type} (n : Nat) (p : List P1) (κ : Res → Option α) : Option α := impl_in_runG impl_in n p κ
def impl_in_CG {α : Type}  (n : Nat) : FuncId → List D → (Res → Option α) → Option α := tabC []
def impl_in_C {α : Type} (n : Nat) : FuncId → List D → (Res → Option α) → Option α := impl_in_CG n
def impl_in_M : FuncId → List Nat := tabM []
def impl_in_lpsG {α : Type}  : List (LoopT α) := []
def impl_in_lps {α : Type} : List (LoopT α) := impl_in_lpsG
def impl_in_XG {α : Type}   (n : Nat) : Ctx α := ⟨impl_in_CG n, impl_in_M, eqs, lpOf (impl_in_lpsG) n⟩
def impl_in_X {α : Type} (n : Nat) : Ctx α := impl_in_XG n
def impl_in_Lt (np : Nat) (lent : List (Bool × Nat × Blk)) : Prop := np = 3 ∧ lent = []
def impl_in_body {α : Type}   (k : Nat) (n_ : Int) (low : Int) (high : Int) (r0 : Bool → Option α) : Option α :=
  bif decide (low ≤ n_) then
    r0 (decide (n_ ≤ high))
  else
    r0 false
theorem impl_in_gen {α : Type}   (n : Nat) (n_ : Int) (low : Int) (high : Int) (κ : Res → Option α) : evFn Try.prog (impl_in_XG n) Try.f92 (((buildDs impl_in_sh [.int n_, .int low, .int high]).map Prod.fst).getD []) κ = impl_in_body n n_ low high (fun v1 => κ ⟨[.bool v1], []⟩) := by kernel_rfl
theorem impl_in_ev {α : Type} (n : Nat) (n_ : Int) (low : Int) (high : Int) (κ : Res → Option α) : evFn Try.prog (impl_in_X n) Try.f92 (((buildDs impl_in_sh [.int n_, .int low, .int high]).map Prod.fst).getD []) κ = impl_in_run n [.int n_, .int low, .int high] κ := (impl_in_gen n n_ low high κ).trans (by kernel_rfl)
theorem impl_in_en (n_ : Int) (low : Int) (high : Int) : (entry 0 (((buildDs impl_in_sh [.int n_, .int low, .int high]).map Prod.fst).getD [])).map (fun x => (x.1.length, x.2.lent)) = some (3, []) := by kernel_rfl
theorem impl_in_good {α : Type} : ∀ n, GoodFn (α := α) Try.prog 92 (byShape impl_in_sh (impl_in_run n)) := by
  refine fn_good' Try.func92 (c := (Try.f92.body.getD .skip)) (by kernel_rfl) (by kernel_rfl) (by kernel_rfl) impl_in_C impl_in_M eqs impl_in_lps (fun n => tabC_good (fun _ h => absurd h List.not_mem_nil)) eqs_ok impl_in_Lt ?_ ?_ impl_in_sh impl_in_run ?_
  · exact (fun _ h => absurd h List.not_mem_nil)
  · exact (fun _ h => absurd h List.not_mem_nil)
  · intro n p κ r ds hd hr
    have hr0 := hr
    unfold impl_in_run impl_in_runG at hr
    split at hr
    · rw [← ds_of hd]
      exact ⟨en_of (impl_in_en _ _ _) ⟨rfl, rfl⟩, (impl_in_ev n _ _ _ κ).trans hr0⟩
    · cases hr

/-! loop.example/g01297/impl.isCoord -/
def impl_isCoord_sh : List SkD := [.int .i64]
def impl_isCoord_runG {α : Type} (F : Nat → Int → (Bool → Option α) → Option α) (n : Nat) (p : List P1) (κ : Res → Option α) : Option α := match p with
  | [.int n_] => F n n_ (fun v1 => κ ⟨[.bool v1], []⟩)
  | _ => none
def impl_isCoord_run {α : Type} (n : Nat) (p : List P1) (κ : Res → Option α) : Option α := impl_isCoord_runG impl_isCoord n p κ
def impl_isCoord_CG {α : Type} (F0 : Nat → Int → Int → Int → (Bool → Option α) → Option α) (n : Nat) : FuncId → List D → (Res → Option α) → Option α := tabC [(92, (byShape impl_in_sh (impl_in_runG F0 n)))]
def impl_isCoord_C {α : Type} (n : Nat) : FuncId → List D → (Res → Option α) → Option α := impl_isCoord_CG impl_in n
def impl_isCoord_M : FuncId → List Nat := tabM []
def impl_isCoord_lpsG {α : Type}  : List (LoopT α) := []
def impl_isCoord_lps {α : Type} : List (LoopT α) := impl_isCoord_lpsG
def impl_isCoord_XG {α : Type} (F0 : Nat → Int → Int → Int → (Bool → Option α) → Option α)  (n : Nat) : Ctx α := ⟨impl_isCoord_CG F0 n, impl_isCoord_M, eqs, lpOf (impl_isCoord_lpsG) n⟩
def impl_isCoord_X {α : Type} (n : Nat) : Ctx α := impl_isCoord_XG impl_in n
def impl_isCoord_Lt (np : Nat) (lent : List (Bool × Nat × Blk)) : Prop := np = 1 ∧ lent = []
def impl_isCoord_body {α : Type} (F0 : Nat → Int → Int → Int → (Bool → Option α) → Option α)  (k : Nat) (n_ : Int) (r0 : Bool → Option α) : Option α :=
  F0 k n_ (-1000000) 1000000 fun v =>
  r0 v
theorem impl_isCoord_gen {α : Type} (F0 : Nat → Int → Int → Int → (Bool → Option α) → Option α)  (n : Nat) (n_ : Int) (κ : Res → Option α) : evFn Try.prog (impl_isCoord_XG F0 n) Try.f88 (((buildDs impl_isCoord_sh [.int n_]).map Prod.fst).getD []) κ = impl_isCoord_body F0 n n_ (fun v1 => κ ⟨[.bool v1], []⟩) := by kernel_rfl
theorem impl_isCoord_ev {α : Type} (n : Nat) (n_ : Int) (κ : Res → Option α) : evFn Try.prog (impl_isCoord_X n) Try.f88 (((buildDs impl_isCoord_sh [.int n_]).map Prod.fst).getD []) κ = impl_isCoord_run n [.int n_] κ := (impl_isCoord_gen impl_in n n_ κ).trans (by kernel_rfl)
theorem impl_isCoord_en (n_ : Int) : (entry 0 (((buildDs impl_isCoord_sh [.int n_]).map Prod.fst).getD [])).map (fun x => (x.1.length, x.2.lent)) = some (1, []) := by kernel_rfl
theorem impl_isCoord_good {α : Type} : ∀ n, GoodFn (α := α) Try.prog 88 (byShape impl_isCoord_sh (impl_isCoord_run n)) := by
  refine fn_good' Try.func88 (c := (Try.f88.body.getD .skip)) (by kernel_rfl) (by kernel_rfl) (by kernel_rfl) impl_isCoord_C impl_isCoord_M eqs impl_isCoord_lps (fun n => tabC_good (List.forall_mem_cons.2 ⟨(impl_in_good n), (fun _ h => absurd h List.not_mem_nil)⟩)) eqs_ok impl_isCoord_Lt ?_ ?_ impl_isCoord_sh impl_isCoord_run ?_
  · exact (fun _ h => absurd h List.not_mem_nil)
  · exact (fun _ h => absurd h List.not_mem_nil)
  · intro n p κ r ds hd hr
    have hr0 := hr
    unfold impl_isCoord_run impl_isCoord_runG at hr
    split at hr
    · rw [← ds_of hd]
      exact ⟨en_of (impl_isCoord_en _) ⟨rfl, rfl⟩, (impl_isCoord_ev n _ κ).trans hr0⟩
    · cases hr

/-! loop.example/g01297/impl.ratioOk -/
def impl_ratioOk_sh : List SkD := [.int .i64, .int .i64]
def impl_ratioOk_runG {α : Type} (F : Nat → Int → Int → (Bool → Option α) → Option α) (n : Nat) (p : List P1) (κ : Res → Option α) : Option α := match p with
  | [.int p_, .int q_] => F n p_ q_ (fun v1 => κ ⟨[.bool v1], []⟩)
  | _ => none
def impl_ratioOk_run {α : Type} (n : Nat) (p : List P1) (κ : Res → Option α) : Option α := impl_ratioOk_runG impl_ratioOk n p κ
def impl_ratioOk_CG {α : Type} (F0 : Nat → Int → (Bool → Option α) → Option α) (F1 : Nat → Int → Int → Int → (Bool → Option α) → Option α) (n : Nat) : FuncId → List D → (Res → Option α) → Option α := tabC [(88, (byShape impl_isCoord_sh (impl_isCoord_runG F0 n))), (92, (byShape impl_in_sh (impl_in_runG F1 n)))]
def impl_ratioOk_C {α : Type} (n : Nat) : FuncId → List D → (Res → Option α) → Option α := impl_ratioOk_CG impl_isCoord impl_in n
def impl_ratioOk_M : FuncId → List Nat := tabM []
def impl_ratioOk_lpsG {α : Type}  : List (LoopT α) := []
def impl_ratioOk_lps {α : Type} : List (LoopT α) := impl_ratioOk_lpsG
def impl_ratioOk_XG {α : Type} (F0 : Nat → Int → (Bool → Option α) → Option α) (F1 : Nat → Int → Int → Int → (Bool → Option α) → Option α)  (n : Nat) : Ctx α := ⟨impl_ratioOk_CG F0 F1 n, impl_ratioOk_M, eqs, lpOf (impl_ratioOk_lpsG) n⟩
def impl_ratioOk_X {α : Type} (n : Nat) : Ctx α := impl_ratioOk_XG impl_isCoord impl_in n
def impl_ratioOk_Lt (np : Nat) (lent : List (Bool × Nat × Blk)) : Prop := np = 2 ∧ lent = []
def impl_ratioOk_body {α : Type} (F0 : Nat → Int → (Bool → Option α) → Option α) (F1 : Nat → Int → Int → Int → (Bool → Option α) → Option α)  (k : Nat) (p_ : Int) (q_ : Int) (r0 : Bool → Option α) : Option α :=
  F0 k p_ fun v =>
  bif v then
    F1 k q_ 1 1000000 fun v1 =>
    r0 v1
  else
    r0 false
theorem impl_ratioOk_gen {α : Type} (F0 : Nat → Int → (Bool → Option α) → Option α) (F1 : Nat → Int → Int → Int → (Bool → Option α) → Option α)  (n : Nat) (p_ : Int) (q_ : Int) (κ : Res → Option α) : evFn Try.prog (impl_ratioOk_XG F0 F1 n) Try.f62 (((buildDs impl_ratioOk_sh [.int p_, .int q_]).map Prod.fst).getD []) κ = impl_ratioOk_body F0 F1 n p_ q_ (fun v1 => κ ⟨[.bool v1], []⟩) := by kernel_rfl
theorem impl_ratioOk_ev {α : Type} (n : Nat) (p_ : Int) (q_ : Int) (κ : Res → Option α) : evFn Try.prog (impl_ratioOk_X n) Try.f62 (((buildDs impl_ratioOk_sh [.int p_, .int q_]).map Prod.fst).getD []) κ = impl_ratioOk_run n [.int p_, .int q_] κ := (impl_ratioOk_gen impl_isCoord impl_in n p_ q_ κ).trans (by kernel_rfl)
theorem impl_ratioOk_en (p_ : Int) (q_ : Int) : (entry 0 (((buildDs impl_ratioOk_sh [.int p_, .int q_]).map Prod.fst).getD [])).map (fun x => (x.1.length, x.2.lent)) = some (2, []) := by kernel_rfl
theorem impl_ratioOk_good {α : Type} : ∀ n, GoodFn (α := α) Try.prog 62 (byShape impl_ratioOk_sh (impl_ratioOk_run n)) := by
  refine fn_good' Try.func62 (c := (Try.f62.body.getD .skip)) (by kernel_rfl) (by kernel_rfl) (by kernel_rfl) impl_ratioOk_C impl_ratioOk_M eqs impl_ratioOk_lps (fun n => tabC_good (List.forall_mem_cons.2 ⟨(impl_isCoord_good n), (List.forall_mem_cons.2 ⟨(impl_in_good n), (fun _ h => absurd h List.not_mem_nil)⟩)⟩)) eqs_ok impl_ratioOk_Lt ?_ ?_ impl_ratioOk_sh impl_ratioOk_run ?_
  · exact (fun _ h => absurd h List.not_mem_nil)
  · exact (fun _ h => absurd h List.not_mem_nil)
  · intro n p κ r ds hd hr
    have hr0 := hr
    unfold impl_ratioOk_run impl_ratioOk_runG at hr
    split at hr
    · rw [← ds_of hd]
      exact ⟨en_of (impl_ratioOk_en _ _) ⟨rfl, rfl⟩, (impl_ratioOk_ev n _ _ κ).trans hr0⟩
    · cases hr

/-! loop.example/g01297/impl.floor -/
def impl_floor_sh : List SkD := [.int .i64, .int .i64]
def impl_floor_runG {α : Type} (F : Nat → Int → Int → (Int → Option α) → Option α) (n : Nat) (p : List P1) (κ : Res → Option α) : Option α := match p with
  | [.int a, .int b_] => F n a b_ (fun v1 => κ ⟨[.int .i64 v1], []⟩)
  | _ => none
def impl_floor_run {α : Type} (n : Nat) (p : List P1) (κ : Res → Option α) : Option α := impl_floor_runG impl_floor n p κ
def impl_floor_CG {α : Type}  (n : Nat) : FuncId → List D → (Res → Option α) → Option α := tabC []
def impl_floor_C {α : Type} (n : Nat) : FuncId → List D → (Res → Option α) → Option α := impl_floor_CG n
def impl_floor_M : FuncId → List Nat := tabM []
def impl_floor_lpsG {α : Type}  : List (LoopT α) := []
def impl_floor_lps {α : Type} : List (LoopT α) := impl_floor_lpsG
def impl_floor_XG {α : Type}   (n : Nat) : Ctx α := ⟨impl_floor_CG n, impl_floor_M, eqs, lpOf (impl_floor_lpsG) n⟩
def impl_floor_X {α : Type} (n : Nat) : Ctx α := impl_floor_XG n
def impl_floor_Lt (np : Nat) (lent : List (Bool × Nat × Blk)) : Prop := np = 2 ∧ lent = []
def impl_floor_body {α : Type}   (k : Nat) (a : Int) (b_ : Int) (r0 : Int → Option α) : Option α :=
  bif decide (b_ = 0) then
    none
  else
  bif decide (b_ = 0) then
    none
  else
  bif (!decide ((Int.tmod a b_) = 0)) then
    bif (!(decide (a < 0) == decide (b_ < 0))) then
      r0 (w64 ((w64 (Int.tdiv a b_)) - 1))
    else
      r0 (w64 (Int.tdiv a b_))
  else
    r0 (w64 (Int.tdiv a b_))
theorem impl_floor_gen {α : Type}   (n : Nat) (a : Int) (b_ : Int) (κ : Res → Option α) : evFn Try.prog (impl_floor_XG n) Try.f112 (((buildDs impl_floor_sh [.int a, .int b_]).map Prod.fst).getD []) κ = impl_floor_body n a b_ (fun v1 => κ ⟨[.int .i64 v1], []⟩) := by kernel_rfl
theorem impl_floor_ev {α : Type} (n : Nat) (a : Int) (b_ : Int) (κ : Res → Option α) : evFn Try.prog (impl_floor_X n) Try.f112 (((buildDs impl_floor_sh [.int a, .int b_]).map Prod.fst).getD []) κ = impl_floor_run n [.int a, .int b_] κ := (impl_floor_gen n a b_ κ).trans (by kernel_rfl)
theorem impl_floor_en (a : Int) (b_ : Int) : (entry 0 (((buildDs impl_floor_sh [.int a, .int b_]).map Prod.fst).getD [])).map (fun x => (x.1.length, x.2.lent)) = some (2, []) := by kernel_rfl
theorem impl_floor_good {α : Type} : ∀ n, GoodFn (α := α) Try.prog 112 (byShape impl_floor_sh (impl_floor_run n)) := by
  refine fn_good' Try.func112 (c := (Try.f112.body.getD .skip)) (by kernel_rfl) (by kernel_rfl) (by kernel_rfl) impl_floor_C impl_floor_M eqs impl_floor_lps (fun n => tabC_good (fun _ h => absurd h List.not_mem_nil)) eqs_ok impl_floor_Lt ?_ ?_ impl_floor_sh impl_floor_run ?_
  · exact (fun _ h => absurd h List.not_mem_nil)
  · exact (fun _ h => absurd h List.not_mem_nil)
  · intro n p κ r ds hd hr
    have hr0 := hr
    unfold impl_floor_run impl_floor_runG at hr
    split at hr
    · rw [← ds_of hd]
      exact ⟨en_of (impl_floor_en _ _) ⟨rfl, rfl⟩, (impl_floor_ev n _ _ κ).trans hr0⟩
    · cases hr

/-! loop.example/g01297/impl.expand -/
def impl_expand_sh : List SkD := [.int .i64, .int .i64]
def impl_expand_runG {α : Type} (F : Nat → Int → Int → (List Int → Option α) → Option α) (n : Nat) (p : List P1) (κ : Res → Option α) : Option α := match p with
  | [.int p_, .int q_] => F n p_ q_ (fun v1 => κ ⟨[.sl 2 (.int .i64) v1], []⟩)
  | _ => none
def impl_expand_run {α : Type} (n : Nat) (p : List P1) (κ : Res → Option α) : Option α := impl_expand_runG impl_expand n p κ
def impl_expand_CG {α : Type} (F0 : Nat → Int → Int → (Int → Option α) → Option α) (n : Nat) : FuncId → List D → (Res → Option α) → Option α := tabC [(112, (byShape impl_floor_sh (impl_floor_runG F0 n)))]
def impl_expand_C {α : Type} (n : Nat) : FuncId → List D → (Res → Option α) → Option α := impl_expand_CG impl_floor n
def impl_expand_M : FuncId → List Nat := tabM []
def impl_expand_t2 : Tpl := ⟨[.int .i64, .int .i64, .any, .any, .any, .sl 448, .any, .any, .any, .any, .any, .any, .any, .any, .any, .any, .any, .any, .any, .any, .any, .any, .any, .any], [(448, .rows 2 2 (.int .i64))], []⟩
def impl_expand_uG2 {α : Type} (G : Nat → Int → Int → List Int → (Int → Int → List Int → Option α) → (List Int → Option α) → Option α) (n : Nat) (p : List P1) (brk : Nat → List P1 → Option α) (ret : Res → Option α) : Option α := match p with
  | [.int p_1, .int q_1, .rows (.int .i64) out] => G n p_1 q_1 out (fun p_1 q_1 out => brk 0 [.int p_1, .int q_1, .rows (.int .i64) out]) (fun v1 => ret ⟨[.sl 2 (.int .i64) v1], []⟩)
  | _ => none
def impl_expand_u2 {α : Type} (n : Nat) (p : List P1) (brk : Nat → List P1 → Option α) (ret : Res → Option α) : Option α := impl_expand_uG2 impl_expand_l2 n p brk ret
def impl_expand_lpsG {α : Type} (G2 : Nat → Int → Int → List Int → (Int → Int → List Int → Option α) → (List Int → Option α) → Option α) : List (LoopT α) := [⟨2, impl_expand_t2, impl_expand_uG2 G2⟩]
def impl_expand_lps {α : Type} : List (LoopT α) := impl_expand_lpsG impl_expand_l2
def impl_expand_XG {α : Type} (F0 : Nat → Int → Int → (Int → Option α) → Option α) (G2 : Nat → Int → Int → List Int → (Int → Int → List Int → Option α) → (List Int → Option α) → Option α) (n : Nat) : Ctx α := ⟨impl_expand_CG F0 n, impl_expand_M, eqs, lpOf (impl_expand_lpsG G2) n⟩
def impl_expand_X {α : Type} (n : Nat) : Ctx α := impl_expand_XG impl_floor impl_expand_l2 n
def impl_expand_Lt (np : Nat) (lent : List (Bool × Nat × Blk)) : Prop := np = 2 ∧ lent = []
def impl_expand_lb2 {α : Type} (F0 : Nat → Int → Int → (Int → Option α) → Option α) (G2 : Nat → Int → Int → List Int → (Int → Int → List Int → Option α) → (List Int → Option α) → Option α) (k : Nat) (p_1 : Int) (q_1 : Int) (out : List Int) (b0 : Int → Int → List Int → Option α) (r0 : List Int → Option α) : Option α :=
  bif (!decide (q_1 = 0)) then
    F0 k p_1 q_1 fun v =>
    bif decide (((List.length out) + 1) ≤ big) then
      G2 k q_1 (w64 (p_1 - (w64 (v * q_1)))) (out ++ [v]) b0 r0
    else
      none
  else
    b0 p_1 q_1 out
theorem impl_expand_l2_gen {α : Type} (F0 : Nat → Int → Int → (Int → Option α) → Option α) (G2 : Nat → Int → Int → List Int → (Int → Int → List Int → Option α) → (List Int → Option α) → Option α) (n : Nat) (p_1 : Int) (q_1 : Int) (out : List Int) (brk : Nat → List P1 → Option α) (ret : Res → Option α) : ev ((impl_expand_XG F0 G2 n).env Try.prog Try.f110 2 []) (findLoop (loopsIn (Try.f110.body.getD .skip)) 2) ((impl_expand_t2.build [.int p_1, .int q_1, .rows (.int .i64) out]).getD ⟨[], []⟩) (roundK (2 * 64) impl_expand_t2 (fun q => impl_expand_uG2 G2 n q brk ret) brk ret) = impl_expand_lb2 F0 G2 n p_1 q_1 out (fun p_1 q_1 out => brk 0 [.int p_1, .int q_1, .rows (.int .i64) out]) (fun v1 => ret ⟨[.sl 2 (.int .i64) v1], []⟩) := by kernel_rfl
theorem impl_expand_l2_ev {α : Type} (n : Nat) (p_1 : Int) (q_1 : Int) (out : List Int) (brk : Nat → List P1 → Option α) (ret : Res → Option α) : ev ((impl_expand_X n).env Try.prog Try.f110 2 []) (findLoop (loopsIn (Try.f110.body.getD .skip)) 2) ((impl_expand_t2.build [.int p_1, .int q_1, .rows (.int .i64) out]).getD ⟨[], []⟩) (roundK (2 * 64) impl_expand_t2 (fun q => impl_expand_u2 n q brk ret) brk ret) = impl_expand_u2 (n + 1) [.int p_1, .int q_1, .rows (.int .i64) out] brk ret := (impl_expand_l2_gen impl_floor impl_expand_l2 n p_1 q_1 out brk ret).trans (by kernel_rfl)
def impl_expand_body {α : Type} (F0 : Nat → Int → Int → (Int → Option α) → Option α) (G2 : Nat → Int → Int → List Int → (Int → Int → List Int → Option α) → (List Int → Option α) → Option α) (k : Nat) (p_ : Int) (q_ : Int) (r0 : List Int → Option α) : Option α :=
  G2 k p_ q_ []
    (fun p_2 q_2 out1 =>
      r0 out1)
    r0
theorem impl_expand_gen {α : Type} (F0 : Nat → Int → Int → (Int → Option α) → Option α) (G2 : Nat → Int → Int → List Int → (Int → Int → List Int → Option α) → (List Int → Option α) → Option α) (n : Nat) (p_ : Int) (q_ : Int) (κ : Res → Option α) : evFn Try.prog (impl_expand_XG F0 G2 n) Try.f110 (((buildDs impl_expand_sh [.int p_, .int q_]).map Prod.fst).getD []) κ = impl_expand_body F0 G2 n p_ q_ (fun v1 => κ ⟨[.sl 2 (.int .i64) v1], []⟩) := by kernel_rfl
theorem impl_expand_ev {α : Type} (n : Nat) (p_ : Int) (q_ : Int) (κ : Res → Option α) : evFn Try.prog (impl_expand_X n) Try.f110 (((buildDs impl_expand_sh [.int p_, .int q_]).map Prod.fst).getD []) κ = impl_expand_run n [.int p_, .int q_] κ := (impl_expand_gen impl_floor impl_expand_l2 n p_ q_ κ).trans (by kernel_rfl)
theorem impl_expand_en (p_ : Int) (q_ : Int) : (entry 0 (((buildDs impl_expand_sh [.int p_, .int q_]).map Prod.fst).getD [])).map (fun x => (x.1.length, x.2.lent)) = some (2, []) := by kernel_rfl
theorem impl_expand_good {α : Type} : ∀ n, GoodFn (α := α) Try.prog 110 (byShape impl_expand_sh (impl_expand_run n)) := by
  refine fn_good' Try.func110 (c := (Try.f110.body.getD .skip)) (by kernel_rfl) (by kernel_rfl) (by kernel_rfl) impl_expand_C impl_expand_M eqs impl_expand_lps (fun n => tabC_good (List.forall_mem_cons.2 ⟨(impl_floor_good n), (fun _ h => absurd h List.not_mem_nil)⟩)) eqs_ok impl_expand_Lt ?_ ?_ impl_expand_sh impl_expand_run ?_
  · refine List.forall_mem_cons.2 ⟨?_, (fun _ h => absurd h List.not_mem_nil)⟩
    · intro p brk ret; show impl_expand_u2 0 p brk ret = none; unfold impl_expand_u2 impl_expand_uG2; split <;> rfl
  · refine List.forall_mem_cons.2 ⟨?_, (fun _ h => absurd h List.not_mem_nil)⟩
    · intro np lent hL n p brk ret st r hb hr
      obtain ⟨rfl, rfl⟩ := hL
      rw [← tpl_of hb]
      change impl_expand_u2 (n + 1) p brk ret = some r at hr
      have hr0 := hr
      unfold impl_expand_u2 impl_expand_uG2 at hr
      split at hr
      · exact (impl_expand_l2_ev n _ _ _ brk ret).trans hr0
      · cases hr
  · intro n p κ r ds hd hr
    have hr0 := hr
    unfold impl_expand_run impl_expand_runG at hr
    split at hr
    · rw [← ds_of hd]
      exact ⟨en_of (impl_expand_en _ _) ⟨rfl, rfl⟩, (impl_expand_ev n _ _ κ).trans hr0⟩
    · cases hr

/-! (loop.example/g01297/impl.Point).plus -/
def impl_Point_plus_sh : List SkD := [.agg [.int .i64, .int .i64], .agg [.int .i64, .int .i64], .int .i64]
def impl_Point_plus_runG {α : Type} (F : Nat → Int → Int → Int → Int → Int → (Int → Int → Option α) → Option α) (n : Nat) (p : List P1) (κ : Res → Option α) : Option α := match p with
  | [.int a, .int a1, .int b_, .int b_1, .int k_] => F n a a1 b_ b_1 k_ (fun v1 v2 => κ ⟨[.agg [.int .i64 v1, .int .i64 v2]], []⟩)
  | _ => none
def impl_Point_plus_run {α : Type} (n : Nat) (p : List P1) (κ : Res → Option α) : Option α := impl_Point_plus_runG impl_Point_plus n p κ
def impl_Point_plus_CG {α : Type}  (n : Nat) : FuncId → List D → (Res → Option α) → Option α := tabC []
def impl_Point_plus_C {α : Type} (n : Nat) : FuncId → List D → (Res → Option α) → Option α := impl_Point_plus_CG n
def impl_Point_plus_M : FuncId → List Nat := tabM []
def impl_Point_plus_lpsG {α : Type}  : List (LoopT α) := []
def impl_Point_plus_lps {α : Type} : List (LoopT α) := impl_Point_plus_lpsG
def impl_Point_plus_XG {α : Type}   (n : Nat) : Ctx α := ⟨impl_Point_plus_CG n, impl_Point_plus_M, eqs, lpOf (impl_Point_plus_lpsG) n⟩
def impl_Point_plus_X {α : Type} (n : Nat) : Ctx α := impl_Point_plus_XG n
def impl_Point_plus_Lt (np : Nat) (lent : List (Bool × Nat × Blk)) : Prop := np = 3 ∧ lent = []
def impl_Point_plus_body {α : Type}   (k : Nat) (a : Int) (a1 : Int) (b_ : Int) (b_1 : Int) (k_ : Int) (r0 : Int → Int → Option α) : Option α :=
  r0 (w64 (a + (w64 (k_ * b_)))) (w64 (a1 + (w64 (k_ * b_1))))
theorem impl_Point_plus_gen {α : Type}   (n : Nat) (a : Int) (a1 : Int) (b_ : Int) (b_1 : Int) (k_ : Int) (κ : Res → Option α) : evFn Try.prog (impl_Point_plus_XG n) Try.f111 (((buildDs impl_Point_plus_sh [.int a, .int a1, .int b_, .int b_1, .int k_]).map Prod.fst).getD []) κ = impl_Point_plus_body n a a1 b_ b_1 k_ (fun v1 v2 => κ ⟨[.agg [.int .i64 v1, .int .i64 v2]], []⟩) := by kernel_rfl
theorem impl_Point_plus_ev {α : Type} (n : Nat) (a : Int) (a1 : Int) (b_ : Int) (b_1 : Int) (k_ : Int) (κ : Res → Option α) : evFn Try.prog (impl_Point_plus_X n) Try.f111 (((buildDs impl_Point_plus_sh [.int a, .int a1, .int b_, .int b_1, .int k_]).map Prod.fst).getD []) κ = impl_Point_plus_run n [.int a, .int a1, .int b_, .int b_1, .int k_] κ := (impl_Point_plus_gen n a a1 b_ b_1 k_ κ).trans (by kernel_rfl)
theorem impl_Point_plus_en (a : Int) (a1 : Int) (b_ : Int) (b_1 : Int) (k_ : Int) : (entry 0 (((buildDs impl_Point_plus_sh [.int a, .int a1, .int b_, .int b_1, .int k_]).map Prod.fst).getD [])).map (fun x => (x.1.length, x.2.lent)) = some (3, []) := by kernel_rfl
theorem impl_Point_plus_good {α : Type} : ∀ n, GoodFn (α := α) Try.prog 111 (byShape impl_Point_plus_sh (impl_Point_plus_run n)) := by
  refine fn_good' Try.func111 (c := (Try.f111.body.getD .skip)) (by kernel_rfl) (by kernel_rfl) (by kernel_rfl) impl_Point_plus_C impl_Point_plus_M eqs impl_Point_plus_lps (fun n => tabC_good (fun _ h => absurd h List.not_mem_nil)) eqs_ok impl_Point_plus_Lt ?_ ?_ impl_Point_plus_sh impl_Point_plus_run ?_
  · exact (fun _ h => absurd h List.not_mem_nil)
  · exact (fun _ h => absurd h List.not_mem_nil)
  · intro n p κ r ds hd hr
    have hr0 := hr
    unfold impl_Point_plus_run impl_Point_plus_runG at hr
    split at hr
    · rw [← ds_of hd]
      exact ⟨en_of (impl_Point_plus_en _ _ _ _ _) ⟨rfl, rfl⟩, (impl_Point_plus_ev n _ _ _ _ _ κ).trans hr0⟩
    · cases hr

/-! loop.example/g01297/impl.convergents -/
def impl_convergents_sh : List SkD := [.int .i64, .int .i64]
def impl_convergents_runG {α : Type} (F : Nat → Int → Int → ((List (Int × Int)) → Option α) → Option α) (n : Nat) (p : List P1) (κ : Res → Option α) : Option α := match p with
  | [.int p_, .int q_] => F n p_ q_ (fun v1 => κ ⟨[.sl 31 .pt v1], []⟩)
  | _ => none
def impl_convergents_run {α : Type} (n : Nat) (p : List P1) (κ : Res → Option α) : Option α := impl_convergents_runG impl_convergents n p κ
def impl_convergents_CG {α : Type} (F0 : Nat → Int → Int → (List Int → Option α) → Option α) (F1 : Nat → Int → Int → Int → Int → Int → (Int → Int → Option α) → Option α) (n : Nat) : FuncId → List D → (Res → Option α) → Option α := tabC [(110, (byShape impl_expand_sh (impl_expand_runG F0 n))), (111, (byShape impl_Point_plus_sh (impl_Point_plus_runG F1 n)))]
def impl_convergents_C {α : Type} (n : Nat) : FuncId → List D → (Res → Option α) → Option α := impl_convergents_CG impl_expand impl_Point_plus n
def impl_convergents_M : FuncId → List Nat := tabM []
def impl_convergents_t3 : Tpl := ⟨[.any, .any, .any, .any, .any, .sl 640, .ptr 384 0 0, .ptr 448 0 0, .any, .any, .any, .any, .any, .any, .any, .sl 960, .int .i64, .int .i64, .any, .any, .any, .any, .any, .any, .any, .any, .any, .any, .any, .any, .any, .any], [(640, .rows 2 31 .pt), (384, .ints 2 31 .i64 2), (448, .ints 2 31 .i64 2), (960, .rows 2 2 (.int .i64))], []⟩
def impl_convergents_uG3 {α : Type} (G : Nat → Int → Int → (List (Int × Int)) → Int → Int → Int → Int → List Int → (Int → Int → (List (Int × Int)) → Int → Int → Int → Int → List Int → Option α) → ((List (Int × Int)) → Option α) → Option α) (n : Nat) (p : List P1) (brk : Nat → List P1 → Option α) (ret : Res → Option α) : Option α := match p with
  | [.int x, .int x1, .rows .pt out, .int now, .int now1, .int before, .int before1, .rows (.int .i64) x2] => G n x x1 out now now1 before before1 x2 (fun x x1 out now now1 before before1 x2 => brk 0 [.int x, .int x1, .rows .pt out, .int now, .int now1, .int before, .int before1, .rows (.int .i64) x2]) (fun v1 => ret ⟨[.sl 31 .pt v1], []⟩)
  | _ => none
def impl_convergents_u3 {α : Type} (n : Nat) (p : List P1) (brk : Nat → List P1 → Option α) (ret : Res → Option α) : Option α := impl_convergents_uG3 impl_convergents_l3 n p brk ret
def impl_convergents_lpsG {α : Type} (G3 : Nat → Int → Int → (List (Int × Int)) → Int → Int → Int → Int → List Int → (Int → Int → (List (Int × Int)) → Int → Int → Int → Int → List Int → Option α) → ((List (Int × Int)) → Option α) → Option α) : List (LoopT α) := [⟨3, impl_convergents_t3, impl_convergents_uG3 G3⟩]
def impl_convergents_lps {α : Type} : List (LoopT α) := impl_convergents_lpsG impl_convergents_l3
def impl_convergents_XG {α : Type} (F0 : Nat → Int → Int → (List Int → Option α) → Option α) (F1 : Nat → Int → Int → Int → Int → Int → (Int → Int → Option α) → Option α) (G3 : Nat → Int → Int → (List (Int × Int)) → Int → Int → Int → Int → List Int → (Int → Int → (List (Int × Int)) → Int → Int → Int → Int → List Int → Option α) → ((List (Int × Int)) → Option α) → Option α) (n : Nat) : Ctx α := ⟨impl_convergents_CG F0 F1 n, impl_convergents_M, eqs, lpOf (impl_convergents_lpsG G3) n⟩
def impl_convergents_X {α : Type} (n : Nat) : Ctx α := impl_convergents_XG impl_expand impl_Point_plus impl_convergents_l3 n
def impl_convergents_Lt (np : Nat) (lent : List (Bool × Nat × Blk)) : Prop := np = 2 ∧ lent = []
def impl_convergents_lb3 {α : Type} (F0 : Nat → Int → Int → (List Int → Option α) → Option α) (F1 : Nat → Int → Int → Int → Int → Int → (Int → Int → Option α) → Option α) (G3 : Nat → Int → Int → (List (Int × Int)) → Int → Int → Int → Int → List Int → (Int → Int → (List (Int × Int)) → Int → Int → Int → Int → List Int → Option α) → ((List (Int × Int)) → Option α) → Option α) (k : Nat) (x : Int) (x1 : Int) (out : List (Int × Int)) (now : Int) (now1 : Int) (before : Int) (before1 : Int) (x2 : List Int) (b0 : Int → Int → (List (Int × Int)) → Int → Int → Int → Int → List Int → Option α) (r0 : (List (Int × Int)) → Option α) : Option α :=
  bif decide (x1 < x) then
    bif (decide (0 ≤ x1) && decide (x1 < (((List.length x2) : Nat) : Int))) then
      (x2[x1.toNat]?).bind fun e_ =>
      F1 k before before1 now now1 e_ fun v1 v2 =>
      bif decide (((List.length out) + 1) ≤ big) then
        G3 k x (w64 (x1 + 1)) (out ++ [(v1, v2)]) v1 v2 now now1 x2 b0 r0
      else
        none
    else
      none
  else
    b0 x x1 out now now1 before before1 x2
theorem impl_convergents_l3_gen {α : Type} (F0 : Nat → Int → Int → (List Int → Option α) → Option α) (F1 : Nat → Int → Int → Int → Int → Int → (Int → Int → Option α) → Option α) (G3 : Nat → Int → Int → (List (Int × Int)) → Int → Int → Int → Int → List Int → (Int → Int → (List (Int × Int)) → Int → Int → Int → Int → List Int → Option α) → ((List (Int × Int)) → Option α) → Option α) (n : Nat) (x : Int) (x1 : Int) (out : List (Int × Int)) (now : Int) (now1 : Int) (before : Int) (before1 : Int) (x2 : List Int) (brk : Nat → List P1 → Option α) (ret : Res → Option α) : ev ((impl_convergents_XG F0 F1 G3 n).env Try.prog Try.f74 2 []) (findLoop (loopsIn (Try.f74.body.getD .skip)) 3) ((impl_convergents_t3.build [.int x, .int x1, .rows .pt out, .int now, .int now1, .int before, .int before1, .rows (.int .i64) x2]).getD ⟨[], []⟩) (roundK (2 * 64) impl_convergents_t3 (fun q => impl_convergents_uG3 G3 n q brk ret) brk ret) = impl_convergents_lb3 F0 F1 G3 n x x1 out now now1 before before1 x2 (fun x x1 out now now1 before before1 x2 => brk 0 [.int x, .int x1, .rows .pt out, .int now, .int now1, .int before, .int before1, .rows (.int .i64) x2]) (fun v1 => ret ⟨[.sl 31 .pt v1], []⟩) := by kernel_rfl
theorem impl_convergents_l3_ev {α : Type} (n : Nat) (x : Int) (x1 : Int) (out : List (Int × Int)) (now : Int) (now1 : Int) (before : Int) (before1 : Int) (x2 : List Int) (brk : Nat → List P1 → Option α) (ret : Res → Option α) : ev ((impl_convergents_X n).env Try.prog Try.f74 2 []) (findLoop (loopsIn (Try.f74.body.getD .skip)) 3) ((impl_convergents_t3.build [.int x, .int x1, .rows .pt out, .int now, .int now1, .int before, .int before1, .rows (.int .i64) x2]).getD ⟨[], []⟩) (roundK (2 * 64) impl_convergents_t3 (fun q => impl_convergents_u3 n q brk ret) brk ret) = impl_convergents_u3 (n + 1) [.int x, .int x1, .rows .pt out, .int now, .int now1, .int before, .int before1, .rows (.int .i64) x2] brk ret := (impl_convergents_l3_gen impl_expand impl_Point_plus impl_convergents_l3 n x x1 out now now1 before before1 x2 brk ret).trans (by kernel_rfl)
def impl_convergents_body {α : Type} (F0 : Nat → Int → Int → (List Int → Option α) → Option α) (F1 : Nat → Int → Int → Int → Int → Int → (Int → Int → Option α) → Option α) (G3 : Nat → Int → Int → (List (Int × Int)) → Int → Int → Int → Int → List Int → (Int → Int → (List (Int × Int)) → Int → Int → Int → Int → List Int → Option α) → ((List (Int × Int)) → Option α) → Option α) (k : Nat) (p_ : Int) (q_ : Int) (r0 : (List (Int × Int)) → Option α) : Option α :=
  F0 k p_ q_ fun v =>
  G3 k (((List.length v) : Nat) : Int) 0 [] 1 0 0 1 v
    (fun x3 x4 out1 now2 now3 before2 before3 x5 =>
      r0 out1)
    r0
theorem impl_convergents_gen {α : Type} (F0 : Nat → Int → Int → (List Int → Option α) → Option α) (F1 : Nat → Int → Int → Int → Int → Int → (Int → Int → Option α) → Option α) (G3 : Nat → Int → Int → (List (Int × Int)) → Int → Int → Int → Int → List Int → (Int → Int → (List (Int × Int)) → Int → Int → Int → Int → List Int → Option α) → ((List (Int × Int)) → Option α) → Option α) (n : Nat) (p_ : Int) (q_ : Int) (κ : Res → Option α) : evFn Try.prog (impl_convergents_XG F0 F1 G3 n) Try.f74 (((buildDs impl_convergents_sh [.int p_, .int q_]).map Prod.fst).getD []) κ = impl_convergents_body F0 F1 G3 n p_ q_ (fun v1 => κ ⟨[.sl 31 .pt v1], []⟩) := by kernel_rfl
theorem impl_convergents_ev {α : Type} (n : Nat) (p_ : Int) (q_ : Int) (κ : Res → Option α) : evFn Try.prog (impl_convergents_X n) Try.f74 (((buildDs impl_convergents_sh [.int p_, .int q_]).map Prod.fst).getD []) κ = impl_convergents_run n [.int p_, .int q_] κ := (impl_convergents_gen impl_expand impl_Point_plus impl_convergents_l3 n p_ q_ κ).trans (by kernel_rfl)
theorem impl_convergents_en (p_ : Int) (q_ : Int) : (entry 0 (((buildDs impl_convergents_sh [.int p_, .int q_]).map Prod.fst).getD [])).map (fun x => (x.1.length, x.2.lent)) = some (2, []) := by kernel_rfl
theorem impl_convergents_good {α : Type} : ∀ n, GoodFn (α := α) Try.prog 74 (byShape impl_convergents_sh (impl_convergents_run n)) := by
  refine fn_good' Try.func74 (c := (Try.f74.body.getD .skip)) (by kernel_rfl) (by kernel_rfl) (by kernel_rfl) impl_convergents_C impl_convergents_M eqs impl_convergents_lps (fun n => tabC_good (List.forall_mem_cons.2 ⟨(impl_expand_good n), (List.forall_mem_cons.2 ⟨(impl_Point_plus_good n), (fun _ h => absurd h List.not_mem_nil)⟩)⟩)) eqs_ok impl_convergents_Lt ?_ ?_ impl_convergents_sh impl_convergents_run ?_
  · refine List.forall_mem_cons.2 ⟨?_, (fun _ h => absurd h List.not_mem_nil)⟩
    · intro p brk ret; show impl_convergents_u3 0 p brk ret = none; unfold impl_convergents_u3 impl_convergents_uG3; split <;> rfl
  · refine List.forall_mem_cons.2 ⟨?_, (fun _ h => absurd h List.not_mem_nil)⟩
    · intro np lent hL n p brk ret st r hb hr
      obtain ⟨rfl, rfl⟩ := hL
      rw [← tpl_of hb]
      change impl_convergents_u3 (n + 1) p brk ret = some r at hr
      have hr0 := hr
      unfold impl_convergents_u3 impl_convergents_uG3 at hr
      split at hr
      · exact (impl_convergents_l3_ev n _ _ _ _ _ _ _ _ brk ret).trans hr0
      · cases hr
  · intro n p κ r ds hd hr
    have hr0 := hr
    unfold impl_convergents_run impl_convergents_runG at hr
    split at hr
    · rw [← ds_of hd]
      exact ⟨en_of (impl_convergents_en _ _) ⟨rfl, rfl⟩, (impl_convergents_ev n _ _ κ).trans hr0⟩
    · cases hr

/-! slices.Index[[]loop.example/g01297/impl.Point,loop.example/g01297/impl.Point] -/
def slices_Index_impl_Point_impl_Point_sh : List SkD := [.sl 31 .pt, .agg [.int .i64, .int .i64]]
def slices_Index_impl_Point_impl_Point_runG {α : Type} (F : Nat → (List (Int × Int)) → Int → Int → (Int → Option α) → Option α) (n : Nat) (p : List P1) (κ : Res → Option α) : Option α := match p with
  | [.rows .pt s, .int v, .int v1] => F n s v v1 (fun v1 => κ ⟨[.int .i64 v1], []⟩)
  | _ => none
def slices_Index_impl_Point_impl_Point_run {α : Type} (n : Nat) (p : List P1) (κ : Res → Option α) : Option α := slices_Index_impl_Point_impl_Point_runG slices_Index_impl_Point_impl_Point n p κ
def slices_Index_impl_Point_impl_Point_CG {α : Type}  (n : Nat) : FuncId → List D → (Res → Option α) → Option α := tabC []
def slices_Index_impl_Point_impl_Point_C {α : Type} (n : Nat) : FuncId → List D → (Res → Option α) → Option α := slices_Index_impl_Point_impl_Point_CG n
def slices_Index_impl_Point_impl_Point_M : FuncId → List Nat := tabM []
def slices_Index_impl_Point_impl_Point_t2 : Tpl := ⟨[.sl 0, .any, .any, .ptr 192 0 0, .any, .any, .any, .int .i64, .int .i64, .any, .any, .any, .any, .any, .any, .any, .any, .any, .any], [(0, .rows 0 31 .pt), (192, .ints 2 31 .i64 2)], []⟩
def slices_Index_impl_Point_impl_Point_uG2 {α : Type} (G : Nat → Int → Int → (List (Int × Int)) → Int → Int → (Int → Int → (List (Int × Int)) → Int → Int → Option α) → (Int → Option α) → Option α) (n : Nat) (p : List P1) (brk : Nat → List P1 → Option α) (ret : Res → Option α) : Option α := match p with
  | [.int x, .int x1, .rows .pt s1, .int v2, .int v3] => G n x x1 s1 v2 v3 (fun x x1 s1 v2 v3 => brk 0 [.int x, .int x1, .rows .pt s1, .int v2, .int v3]) (fun v1 => ret ⟨[.int .i64 v1], []⟩)
  | _ => none
def slices_Index_impl_Point_impl_Point_u2 {α : Type} (n : Nat) (p : List P1) (brk : Nat → List P1 → Option α) (ret : Res → Option α) : Option α := slices_Index_impl_Point_impl_Point_uG2 slices_Index_impl_Point_impl_Point_l2 n p brk ret
def slices_Index_impl_Point_impl_Point_lpsG {α : Type} (G2 : Nat → Int → Int → (List (Int × Int)) → Int → Int → (Int → Int → (List (Int × Int)) → Int → Int → Option α) → (Int → Option α) → Option α) : List (LoopT α) := [⟨2, slices_Index_impl_Point_impl_Point_t2, slices_Index_impl_Point_impl_Point_uG2 G2⟩]
def slices_Index_impl_Point_impl_Point_lps {α : Type} : List (LoopT α) := slices_Index_impl_Point_impl_Point_lpsG slices_Index_impl_Point_impl_Point_l2
def slices_Index_impl_Point_impl_Point_XG {α : Type}  (G2 : Nat → Int → Int → (List (Int × Int)) → Int → Int → (Int → Int → (List (Int × Int)) → Int → Int → Option α) → (Int → Option α) → Option α) (n : Nat) : Ctx α := ⟨slices_Index_impl_Point_impl_Point_CG n, slices_Index_impl_Point_impl_Point_M, eqs, lpOf (slices_Index_impl_Point_impl_Point_lpsG G2) n⟩
def slices_Index_impl_Point_impl_Point_X {α : Type} (n : Nat) : Ctx α := slices_Index_impl_Point_impl_Point_XG slices_Index_impl_Point_impl_Point_l2 n
def slices_Index_impl_Point_impl_Point_Lt (np : Nat) (lent : List (Bool × Nat × Blk)) : Prop := np = 2 ∧ lent = []
def slices_Index_impl_Point_impl_Point_lb2 {α : Type}  (G2 : Nat → Int → Int → (List (Int × Int)) → Int → Int → (Int → Int → (List (Int × Int)) → Int → Int → Option α) → (Int → Option α) → Option α) (k : Nat) (x : Int) (x1 : Int) (s1 : List (Int × Int)) (v2 : Int) (v3 : Int) (b0 : Int → Int → (List (Int × Int)) → Int → Int → Option α) (r0 : Int → Option α) : Option α :=
  bif decide (x1 < x) then
    bif (decide (0 ≤ x1) && decide (x1 < (((List.length s1) : Nat) : Int))) then
      (s1[x1.toNat]?).bind fun e_ =>
      bif (decide (v2 = e_.1) && decide (v3 = e_.2)) then
        r0 x1
      else
        G2 k x (w64 (x1 + 1)) s1 v2 v3 b0 r0
    else
      none
  else
    b0 x x1 s1 v2 v3
theorem slices_Index_impl_Point_impl_Point_l2_gen {α : Type}  (G2 : Nat → Int → Int → (List (Int × Int)) → Int → Int → (Int → Int → (List (Int × Int)) → Int → Int → Option α) → (Int → Option α) → Option α) (n : Nat) (x : Int) (x1 : Int) (s1 : List (Int × Int)) (v2 : Int) (v3 : Int) (brk : Nat → List P1 → Option α) (ret : Res → Option α) : ev ((slices_Index_impl_Point_impl_Point_XG G2 n).env Try.prog Try.f109 2 []) (findLoop (loopsIn (Try.f109.body.getD .skip)) 2) ((slices_Index_impl_Point_impl_Point_t2.build [.int x, .int x1, .rows .pt s1, .int v2, .int v3]).getD ⟨[], []⟩) (roundK (2 * 64) slices_Index_impl_Point_impl_Point_t2 (fun q => slices_Index_impl_Point_impl_Point_uG2 G2 n q brk ret) brk ret) = slices_Index_impl_Point_impl_Point_lb2 G2 n x x1 s1 v2 v3 (fun x x1 s1 v2 v3 => brk 0 [.int x, .int x1, .rows .pt s1, .int v2, .int v3]) (fun v1 => ret ⟨[.int .i64 v1], []⟩) := by kernel_rfl
theorem slices_Index_impl_Point_impl_Point_l2_ev {α : Type} (n : Nat) (x : Int) (x1 : Int) (s1 : List (Int × Int)) (v2 : Int) (v3 : Int) (brk : Nat → List P1 → Option α) (ret : Res → Option α) : ev ((slices_Index_impl_Point_impl_Point_X n).env Try.prog Try.f109 2 []) (findLoop (loopsIn (Try.f109.body.getD .skip)) 2) ((slices_Index_impl_Point_impl_Point_t2.build [.int x, .int x1, .rows .pt s1, .int v2, .int v3]).getD ⟨[], []⟩) (roundK (2 * 64) slices_Index_impl_Point_impl_Point_t2 (fun q => slices_Index_impl_Point_impl_Point_u2 n q brk ret) brk ret) = slices_Index_impl_Point_impl_Point_u2 (n + 1) [.int x, .int x1, .rows .pt s1, .int v2, .int v3] brk ret := (slices_Index_impl_Point_impl_Point_l2_gen slices_Index_impl_Point_impl_Point_l2 n x x1 s1 v2 v3 brk ret).trans (by kernel_rfl)
def slices_Index_impl_Point_impl_Point_body {α : Type}  (G2 : Nat → Int → Int → (List (Int × Int)) → Int → Int → (Int → Int → (List (Int × Int)) → Int → Int → Option α) → (Int → Option α) → Option α) (k : Nat) (s : List (Int × Int)) (v : Int) (v1 : Int) (r0 : Int → Option α) : Option α :=
  G2 k (((List.length s) : Nat) : Int) 0 s v v1
    (fun x2 x3 s2 v4 v5 =>
      r0 (-1))
    r0
theorem slices_Index_impl_Point_impl_Point_gen {α : Type}  (G2 : Nat → Int → Int → (List (Int × Int)) → Int → Int → (Int → Int → (List (Int × Int)) → Int → Int → Option α) → (Int → Option α) → Option α) (n : Nat) (s : List (Int × Int)) (v : Int) (v1 : Int) (κ : Res → Option α) : evFn Try.prog (slices_Index_impl_Point_impl_Point_XG G2 n) Try.f109 (((buildDs slices_Index_impl_Point_impl_Point_sh [.rows .pt s, .int v, .int v1]).map Prod.fst).getD []) κ = slices_Index_impl_Point_impl_Point_body G2 n s v v1 (fun v1 => κ ⟨[.int .i64 v1], []⟩) := by kernel_rfl
theorem slices_Index_impl_Point_impl_Point_ev {α : Type} (n : Nat) (s : List (Int × Int)) (v : Int) (v1 : Int) (κ : Res → Option α) : evFn Try.prog (slices_Index_impl_Point_impl_Point_X n) Try.f109 (((buildDs slices_Index_impl_Point_impl_Point_sh [.rows .pt s, .int v, .int v1]).map Prod.fst).getD []) κ = slices_Index_impl_Point_impl_Point_run n [.rows .pt s, .int v, .int v1] κ := (slices_Index_impl_Point_impl_Point_gen slices_Index_impl_Point_impl_Point_l2 n s v v1 κ).trans (by kernel_rfl)
theorem slices_Index_impl_Point_impl_Point_en (s : List (Int × Int)) (v : Int) (v1 : Int) : (entry 0 (((buildDs slices_Index_impl_Point_impl_Point_sh [.rows .pt s, .int v, .int v1]).map Prod.fst).getD [])).map (fun x => (x.1.length, x.2.lent)) = some (2, []) := by kernel_rfl
theorem slices_Index_impl_Point_impl_Point_good {α : Type} : ∀ n, GoodFn (α := α) Try.prog 109 (byShape slices_Index_impl_Point_impl_Point_sh (slices_Index_impl_Point_impl_Point_run n)) := by
  refine fn_good' Try.func109 (c := (Try.f109.body.getD .skip)) (by kernel_rfl) (by kernel_rfl) (by kernel_rfl) slices_Index_impl_Point_impl_Point_C slices_Index_impl_Point_impl_Point_M eqs slices_Index_impl_Point_impl_Point_lps (fun n => tabC_good (fun _ h => absurd h List.not_mem_nil)) eqs_ok slices_Index_impl_Point_impl_Point_Lt ?_ ?_ slices_Index_impl_Point_impl_Point_sh slices_Index_impl_Point_impl_Point_run ?_
  · refine List.forall_mem_cons.2 ⟨?_, (fun _ h => absurd h List.not_mem_nil)⟩
    · intro p brk ret; show slices_Index_impl_Point_impl_Point_u2 0 p brk ret = none; unfold slices_Index_impl_Point_impl_Point_u2 slices_Index_impl_Point_impl_Point_uG2; split <;> rfl
  · refine List.forall_mem_cons.2 ⟨?_, (fun _ h => absurd h List.not_mem_nil)⟩
    · intro np lent hL n p brk ret st r hb hr
      obtain ⟨rfl, rfl⟩ := hL
      rw [← tpl_of hb]
      change slices_Index_impl_Point_impl_Point_u2 (n + 1) p brk ret = some r at hr
      have hr0 := hr
      unfold slices_Index_impl_Point_impl_Point_u2 slices_Index_impl_Point_impl_Point_uG2 at hr
      split at hr
      · exact (slices_Index_impl_Point_impl_Point_l2_ev n _ _ _ _ _ brk ret).trans hr0
      · cases hr
  · intro n p κ r ds hd hr
    have hr0 := hr
    unfold slices_Index_impl_Point_impl_Point_run slices_Index_impl_Point_impl_Point_runG at hr
    split at hr
    · rw [← ds_of hd]
      exact ⟨en_of (slices_Index_impl_Point_impl_Point_en _ _ _) ⟨rfl, rfl⟩, (slices_Index_impl_Point_impl_Point_ev n _ _ _ κ).trans hr0⟩
    · cases hr

/-! slices.Contains[[]loop.example/g01297/impl.Point,loop.example/g01297/impl.Point] -/
def slices_Contains_impl_Point_impl_Point_sh : List SkD := [.sl 31 .pt, .agg [.int .i64, .int .i64]]
def slices_Contains_impl_Point_impl_Point_runG {α : Type} (F : Nat → (List (Int × Int)) → Int → Int → (Bool → Option α) → Option α) (n : Nat) (p : List P1) (κ : Res → Option α) : Option α := match p with
  | [.rows .pt s, .int v, .int v1] => F n s v v1 (fun v1 => κ ⟨[.bool v1], []⟩)
  | _ => none
def slices_Contains_impl_Point_impl_Point_run {α : Type} (n : Nat) (p : List P1) (κ : Res → Option α) : Option α := slices_Contains_impl_Point_impl_Point_runG slices_Contains_impl_Point_impl_Point n p κ
def slices_Contains_impl_Point_impl_Point_CG {α : Type} (F0 : Nat → (List (Int × Int)) → Int → Int → (Int → Option α) → Option α) (n : Nat) : FuncId → List D → (Res → Option α) → Option α := tabC [(109, (byShape slices_Index_impl_Point_impl_Point_sh (slices_Index_impl_Point_impl_Point_runG F0 n)))]
def slices_Contains_impl_Point_impl_Point_C {α : Type} (n : Nat) : FuncId → List D → (Res → Option α) → Option α := slices_Contains_impl_Point_impl_Point_CG slices_Index_impl_Point_impl_Point n
def slices_Contains_impl_Point_impl_Point_M : FuncId → List Nat := tabM []
def slices_Contains_impl_Point_impl_Point_lpsG {α : Type}  : List (LoopT α) := []
def slices_Contains_impl_Point_impl_Point_lps {α : Type} : List (LoopT α) := slices_Contains_impl_Point_impl_Point_lpsG
def slices_Contains_impl_Point_impl_Point_XG {α : Type} (F0 : Nat → (List (Int × Int)) → Int → Int → (Int → Option α) → Option α)  (n : Nat) : Ctx α := ⟨slices_Contains_impl_Point_impl_Point_CG F0 n, slices_Contains_impl_Point_impl_Point_M, eqs, lpOf (slices_Contains_impl_Point_impl_Point_lpsG) n⟩
def slices_Contains_impl_Point_impl_Point_X {α : Type} (n : Nat) : Ctx α := slices_Contains_impl_Point_impl_Point_XG slices_Index_impl_Point_impl_Point n
def slices_Contains_impl_Point_impl_Point_Lt (np : Nat) (lent : List (Bool × Nat × Blk)) : Prop := np = 2 ∧ lent = []
def slices_Contains_impl_Point_impl_Point_body {α : Type} (F0 : Nat → (List (Int × Int)) → Int → Int → (Int → Option α) → Option α)  (k : Nat) (s : List (Int × Int)) (v : Int) (v1 : Int) (r0 : Bool → Option α) : Option α :=
  F0 k s v v1 fun v2 =>
  r0 (decide (0 ≤ v2))
theorem slices_Contains_impl_Point_impl_Point_gen {α : Type} (F0 : Nat → (List (Int × Int)) → Int → Int → (Int → Option α) → Option α)  (n : Nat) (s : List (Int × Int)) (v : Int) (v1 : Int) (κ : Res → Option α) : evFn Try.prog (slices_Contains_impl_Point_impl_Point_XG F0 n) Try.f73 (((buildDs slices_Contains_impl_Point_impl_Point_sh [.rows .pt s, .int v, .int v1]).map Prod.fst).getD []) κ = slices_Contains_impl_Point_impl_Point_body F0 n s v v1 (fun v1 => κ ⟨[.bool v1], []⟩) := by kernel_rfl
theorem slices_Contains_impl_Point_impl_Point_ev {α : Type} (n : Nat) (s : List (Int × Int)) (v : Int) (v1 : Int) (κ : Res → Option α) : evFn Try.prog (slices_Contains_impl_Point_impl_Point_X n) Try.f73 (((buildDs slices_Contains_impl_Point_impl_Point_sh [.rows .pt s, .int v, .int v1]).map Prod.fst).getD []) κ = slices_Contains_impl_Point_impl_Point_run n [.rows .pt s, .int v, .int v1] κ := (slices_Contains_impl_Point_impl_Point_gen slices_Index_impl_Point_impl_Point n s v v1 κ).trans (by kernel_rfl)
theorem slices_Contains_impl_Point_impl_Point_en (s : List (Int × Int)) (v : Int) (v1 : Int) : (entry 0 (((buildDs slices_Contains_impl_Point_impl_Point_sh [.rows .pt s, .int v, .int v1]).map Prod.fst).getD [])).map (fun x => (x.1.length, x.2.lent)) = some (2, []) := by kernel_rfl
theorem slices_Contains_impl_Point_impl_Point_good {α : Type} : ∀ n, GoodFn (α := α) Try.prog 73 (byShape slices_Contains_impl_Point_impl_Point_sh (slices_Contains_impl_Point_impl_Point_run n)) := by
  refine fn_good' Try.func73 (c := (Try.f73.body.getD .skip)) (by kernel_rfl) (by kernel_rfl) (by kernel_rfl) slices_Contains_impl_Point_impl_Point_C slices_Contains_impl_Point_impl_Point_M eqs slices_Contains_impl_Point_impl_Point_lps (fun n => tabC_good (List.forall_mem_cons.2 ⟨(slices_Index_impl_Point_impl_Point_good n), (fun _ h => absurd h List.not_mem_nil)⟩)) eqs_ok slices_Contains_impl_Point_impl_Point_Lt ?_ ?_ slices_Contains_impl_Point_impl_Point_sh slices_Contains_impl_Point_impl_Point_run ?_
  · exact (fun _ h => absurd h List.not_mem_nil)
  · exact (fun _ h => absurd h List.not_mem_nil)
  · intro n p κ r ds hd hr
    have hr0 := hr
    unfold slices_Contains_impl_Point_impl_Point_run slices_Contains_impl_Point_impl_Point_runG at hr
    split at hr
    · rw [← ds_of hd]
      exact ⟨en_of (slices_Contains_impl_Point_impl_Point_en _ _ _) ⟨rfl, rfl⟩, (slices_Contains_impl_Point_impl_Point_ev n _ _ _ κ).trans hr0⟩
    · cases hr

/-! loop.example/g01297/impl.IsConvergent -/
def impl_IsConvergent_sh : List SkD := [.int .i64, .int .i64, .int .i64, .int .i64]
def impl_IsConvergent_runG {α : Type} (F : Nat → Int → Int → Int → Int → (Bool → Int → Option α) → Option α) (n : Nat) (p : List P1) (κ : Res → Option α) : Option α := match p with
  | [.int p_, .int q_, .int r_, .int s] => F n p_ q_ r_ s (fun v1 v2 => κ ⟨[.bool v1, .int .i64 v2], []⟩)
  | _ => none
def impl_IsConvergent_run {α : Type} (n : Nat) (p : List P1) (κ : Res → Option α) : Option α := impl_IsConvergent_runG impl_IsConvergent n p κ
def impl_IsConvergent_CG {α : Type} (F0 : Nat → Int → Int → (Bool → Option α) → Option α) (F1 : Nat → Int → Int → ((List (Int × Int)) → Option α) → Option α) (F2 : Nat → (List (Int × Int)) → Int → Int → (Bool → Option α) → Option α) (n : Nat) : FuncId → List D → (Res → Option α) → Option α := tabC [(62, (byShape impl_ratioOk_sh (impl_ratioOk_runG F0 n))), (74, (byShape impl_convergents_sh (impl_convergents_runG F1 n))), (73, (byShape slices_Contains_impl_Point_impl_Point_sh (slices_Contains_impl_Point_impl_Point_runG F2 n)))]
def impl_IsConvergent_C {α : Type} (n : Nat) : FuncId → List D → (Res → Option α) → Option α := impl_IsConvergent_CG impl_ratioOk impl_convergents slices_Contains_impl_Point_impl_Point n
def impl_IsConvergent_M : FuncId → List Nat := tabM []
def impl_IsConvergent_lpsG {α : Type}  : List (LoopT α) := []
def impl_IsConvergent_lps {α : Type} : List (LoopT α) := impl_IsConvergent_lpsG
def impl_IsConvergent_XG {α : Type} (F0 : Nat → Int → Int → (Bool → Option α) → Option α) (F1 : Nat → Int → Int → ((List (Int × Int)) → Option α) → Option α) (F2 : Nat → (List (Int × Int)) → Int → Int → (Bool → Option α) → Option α)  (n : Nat) : Ctx α := ⟨impl_IsConvergent_CG F0 F1 F2 n, impl_IsConvergent_M, eqs, lpOf (impl_IsConvergent_lpsG) n⟩
def impl_IsConvergent_X {α : Type} (n : Nat) : Ctx α := impl_IsConvergent_XG impl_ratioOk impl_convergents slices_Contains_impl_Point_impl_Point n
def impl_IsConvergent_Lt (np : Nat) (lent : List (Bool × Nat × Blk)) : Prop := np = 4 ∧ lent = []
def impl_IsConvergent_body {α : Type} (F0 : Nat → Int → Int → (Bool → Option α) → Option α) (F1 : Nat → Int → Int → ((List (Int × Int)) → Option α) → Option α) (F2 : Nat → (List (Int × Int)) → Int → Int → (Bool → Option α) → Option α)  (k : Nat) (p_ : Int) (q_ : Int) (r_ : Int) (s : Int) (r0 : Bool → Int → Option α) : Option α :=
  F0 k p_ q_ fun v =>
  bif (!v) then
    r0 false 2
  else
    F0 k r_ s fun v1 =>
    bif (!v1) then
      r0 false 2
    else
      F1 k p_ q_ fun v2 =>
      F2 k v2 r_ s fun v3 =>
      r0 v3 0
theorem impl_IsConvergent_gen {α : Type} (F0 : Nat → Int → Int → (Bool → Option α) → Option α) (F1 : Nat → Int → Int → ((List (Int × Int)) → Option α) → Option α) (F2 : Nat → (List (Int × Int)) → Int → Int → (Bool → Option α) → Option α)  (n : Nat) (p_ : Int) (q_ : Int) (r_ : Int) (s : Int) (κ : Res → Option α) : evFn Try.prog (impl_IsConvergent_XG F0 F1 F2 n) Try.f35 (((buildDs impl_IsConvergent_sh [.int p_, .int q_, .int r_, .int s]).map Prod.fst).getD []) κ = impl_IsConvergent_body F0 F1 F2 n p_ q_ r_ s (fun v1 v2 => κ ⟨[.bool v1, .int .i64 v2], []⟩) := by kernel_rfl
theorem impl_IsConvergent_ev {α : Type} (n : Nat) (p_ : Int) (q_ : Int) (r_ : Int) (s : Int) (κ : Res → Option α) : evFn Try.prog (impl_IsConvergent_X n) Try.f35 (((buildDs impl_IsConvergent_sh [.int p_, .int q_, .int r_, .int s]).map Prod.fst).getD []) κ = impl_IsConvergent_run n [.int p_, .int q_, .int r_, .int s] κ := (impl_IsConvergent_gen impl_ratioOk impl_convergents slices_Contains_impl_Point_impl_Point n p_ q_ r_ s κ).trans (by kernel_rfl)
theorem impl_IsConvergent_en (p_ : Int) (q_ : Int) (r_ : Int) (s : Int) : (entry 0 (((buildDs impl_IsConvergent_sh [.int p_, .int q_, .int r_, .int s]).map Prod.fst).getD [])).map (fun x => (x.1.length, x.2.lent)) = some (4, []) := by kernel_rfl
theorem impl_IsConvergent_good {α : Type} : ∀ n, GoodFn (α := α) Try.prog 35 (byShape impl_IsConvergent_sh (impl_IsConvergent_run n)) := by
  refine fn_good' Try.func35 (c := (Try.f35.body.getD .skip)) (by kernel_rfl) (by kernel_rfl) (by kernel_rfl) impl_IsConvergent_C impl_IsConvergent_M eqs impl_IsConvergent_lps (fun n => tabC_good (List.forall_mem_cons.2 ⟨(impl_ratioOk_good n), (List.forall_mem_cons.2 ⟨(impl_convergents_good n), (List.forall_mem_cons.2 ⟨(slices_Contains_impl_Point_impl_Point_good n), (fun _ h => absurd h List.not_mem_nil)⟩)⟩)⟩)) eqs_ok impl_IsConvergent_Lt ?_ ?_ impl_IsConvergent_sh impl_IsConvergent_run ?_
  · exact (fun _ h => absurd h List.not_mem_nil)
  · exact (fun _ h => absurd h List.not_mem_nil)
  · intro n p κ r ds hd hr
    have hr0 := hr
    unfold impl_IsConvergent_run impl_IsConvergent_runG at hr
    split at hr
    · rw [← ds_of hd]
      exact ⟨en_of (impl_IsConvergent_en _ _ _ _) ⟨rfl, rfl⟩, (impl_IsConvergent_ev n _ _ _ _ κ).trans hr0⟩
    · cases hr

end Go.Proofs.Ytegnnbhphgeocaa
