/- The program's functions hold to their readings without memory: printed by a program of ours. -/
import Derived.Test.YtfefgadhaafeiaaEvTab
import Derived.Test.YtfefgadhaafeiaaSh
import Derived.Test.YtfefgadhaafeiaaProg
namespace Go.Proofs.Ytfefgadhaafeiaa
open Go Go.Ev Go.Sh Go.Proofs

def eqs : TypeId → Nat → Bool := fun _ _ => false
theorem eqs_ok : EqOK Try.prog eqs := fun t n h => by cases h

/-! loop.example/g01297/laws.toPoint -/
def laws_toPoint_sh : List SkD := [.agg [.int .i64, .int .i64]]
def laws_toPoint_C {α : Type} (n : Nat) : FuncId → List D → (Res → Option α) → Option α := tabC []
def laws_toPoint_M : FuncId → List Nat := tabM []
def laws_toPoint_lps {α : Type} : List (LoopT α) := []
def laws_toPoint_X {α : Type} (n : Nat) : Ctx α := ⟨laws_toPoint_C n, laws_toPoint_M, eqs, lpOf laws_toPoint_lps n⟩
def laws_toPoint_run {α : Type} (n : Nat) (p : List P1) (κ : Res → Option α) : Option α := match p with
  | [.int a, .int a1] => laws_toPoint n a a1 (fun v1 v2 => κ ⟨[.agg [.int .i64 v1, .int .i64 v2]], []⟩)
  | _ => none
def laws_toPoint_Lt (np : Nat) (lent : List (Bool × Nat × Blk)) : Prop := np = 1 ∧ lent = []
theorem laws_toPoint_ev {α : Type} (n : Nat) (a : Int) (a1 : Int) (κ : Res → Option α) : evFn Try.prog (laws_toPoint_X n) Try.f10 (((buildDs laws_toPoint_sh [.int a, .int a1]).map Prod.fst).getD []) κ = laws_toPoint_run n [.int a, .int a1] κ := by kernel_rfl
theorem laws_toPoint_en (a : Int) (a1 : Int) : (entry 0 (((buildDs laws_toPoint_sh [.int a, .int a1]).map Prod.fst).getD [])).map (fun x => (x.1.length, x.2.lent)) = some (1, []) := by kernel_rfl
theorem laws_toPoint_good {α : Type} : ∀ n, GoodFn (α := α) Try.prog 10 (byShape laws_toPoint_sh (laws_toPoint_run n)) := by
  refine fn_good' Try.func10 (c := (Try.f10.body.getD .skip)) (by kernel_rfl) (by kernel_rfl) (by kernel_rfl) laws_toPoint_C laws_toPoint_M eqs laws_toPoint_lps (fun n => tabC_good (fun _ h => absurd h List.not_mem_nil)) eqs_ok laws_toPoint_Lt ?_ ?_ laws_toPoint_sh laws_toPoint_run ?_
  · exact (fun _ h => absurd h List.not_mem_nil)
  · exact (fun _ h => absurd h List.not_mem_nil)
  · intro n p κ r ds hd hr
    have hr0 := hr
    unfold laws_toPoint_run at hr
    split at hr
    · rw [← ds_of hd]
      exact ⟨en_of (laws_toPoint_en _ _) ⟨rfl, rfl⟩, (laws_toPoint_ev n _ _ κ).trans hr0⟩
    · cases hr

/-! loop.example/g01297/spec.l01In -/
def spec_l01In_sh : List SkD := [.int .i64, .int .i64, .int .i64]
def spec_l01In_C {α : Type} (n : Nat) : FuncId → List D → (Res → Option α) → Option α := tabC []
def spec_l01In_M : FuncId → List Nat := tabM []
def spec_l01In_lps {α : Type} : List (LoopT α) := []
def spec_l01In_X {α : Type} (n : Nat) : Ctx α := ⟨spec_l01In_C n, spec_l01In_M, eqs, lpOf spec_l01In_lps n⟩
def spec_l01In_run {α : Type} (n : Nat) (p : List P1) (κ : Res → Option α) : Option α := match p with
  | [.int n_, .int low, .int high] => spec_l01In n n_ low high (fun v1 => κ ⟨[.bool v1], []⟩)
  | _ => none
def spec_l01In_Lt (np : Nat) (lent : List (Bool × Nat × Blk)) : Prop := np = 3 ∧ lent = []
theorem spec_l01In_ev {α : Type} (n : Nat) (n_ : Int) (low : Int) (high : Int) (κ : Res → Option α) : evFn Try.prog (spec_l01In_X n) Try.f45 (((buildDs spec_l01In_sh [.int n_, .int low, .int high]).map Prod.fst).getD []) κ = spec_l01In_run n [.int n_, .int low, .int high] κ := by kernel_rfl
theorem spec_l01In_en (n_ : Int) (low : Int) (high : Int) : (entry 0 (((buildDs spec_l01In_sh [.int n_, .int low, .int high]).map Prod.fst).getD [])).map (fun x => (x.1.length, x.2.lent)) = some (3, []) := by kernel_rfl
theorem spec_l01In_good {α : Type} : ∀ n, GoodFn (α := α) Try.prog 45 (byShape spec_l01In_sh (spec_l01In_run n)) := by
  refine fn_good' Try.func45 (c := (Try.f45.body.getD .skip)) (by kernel_rfl) (by kernel_rfl) (by kernel_rfl) spec_l01In_C spec_l01In_M eqs spec_l01In_lps (fun n => tabC_good (fun _ h => absurd h List.not_mem_nil)) eqs_ok spec_l01In_Lt ?_ ?_ spec_l01In_sh spec_l01In_run ?_
  · exact (fun _ h => absurd h List.not_mem_nil)
  · exact (fun _ h => absurd h List.not_mem_nil)
  · intro n p κ r ds hd hr
    have hr0 := hr
    unfold spec_l01In_run at hr
    split at hr
    · rw [← ds_of hd]
      exact ⟨en_of (spec_l01In_en _ _ _) ⟨rfl, rfl⟩, (spec_l01In_ev n _ _ _ κ).trans hr0⟩
    · cases hr

/-! loop.example/g01297/spec.l01Fits -/
def spec_l01Fits_sh : List SkD := [.int .i64]
def spec_l01Fits_C {α : Type} (n : Nat) : FuncId → List D → (Res → Option α) → Option α := tabC [(45, byShape spec_l01In_sh (spec_l01In_run n))]
def spec_l01Fits_M : FuncId → List Nat := tabM []
def spec_l01Fits_lps {α : Type} : List (LoopT α) := []
def spec_l01Fits_X {α : Type} (n : Nat) : Ctx α := ⟨spec_l01Fits_C n, spec_l01Fits_M, eqs, lpOf spec_l01Fits_lps n⟩
def spec_l01Fits_run {α : Type} (n : Nat) (p : List P1) (κ : Res → Option α) : Option α := match p with
  | [.int x] => spec_l01Fits n x (fun v1 => κ ⟨[.bool v1], []⟩)
  | _ => none
def spec_l01Fits_Lt (np : Nat) (lent : List (Bool × Nat × Blk)) : Prop := np = 1 ∧ lent = []
theorem spec_l01Fits_ev {α : Type} (n : Nat) (x : Int) (κ : Res → Option α) : evFn Try.prog (spec_l01Fits_X n) Try.f29 (((buildDs spec_l01Fits_sh [.int x]).map Prod.fst).getD []) κ = spec_l01Fits_run n [.int x] κ := by kernel_rfl
theorem spec_l01Fits_en (x : Int) : (entry 0 (((buildDs spec_l01Fits_sh [.int x]).map Prod.fst).getD [])).map (fun x => (x.1.length, x.2.lent)) = some (1, []) := by kernel_rfl
theorem spec_l01Fits_good {α : Type} : ∀ n, GoodFn (α := α) Try.prog 29 (byShape spec_l01Fits_sh (spec_l01Fits_run n)) := by
  refine fn_good' Try.func29 (c := (Try.f29.body.getD .skip)) (by kernel_rfl) (by kernel_rfl) (by kernel_rfl) spec_l01Fits_C spec_l01Fits_M eqs spec_l01Fits_lps (fun n => tabC_good (List.forall_mem_cons.2 ⟨spec_l01In_good n, (fun _ h => absurd h List.not_mem_nil)⟩)) eqs_ok spec_l01Fits_Lt ?_ ?_ spec_l01Fits_sh spec_l01Fits_run ?_
  · exact (fun _ h => absurd h List.not_mem_nil)
  · exact (fun _ h => absurd h List.not_mem_nil)
  · intro n p κ r ds hd hr
    have hr0 := hr
    unfold spec_l01Fits_run at hr
    split at hr
    · rw [← ds_of hd]
      exact ⟨en_of (spec_l01Fits_en _) ⟨rfl, rfl⟩, (spec_l01Fits_ev n _ κ).trans hr0⟩
    · cases hr

/-! loop.example/g01297/spec.l01Is -/
def spec_l01Is_sh : List SkD := [.agg [.int .i64, .int .i64]]
def spec_l01Is_C {α : Type} (n : Nat) : FuncId → List D → (Res → Option α) → Option α := tabC [(29, byShape spec_l01Fits_sh (spec_l01Fits_run n))]
def spec_l01Is_M : FuncId → List Nat := tabM []
def spec_l01Is_lps {α : Type} : List (LoopT α) := []
def spec_l01Is_X {α : Type} (n : Nat) : Ctx α := ⟨spec_l01Is_C n, spec_l01Is_M, eqs, lpOf spec_l01Is_lps n⟩
def spec_l01Is_run {α : Type} (n : Nat) (p : List P1) (κ : Res → Option α) : Option α := match p with
  | [.int a, .int a1] => spec_l01Is n a a1 (fun v1 => κ ⟨[.bool v1], []⟩)
  | _ => none
def spec_l01Is_Lt (np : Nat) (lent : List (Bool × Nat × Blk)) : Prop := np = 1 ∧ lent = []
theorem spec_l01Is_ev {α : Type} (n : Nat) (a : Int) (a1 : Int) (κ : Res → Option α) : evFn Try.prog (spec_l01Is_X n) Try.f24 (((buildDs spec_l01Is_sh [.int a, .int a1]).map Prod.fst).getD []) κ = spec_l01Is_run n [.int a, .int a1] κ := by kernel_rfl
theorem spec_l01Is_en (a : Int) (a1 : Int) : (entry 0 (((buildDs spec_l01Is_sh [.int a, .int a1]).map Prod.fst).getD [])).map (fun x => (x.1.length, x.2.lent)) = some (1, []) := by kernel_rfl
theorem spec_l01Is_good {α : Type} : ∀ n, GoodFn (α := α) Try.prog 24 (byShape spec_l01Is_sh (spec_l01Is_run n)) := by
  refine fn_good' Try.func24 (c := (Try.f24.body.getD .skip)) (by kernel_rfl) (by kernel_rfl) (by kernel_rfl) spec_l01Is_C spec_l01Is_M eqs spec_l01Is_lps (fun n => tabC_good (List.forall_mem_cons.2 ⟨spec_l01Fits_good n, (fun _ h => absurd h List.not_mem_nil)⟩)) eqs_ok spec_l01Is_Lt ?_ ?_ spec_l01Is_sh spec_l01Is_run ?_
  · exact (fun _ h => absurd h List.not_mem_nil)
  · exact (fun _ h => absurd h List.not_mem_nil)
  · intro n p κ r ds hd hr
    have hr0 := hr
    unfold spec_l01Is_run at hr
    split at hr
    · rw [← ds_of hd]
      exact ⟨en_of (spec_l01Is_en _ _) ⟨rfl, rfl⟩, (spec_l01Is_ev n _ _ κ).trans hr0⟩
    · cases hr

/-! loop.example/g01297/spec.l10Dot -/
def spec_l10Dot_sh : List SkD := [.agg [.int .i64, .int .i64], .agg [.int .i64, .int .i64]]
def spec_l10Dot_C {α : Type} (n : Nat) : FuncId → List D → (Res → Option α) → Option α := tabC []
def spec_l10Dot_M : FuncId → List Nat := tabM []
def spec_l10Dot_lps {α : Type} : List (LoopT α) := []
def spec_l10Dot_X {α : Type} (n : Nat) : Ctx α := ⟨spec_l10Dot_C n, spec_l10Dot_M, eqs, lpOf spec_l10Dot_lps n⟩
def spec_l10Dot_run {α : Type} (n : Nat) (p : List P1) (κ : Res → Option α) : Option α := match p with
  | [.int a, .int a1, .int b_, .int b_1] => spec_l10Dot n a a1 b_ b_1 (fun v1 => κ ⟨[.int .i64 v1], []⟩)
  | _ => none
def spec_l10Dot_Lt (np : Nat) (lent : List (Bool × Nat × Blk)) : Prop := np = 2 ∧ lent = []
theorem spec_l10Dot_ev {α : Type} (n : Nat) (a : Int) (a1 : Int) (b_ : Int) (b_1 : Int) (κ : Res → Option α) : evFn Try.prog (spec_l10Dot_X n) Try.f25 (((buildDs spec_l10Dot_sh [.int a, .int a1, .int b_, .int b_1]).map Prod.fst).getD []) κ = spec_l10Dot_run n [.int a, .int a1, .int b_, .int b_1] κ := by kernel_rfl
theorem spec_l10Dot_en (a : Int) (a1 : Int) (b_ : Int) (b_1 : Int) : (entry 0 (((buildDs spec_l10Dot_sh [.int a, .int a1, .int b_, .int b_1]).map Prod.fst).getD [])).map (fun x => (x.1.length, x.2.lent)) = some (2, []) := by kernel_rfl
theorem spec_l10Dot_good {α : Type} : ∀ n, GoodFn (α := α) Try.prog 25 (byShape spec_l10Dot_sh (spec_l10Dot_run n)) := by
  refine fn_good' Try.func25 (c := (Try.f25.body.getD .skip)) (by kernel_rfl) (by kernel_rfl) (by kernel_rfl) spec_l10Dot_C spec_l10Dot_M eqs spec_l10Dot_lps (fun n => tabC_good (fun _ h => absurd h List.not_mem_nil)) eqs_ok spec_l10Dot_Lt ?_ ?_ spec_l10Dot_sh spec_l10Dot_run ?_
  · exact (fun _ h => absurd h List.not_mem_nil)
  · exact (fun _ h => absurd h List.not_mem_nil)
  · intro n p κ r ds hd hr
    have hr0 := hr
    unfold spec_l10Dot_run at hr
    split at hr
    · rw [← ds_of hd]
      exact ⟨en_of (spec_l10Dot_en _ _ _ _) ⟨rfl, rfl⟩, (spec_l10Dot_ev n _ _ _ _ κ).trans hr0⟩
    · cases hr

/-! loop.example/g01297/spec.NormOf -/
def spec_NormOf_sh : List SkD := [.agg [.int .i64, .int .i64]]
def spec_NormOf_C {α : Type} (n : Nat) : FuncId → List D → (Res → Option α) → Option α := tabC [(24, byShape spec_l01Is_sh (spec_l01Is_run n)), (25, byShape spec_l10Dot_sh (spec_l10Dot_run n))]
def spec_NormOf_M : FuncId → List Nat := tabM []
def spec_NormOf_lps {α : Type} : List (LoopT α) := []
def spec_NormOf_X {α : Type} (n : Nat) : Ctx α := ⟨spec_NormOf_C n, spec_NormOf_M, eqs, lpOf spec_NormOf_lps n⟩
def spec_NormOf_run {α : Type} (n : Nat) (p : List P1) (κ : Res → Option α) : Option α := match p with
  | [.int a, .int a1] => spec_NormOf n a a1 (fun v1 v2 => κ ⟨[.int .i64 v1, .int .i64 v2], []⟩)
  | _ => none
def spec_NormOf_Lt (np : Nat) (lent : List (Bool × Nat × Blk)) : Prop := np = 1 ∧ lent = []
theorem spec_NormOf_ev {α : Type} (n : Nat) (a : Int) (a1 : Int) (κ : Res → Option α) : evFn Try.prog (spec_NormOf_X n) Try.f9 (((buildDs spec_NormOf_sh [.int a, .int a1]).map Prod.fst).getD []) κ = spec_NormOf_run n [.int a, .int a1] κ := by kernel_rfl
theorem spec_NormOf_en (a : Int) (a1 : Int) : (entry 0 (((buildDs spec_NormOf_sh [.int a, .int a1]).map Prod.fst).getD [])).map (fun x => (x.1.length, x.2.lent)) = some (1, []) := by kernel_rfl
theorem spec_NormOf_good {α : Type} : ∀ n, GoodFn (α := α) Try.prog 9 (byShape spec_NormOf_sh (spec_NormOf_run n)) := by
  refine fn_good' Try.func9 (c := (Try.f9.body.getD .skip)) (by kernel_rfl) (by kernel_rfl) (by kernel_rfl) spec_NormOf_C spec_NormOf_M eqs spec_NormOf_lps (fun n => tabC_good (List.forall_mem_cons.2 ⟨spec_l01Is_good n, (List.forall_mem_cons.2 ⟨spec_l10Dot_good n, (fun _ h => absurd h List.not_mem_nil)⟩)⟩)) eqs_ok spec_NormOf_Lt ?_ ?_ spec_NormOf_sh spec_NormOf_run ?_
  · exact (fun _ h => absurd h List.not_mem_nil)
  · exact (fun _ h => absurd h List.not_mem_nil)
  · intro n p κ r ds hd hr
    have hr0 := hr
    unfold spec_NormOf_run at hr
    split at hr
    · rw [← ds_of hd]
      exact ⟨en_of (spec_NormOf_en _ _) ⟨rfl, rfl⟩, (spec_NormOf_ev n _ _ κ).trans hr0⟩
    · cases hr

/-! loop.example/g01297/impl.in -/
def impl_in_sh : List SkD := [.int .i64, .int .i64, .int .i64]
def impl_in_C {α : Type} (n : Nat) : FuncId → List D → (Res → Option α) → Option α := tabC []
def impl_in_M : FuncId → List Nat := tabM []
def impl_in_lps {α : Type} : List (LoopT α) := []
def impl_in_X {α : Type} (n : Nat) : Ctx α := ⟨impl_in_C n, impl_in_M, eqs, lpOf impl_in_lps n⟩
def impl_in_run {α : Type} (n : Nat) (p : List P1) (κ : Res → Option α) : Option α := match p with
  | [.int n_, .int low, .int high] => impl_in n n_ low high (fun v1 => κ ⟨[.bool v1], []⟩)
  | _ => none
def impl_in_Lt (np : Nat) (lent : List (Bool × Nat × Blk)) : Prop := np = 3 ∧ lent = []
theorem impl_in_ev {α : Type} (n : Nat) (n_ : Int) (low : Int) (high : Int) (κ : Res → Option α) : evFn Try.prog (impl_in_X n) Try.f46 (((buildDs impl_in_sh [.int n_, .int low, .int high]).map Prod.fst).getD []) κ = impl_in_run n [.int n_, .int low, .int high] κ := by kernel_rfl
theorem impl_in_en (n_ : Int) (low : Int) (high : Int) : (entry 0 (((buildDs impl_in_sh [.int n_, .int low, .int high]).map Prod.fst).getD [])).map (fun x => (x.1.length, x.2.lent)) = some (3, []) := by kernel_rfl
theorem impl_in_good {α : Type} : ∀ n, GoodFn (α := α) Try.prog 46 (byShape impl_in_sh (impl_in_run n)) := by
  refine fn_good' Try.func46 (c := (Try.f46.body.getD .skip)) (by kernel_rfl) (by kernel_rfl) (by kernel_rfl) impl_in_C impl_in_M eqs impl_in_lps (fun n => tabC_good (fun _ h => absurd h List.not_mem_nil)) eqs_ok impl_in_Lt ?_ ?_ impl_in_sh impl_in_run ?_
  · exact (fun _ h => absurd h List.not_mem_nil)
  · exact (fun _ h => absurd h List.not_mem_nil)
  · intro n p κ r ds hd hr
    have hr0 := hr
    unfold impl_in_run at hr
    split at hr
    · rw [← ds_of hd]
      exact ⟨en_of (impl_in_en _ _ _) ⟨rfl, rfl⟩, (impl_in_ev n _ _ _ κ).trans hr0⟩
    · cases hr

/-! loop.example/g01297/impl.isCoord -/
def impl_isCoord_sh : List SkD := [.int .i64]
def impl_isCoord_C {α : Type} (n : Nat) : FuncId → List D → (Res → Option α) → Option α := tabC [(46, byShape impl_in_sh (impl_in_run n))]
def impl_isCoord_M : FuncId → List Nat := tabM []
def impl_isCoord_lps {α : Type} : List (LoopT α) := []
def impl_isCoord_X {α : Type} (n : Nat) : Ctx α := ⟨impl_isCoord_C n, impl_isCoord_M, eqs, lpOf impl_isCoord_lps n⟩
def impl_isCoord_run {α : Type} (n : Nat) (p : List P1) (κ : Res → Option α) : Option α := match p with
  | [.int n_] => impl_isCoord n n_ (fun v1 => κ ⟨[.bool v1], []⟩)
  | _ => none
def impl_isCoord_Lt (np : Nat) (lent : List (Bool × Nat × Blk)) : Prop := np = 1 ∧ lent = []
theorem impl_isCoord_ev {α : Type} (n : Nat) (n_ : Int) (κ : Res → Option α) : evFn Try.prog (impl_isCoord_X n) Try.f32 (((buildDs impl_isCoord_sh [.int n_]).map Prod.fst).getD []) κ = impl_isCoord_run n [.int n_] κ := by kernel_rfl
theorem impl_isCoord_en (n_ : Int) : (entry 0 (((buildDs impl_isCoord_sh [.int n_]).map Prod.fst).getD [])).map (fun x => (x.1.length, x.2.lent)) = some (1, []) := by kernel_rfl
theorem impl_isCoord_good {α : Type} : ∀ n, GoodFn (α := α) Try.prog 32 (byShape impl_isCoord_sh (impl_isCoord_run n)) := by
  refine fn_good' Try.func32 (c := (Try.f32.body.getD .skip)) (by kernel_rfl) (by kernel_rfl) (by kernel_rfl) impl_isCoord_C impl_isCoord_M eqs impl_isCoord_lps (fun n => tabC_good (List.forall_mem_cons.2 ⟨impl_in_good n, (fun _ h => absurd h List.not_mem_nil)⟩)) eqs_ok impl_isCoord_Lt ?_ ?_ impl_isCoord_sh impl_isCoord_run ?_
  · exact (fun _ h => absurd h List.not_mem_nil)
  · exact (fun _ h => absurd h List.not_mem_nil)
  · intro n p κ r ds hd hr
    have hr0 := hr
    unfold impl_isCoord_run at hr
    split at hr
    · rw [← ds_of hd]
      exact ⟨en_of (impl_isCoord_en _) ⟨rfl, rfl⟩, (impl_isCoord_ev n _ κ).trans hr0⟩
    · cases hr

/-! loop.example/g01297/impl.IsPoint -/
def impl_IsPoint_sh : List SkD := [.agg [.int .i64, .int .i64]]
def impl_IsPoint_C {α : Type} (n : Nat) : FuncId → List D → (Res → Option α) → Option α := tabC [(32, byShape impl_isCoord_sh (impl_isCoord_run n))]
def impl_IsPoint_M : FuncId → List Nat := tabM []
def impl_IsPoint_lps {α : Type} : List (LoopT α) := []
def impl_IsPoint_X {α : Type} (n : Nat) : Ctx α := ⟨impl_IsPoint_C n, impl_IsPoint_M, eqs, lpOf impl_IsPoint_lps n⟩
def impl_IsPoint_run {α : Type} (n : Nat) (p : List P1) (κ : Res → Option α) : Option α := match p with
  | [.int a, .int a1] => impl_IsPoint n a a1 (fun v1 => κ ⟨[.bool v1], []⟩)
  | _ => none
def impl_IsPoint_Lt (np : Nat) (lent : List (Bool × Nat × Blk)) : Prop := np = 1 ∧ lent = []
theorem impl_IsPoint_ev {α : Type} (n : Nat) (a : Int) (a1 : Int) (κ : Res → Option α) : evFn Try.prog (impl_IsPoint_X n) Try.f26 (((buildDs impl_IsPoint_sh [.int a, .int a1]).map Prod.fst).getD []) κ = impl_IsPoint_run n [.int a, .int a1] κ := by kernel_rfl
theorem impl_IsPoint_en (a : Int) (a1 : Int) : (entry 0 (((buildDs impl_IsPoint_sh [.int a, .int a1]).map Prod.fst).getD [])).map (fun x => (x.1.length, x.2.lent)) = some (1, []) := by kernel_rfl
theorem impl_IsPoint_good {α : Type} : ∀ n, GoodFn (α := α) Try.prog 26 (byShape impl_IsPoint_sh (impl_IsPoint_run n)) := by
  refine fn_good' Try.func26 (c := (Try.f26.body.getD .skip)) (by kernel_rfl) (by kernel_rfl) (by kernel_rfl) impl_IsPoint_C impl_IsPoint_M eqs impl_IsPoint_lps (fun n => tabC_good (List.forall_mem_cons.2 ⟨impl_isCoord_good n, (fun _ h => absurd h List.not_mem_nil)⟩)) eqs_ok impl_IsPoint_Lt ?_ ?_ impl_IsPoint_sh impl_IsPoint_run ?_
  · exact (fun _ h => absurd h List.not_mem_nil)
  · exact (fun _ h => absurd h List.not_mem_nil)
  · intro n p κ r ds hd hr
    have hr0 := hr
    unfold impl_IsPoint_run at hr
    split at hr
    · rw [← ds_of hd]
      exact ⟨en_of (impl_IsPoint_en _ _) ⟨rfl, rfl⟩, (impl_IsPoint_ev n _ _ κ).trans hr0⟩
    · cases hr

/-! loop.example/g01297/impl.dot -/
def impl_dot_sh : List SkD := [.agg [.int .i64, .int .i64], .agg [.int .i64, .int .i64]]
def impl_dot_C {α : Type} (n : Nat) : FuncId → List D → (Res → Option α) → Option α := tabC []
def impl_dot_M : FuncId → List Nat := tabM []
def impl_dot_lps {α : Type} : List (LoopT α) := []
def impl_dot_X {α : Type} (n : Nat) : Ctx α := ⟨impl_dot_C n, impl_dot_M, eqs, lpOf impl_dot_lps n⟩
def impl_dot_run {α : Type} (n : Nat) (p : List P1) (κ : Res → Option α) : Option α := match p with
  | [.int a, .int a1, .int b_, .int b_1] => impl_dot n a a1 b_ b_1 (fun v1 => κ ⟨[.int .i64 v1], []⟩)
  | _ => none
def impl_dot_Lt (np : Nat) (lent : List (Bool × Nat × Blk)) : Prop := np = 2 ∧ lent = []
theorem impl_dot_ev {α : Type} (n : Nat) (a : Int) (a1 : Int) (b_ : Int) (b_1 : Int) (κ : Res → Option α) : evFn Try.prog (impl_dot_X n) Try.f44 (((buildDs impl_dot_sh [.int a, .int a1, .int b_, .int b_1]).map Prod.fst).getD []) κ = impl_dot_run n [.int a, .int a1, .int b_, .int b_1] κ := by kernel_rfl
theorem impl_dot_en (a : Int) (a1 : Int) (b_ : Int) (b_1 : Int) : (entry 0 (((buildDs impl_dot_sh [.int a, .int a1, .int b_, .int b_1]).map Prod.fst).getD [])).map (fun x => (x.1.length, x.2.lent)) = some (2, []) := by kernel_rfl
theorem impl_dot_good {α : Type} : ∀ n, GoodFn (α := α) Try.prog 44 (byShape impl_dot_sh (impl_dot_run n)) := by
  refine fn_good' Try.func44 (c := (Try.f44.body.getD .skip)) (by kernel_rfl) (by kernel_rfl) (by kernel_rfl) impl_dot_C impl_dot_M eqs impl_dot_lps (fun n => tabC_good (fun _ h => absurd h List.not_mem_nil)) eqs_ok impl_dot_Lt ?_ ?_ impl_dot_sh impl_dot_run ?_
  · exact (fun _ h => absurd h List.not_mem_nil)
  · exact (fun _ h => absurd h List.not_mem_nil)
  · intro n p κ r ds hd hr
    have hr0 := hr
    unfold impl_dot_run at hr
    split at hr
    · rw [← ds_of hd]
      exact ⟨en_of (impl_dot_en _ _ _ _) ⟨rfl, rfl⟩, (impl_dot_ev n _ _ _ _ κ).trans hr0⟩
    · cases hr

/-! (loop.example/g01297/impl.Point).norm -/
def impl_Point_norm_sh : List SkD := [.agg [.int .i64, .int .i64]]
def impl_Point_norm_C {α : Type} (n : Nat) : FuncId → List D → (Res → Option α) → Option α := tabC [(44, byShape impl_dot_sh (impl_dot_run n))]
def impl_Point_norm_M : FuncId → List Nat := tabM []
def impl_Point_norm_lps {α : Type} : List (LoopT α) := []
def impl_Point_norm_X {α : Type} (n : Nat) : Ctx α := ⟨impl_Point_norm_C n, impl_Point_norm_M, eqs, lpOf impl_Point_norm_lps n⟩
def impl_Point_norm_run {α : Type} (n : Nat) (p : List P1) (κ : Res → Option α) : Option α := match p with
  | [.int a, .int a1] => impl_Point_norm n a a1 (fun v1 => κ ⟨[.int .i64 v1], []⟩)
  | _ => none
def impl_Point_norm_Lt (np : Nat) (lent : List (Bool × Nat × Blk)) : Prop := np = 1 ∧ lent = []
theorem impl_Point_norm_ev {α : Type} (n : Nat) (a : Int) (a1 : Int) (κ : Res → Option α) : evFn Try.prog (impl_Point_norm_X n) Try.f27 (((buildDs impl_Point_norm_sh [.int a, .int a1]).map Prod.fst).getD []) κ = impl_Point_norm_run n [.int a, .int a1] κ := by kernel_rfl
theorem impl_Point_norm_en (a : Int) (a1 : Int) : (entry 0 (((buildDs impl_Point_norm_sh [.int a, .int a1]).map Prod.fst).getD [])).map (fun x => (x.1.length, x.2.lent)) = some (1, []) := by kernel_rfl
theorem impl_Point_norm_good {α : Type} : ∀ n, GoodFn (α := α) Try.prog 27 (byShape impl_Point_norm_sh (impl_Point_norm_run n)) := by
  refine fn_good' Try.func27 (c := (Try.f27.body.getD .skip)) (by kernel_rfl) (by kernel_rfl) (by kernel_rfl) impl_Point_norm_C impl_Point_norm_M eqs impl_Point_norm_lps (fun n => tabC_good (List.forall_mem_cons.2 ⟨impl_dot_good n, (fun _ h => absurd h List.not_mem_nil)⟩)) eqs_ok impl_Point_norm_Lt ?_ ?_ impl_Point_norm_sh impl_Point_norm_run ?_
  · exact (fun _ h => absurd h List.not_mem_nil)
  · exact (fun _ h => absurd h List.not_mem_nil)
  · intro n p κ r ds hd hr
    have hr0 := hr
    unfold impl_Point_norm_run at hr
    split at hr
    · rw [← ds_of hd]
      exact ⟨en_of (impl_Point_norm_en _ _) ⟨rfl, rfl⟩, (impl_Point_norm_ev n _ _ κ).trans hr0⟩
    · cases hr

/-! loop.example/g01297/impl.NormOf -/
def impl_NormOf_sh : List SkD := [.agg [.int .i64, .int .i64]]
def impl_NormOf_C {α : Type} (n : Nat) : FuncId → List D → (Res → Option α) → Option α := tabC [(26, byShape impl_IsPoint_sh (impl_IsPoint_run n)), (27, byShape impl_Point_norm_sh (impl_Point_norm_run n))]
def impl_NormOf_M : FuncId → List Nat := tabM []
def impl_NormOf_lps {α : Type} : List (LoopT α) := []
def impl_NormOf_X {α : Type} (n : Nat) : Ctx α := ⟨impl_NormOf_C n, impl_NormOf_M, eqs, lpOf impl_NormOf_lps n⟩
def impl_NormOf_run {α : Type} (n : Nat) (p : List P1) (κ : Res → Option α) : Option α := match p with
  | [.int a, .int a1] => impl_NormOf n a a1 (fun v1 v2 => κ ⟨[.int .i64 v1, .int .i64 v2], []⟩)
  | _ => none
def impl_NormOf_Lt (np : Nat) (lent : List (Bool × Nat × Blk)) : Prop := np = 1 ∧ lent = []
theorem impl_NormOf_ev {α : Type} (n : Nat) (a : Int) (a1 : Int) (κ : Res → Option α) : evFn Try.prog (impl_NormOf_X n) Try.f11 (((buildDs impl_NormOf_sh [.int a, .int a1]).map Prod.fst).getD []) κ = impl_NormOf_run n [.int a, .int a1] κ := by kernel_rfl
theorem impl_NormOf_en (a : Int) (a1 : Int) : (entry 0 (((buildDs impl_NormOf_sh [.int a, .int a1]).map Prod.fst).getD [])).map (fun x => (x.1.length, x.2.lent)) = some (1, []) := by kernel_rfl
theorem impl_NormOf_good {α : Type} : ∀ n, GoodFn (α := α) Try.prog 11 (byShape impl_NormOf_sh (impl_NormOf_run n)) := by
  refine fn_good' Try.func11 (c := (Try.f11.body.getD .skip)) (by kernel_rfl) (by kernel_rfl) (by kernel_rfl) impl_NormOf_C impl_NormOf_M eqs impl_NormOf_lps (fun n => tabC_good (List.forall_mem_cons.2 ⟨impl_IsPoint_good n, (List.forall_mem_cons.2 ⟨impl_Point_norm_good n, (fun _ h => absurd h List.not_mem_nil)⟩)⟩)) eqs_ok impl_NormOf_Lt ?_ ?_ impl_NormOf_sh impl_NormOf_run ?_
  · exact (fun _ h => absurd h List.not_mem_nil)
  · exact (fun _ h => absurd h List.not_mem_nil)
  · intro n p κ r ds hd hr
    have hr0 := hr
    unfold impl_NormOf_run at hr
    split at hr
    · rw [← ds_of hd]
      exact ⟨en_of (impl_NormOf_en _ _) ⟨rfl, rfl⟩, (impl_NormOf_ev n _ _ κ).trans hr0⟩
    · cases hr

/-! loop.example/g01297/laws.FnExactNormOf -/
def laws_FnExactNormOf_sh : List SkD := [.agg [.int .i64, .int .i64]]
def laws_FnExactNormOf_C {α : Type} (n : Nat) : FuncId → List D → (Res → Option α) → Option α := tabC [(10, byShape laws_toPoint_sh (laws_toPoint_run n)), (9, byShape spec_NormOf_sh (spec_NormOf_run n)), (11, byShape impl_NormOf_sh (impl_NormOf_run n))]
def laws_FnExactNormOf_M : FuncId → List Nat := tabM []
def laws_FnExactNormOf_lps {α : Type} : List (LoopT α) := []
def laws_FnExactNormOf_X {α : Type} (n : Nat) : Ctx α := ⟨laws_FnExactNormOf_C n, laws_FnExactNormOf_M, eqs, lpOf laws_FnExactNormOf_lps n⟩
def laws_FnExactNormOf_run {α : Type} (n : Nat) (p : List P1) (κ : Res → Option α) : Option α := match p with
  | [.int aA, .int aA1] => laws_FnExactNormOf n aA aA1 (fun v1 => κ ⟨[.bool v1], []⟩)
  | _ => none
def laws_FnExactNormOf_Lt (np : Nat) (lent : List (Bool × Nat × Blk)) : Prop := np = 1 ∧ lent = []
theorem laws_FnExactNormOf_ev {α : Type} (n : Nat) (aA : Int) (aA1 : Int) (κ : Res → Option α) : evFn Try.prog (laws_FnExactNormOf_X n) Try.f3 (((buildDs laws_FnExactNormOf_sh [.int aA, .int aA1]).map Prod.fst).getD []) κ = laws_FnExactNormOf_run n [.int aA, .int aA1] κ := by kernel_rfl
theorem laws_FnExactNormOf_en (aA : Int) (aA1 : Int) : (entry 0 (((buildDs laws_FnExactNormOf_sh [.int aA, .int aA1]).map Prod.fst).getD [])).map (fun x => (x.1.length, x.2.lent)) = some (1, []) := by kernel_rfl
theorem laws_FnExactNormOf_good {α : Type} : ∀ n, GoodFn (α := α) Try.prog 3 (byShape laws_FnExactNormOf_sh (laws_FnExactNormOf_run n)) := by
  refine fn_good' Try.func3 (c := (Try.f3.body.getD .skip)) (by kernel_rfl) (by kernel_rfl) (by kernel_rfl) laws_FnExactNormOf_C laws_FnExactNormOf_M eqs laws_FnExactNormOf_lps (fun n => tabC_good (List.forall_mem_cons.2 ⟨laws_toPoint_good n, (List.forall_mem_cons.2 ⟨spec_NormOf_good n, (List.forall_mem_cons.2 ⟨impl_NormOf_good n, (fun _ h => absurd h List.not_mem_nil)⟩)⟩)⟩)) eqs_ok laws_FnExactNormOf_Lt ?_ ?_ laws_FnExactNormOf_sh laws_FnExactNormOf_run ?_
  · exact (fun _ h => absurd h List.not_mem_nil)
  · exact (fun _ h => absurd h List.not_mem_nil)
  · intro n p κ r ds hd hr
    have hr0 := hr
    unfold laws_FnExactNormOf_run at hr
    split at hr
    · rw [← ds_of hd]
      exact ⟨en_of (laws_FnExactNormOf_en _ _) ⟨rfl, rfl⟩, (laws_FnExactNormOf_ev n _ _ κ).trans hr0⟩
    · cases hr

/-! loop.example/g01297/spec.l10Ratio -/
def spec_l10Ratio_sh : List SkD := [.int .i64, .int .i64, .int .i64]
def spec_l10Ratio_C {α : Type} (n : Nat) : FuncId → List D → (Res → Option α) → Option α := tabC [(29, byShape spec_l01Fits_sh (spec_l01Fits_run n)), (45, byShape spec_l01In_sh (spec_l01In_run n))]
def spec_l10Ratio_M : FuncId → List Nat := tabM []
def spec_l10Ratio_lps {α : Type} : List (LoopT α) := []
def spec_l10Ratio_X {α : Type} (n : Nat) : Ctx α := ⟨spec_l10Ratio_C n, spec_l10Ratio_M, eqs, lpOf spec_l10Ratio_lps n⟩
def spec_l10Ratio_run {α : Type} (n : Nat) (p : List P1) (κ : Res → Option α) : Option α := match p with
  | [.int p_, .int q_, .int low] => spec_l10Ratio n p_ q_ low (fun v1 => κ ⟨[.bool v1], []⟩)
  | _ => none
def spec_l10Ratio_Lt (np : Nat) (lent : List (Bool × Nat × Blk)) : Prop := np = 3 ∧ lent = []
theorem spec_l10Ratio_ev {α : Type} (n : Nat) (p_ : Int) (q_ : Int) (low : Int) (κ : Res → Option α) : evFn Try.prog (spec_l10Ratio_X n) Try.f28 (((buildDs spec_l10Ratio_sh [.int p_, .int q_, .int low]).map Prod.fst).getD []) κ = spec_l10Ratio_run n [.int p_, .int q_, .int low] κ := by kernel_rfl
theorem spec_l10Ratio_en (p_ : Int) (q_ : Int) (low : Int) : (entry 0 (((buildDs spec_l10Ratio_sh [.int p_, .int q_, .int low]).map Prod.fst).getD [])).map (fun x => (x.1.length, x.2.lent)) = some (3, []) := by kernel_rfl
theorem spec_l10Ratio_good {α : Type} : ∀ n, GoodFn (α := α) Try.prog 28 (byShape spec_l10Ratio_sh (spec_l10Ratio_run n)) := by
  refine fn_good' Try.func28 (c := (Try.f28.body.getD .skip)) (by kernel_rfl) (by kernel_rfl) (by kernel_rfl) spec_l10Ratio_C spec_l10Ratio_M eqs spec_l10Ratio_lps (fun n => tabC_good (List.forall_mem_cons.2 ⟨spec_l01Fits_good n, (List.forall_mem_cons.2 ⟨spec_l01In_good n, (fun _ h => absurd h List.not_mem_nil)⟩)⟩)) eqs_ok spec_l10Ratio_Lt ?_ ?_ spec_l10Ratio_sh spec_l10Ratio_run ?_
  · exact (fun _ h => absurd h List.not_mem_nil)
  · exact (fun _ h => absurd h List.not_mem_nil)
  · intro n p κ r ds hd hr
    have hr0 := hr
    unfold spec_l10Ratio_run at hr
    split at hr
    · rw [← ds_of hd]
      exact ⟨en_of (spec_l10Ratio_en _ _ _) ⟨rfl, rfl⟩, (spec_l10Ratio_ev n _ _ _ κ).trans hr0⟩
    · cases hr

/-! loop.example/g01297/spec.l01Rest -/
def spec_l01Rest_sh : List SkD := [.int .i64, .int .i64]
def spec_l01Rest_C {α : Type} (n : Nat) : FuncId → List D → (Res → Option α) → Option α := tabC []
def spec_l01Rest_M : FuncId → List Nat := tabM []
def spec_l01Rest_lps {α : Type} : List (LoopT α) := []
def spec_l01Rest_X {α : Type} (n : Nat) : Ctx α := ⟨spec_l01Rest_C n, spec_l01Rest_M, eqs, lpOf spec_l01Rest_lps n⟩
def spec_l01Rest_run {α : Type} (n : Nat) (p : List P1) (κ : Res → Option α) : Option α := match p with
  | [.int n_, .int x] => spec_l01Rest n n_ x (fun v1 => κ ⟨[.int .i64 v1], []⟩)
  | _ => none
def spec_l01Rest_Lt (np : Nat) (lent : List (Bool × Nat × Blk)) : Prop := np = 2 ∧ lent = []
theorem spec_l01Rest_ev {α : Type} (n : Nat) (n_ : Int) (x : Int) (κ : Res → Option α) : evFn Try.prog (spec_l01Rest_X n) Try.f30 (((buildDs spec_l01Rest_sh [.int n_, .int x]).map Prod.fst).getD []) κ = spec_l01Rest_run n [.int n_, .int x] κ := by kernel_rfl
theorem spec_l01Rest_en (n_ : Int) (x : Int) : (entry 0 (((buildDs spec_l01Rest_sh [.int n_, .int x]).map Prod.fst).getD [])).map (fun x => (x.1.length, x.2.lent)) = some (2, []) := by kernel_rfl
theorem spec_l01Rest_good {α : Type} : ∀ n, GoodFn (α := α) Try.prog 30 (byShape spec_l01Rest_sh (spec_l01Rest_run n)) := by
  refine fn_good' Try.func30 (c := (Try.f30.body.getD .skip)) (by kernel_rfl) (by kernel_rfl) (by kernel_rfl) spec_l01Rest_C spec_l01Rest_M eqs spec_l01Rest_lps (fun n => tabC_good (fun _ h => absurd h List.not_mem_nil)) eqs_ok spec_l01Rest_Lt ?_ ?_ spec_l01Rest_sh spec_l01Rest_run ?_
  · exact (fun _ h => absurd h List.not_mem_nil)
  · exact (fun _ h => absurd h List.not_mem_nil)
  · intro n p κ r ds hd hr
    have hr0 := hr
    unfold spec_l01Rest_run at hr
    split at hr
    · rw [← ds_of hd]
      exact ⟨en_of (spec_l01Rest_en _ _) ⟨rfl, rfl⟩, (spec_l01Rest_ev n _ _ κ).trans hr0⟩
    · cases hr

/-! loop.example/g01297/spec.PlaceOf -/
def spec_PlaceOf_sh : List SkD := [.int .i64, .int .i64, .int .i64]
def spec_PlaceOf_C {α : Type} (n : Nat) : FuncId → List D → (Res → Option α) → Option α := tabC [(28, byShape spec_l10Ratio_sh (spec_l10Ratio_run n)), (29, byShape spec_l01Fits_sh (spec_l01Fits_run n)), (30, byShape spec_l01Rest_sh (spec_l01Rest_run n))]
def spec_PlaceOf_M : FuncId → List Nat := tabM []
def spec_PlaceOf_lps {α : Type} : List (LoopT α) := []
def spec_PlaceOf_X {α : Type} (n : Nat) : Ctx α := ⟨spec_PlaceOf_C n, spec_PlaceOf_M, eqs, lpOf spec_PlaceOf_lps n⟩
def spec_PlaceOf_run {α : Type} (n : Nat) (p : List P1) (κ : Res → Option α) : Option α := match p with
  | [.int p_, .int q_, .int k_] => spec_PlaceOf n p_ q_ k_ (fun v1 v2 => κ ⟨[.int .i64 v1, .int .i64 v2], []⟩)
  | _ => none
def spec_PlaceOf_Lt (np : Nat) (lent : List (Bool × Nat × Blk)) : Prop := np = 3 ∧ lent = []
theorem spec_PlaceOf_ev {α : Type} (n : Nat) (p_ : Int) (q_ : Int) (k_ : Int) (κ : Res → Option α) : evFn Try.prog (spec_PlaceOf_X n) Try.f12 (((buildDs spec_PlaceOf_sh [.int p_, .int q_, .int k_]).map Prod.fst).getD []) κ = spec_PlaceOf_run n [.int p_, .int q_, .int k_] κ := by kernel_rfl
theorem spec_PlaceOf_en (p_ : Int) (q_ : Int) (k_ : Int) : (entry 0 (((buildDs spec_PlaceOf_sh [.int p_, .int q_, .int k_]).map Prod.fst).getD [])).map (fun x => (x.1.length, x.2.lent)) = some (3, []) := by kernel_rfl
theorem spec_PlaceOf_good {α : Type} : ∀ n, GoodFn (α := α) Try.prog 12 (byShape spec_PlaceOf_sh (spec_PlaceOf_run n)) := by
  refine fn_good' Try.func12 (c := (Try.f12.body.getD .skip)) (by kernel_rfl) (by kernel_rfl) (by kernel_rfl) spec_PlaceOf_C spec_PlaceOf_M eqs spec_PlaceOf_lps (fun n => tabC_good (List.forall_mem_cons.2 ⟨spec_l10Ratio_good n, (List.forall_mem_cons.2 ⟨spec_l01Fits_good n, (List.forall_mem_cons.2 ⟨spec_l01Rest_good n, (fun _ h => absurd h List.not_mem_nil)⟩)⟩)⟩)) eqs_ok spec_PlaceOf_Lt ?_ ?_ spec_PlaceOf_sh spec_PlaceOf_run ?_
  · exact (fun _ h => absurd h List.not_mem_nil)
  · exact (fun _ h => absurd h List.not_mem_nil)
  · intro n p κ r ds hd hr
    have hr0 := hr
    unfold spec_PlaceOf_run at hr
    split at hr
    · rw [← ds_of hd]
      exact ⟨en_of (spec_PlaceOf_en _ _ _) ⟨rfl, rfl⟩, (spec_PlaceOf_ev n _ _ _ κ).trans hr0⟩
    · cases hr

/-! loop.example/g01297/impl.ratioOk -/
def impl_ratioOk_sh : List SkD := [.int .i64, .int .i64]
def impl_ratioOk_C {α : Type} (n : Nat) : FuncId → List D → (Res → Option α) → Option α := tabC [(32, byShape impl_isCoord_sh (impl_isCoord_run n)), (46, byShape impl_in_sh (impl_in_run n))]
def impl_ratioOk_M : FuncId → List Nat := tabM []
def impl_ratioOk_lps {α : Type} : List (LoopT α) := []
def impl_ratioOk_X {α : Type} (n : Nat) : Ctx α := ⟨impl_ratioOk_C n, impl_ratioOk_M, eqs, lpOf impl_ratioOk_lps n⟩
def impl_ratioOk_run {α : Type} (n : Nat) (p : List P1) (κ : Res → Option α) : Option α := match p with
  | [.int p_, .int q_] => impl_ratioOk n p_ q_ (fun v1 => κ ⟨[.bool v1], []⟩)
  | _ => none
def impl_ratioOk_Lt (np : Nat) (lent : List (Bool × Nat × Blk)) : Prop := np = 2 ∧ lent = []
theorem impl_ratioOk_ev {α : Type} (n : Nat) (p_ : Int) (q_ : Int) (κ : Res → Option α) : evFn Try.prog (impl_ratioOk_X n) Try.f37 (((buildDs impl_ratioOk_sh [.int p_, .int q_]).map Prod.fst).getD []) κ = impl_ratioOk_run n [.int p_, .int q_] κ := by kernel_rfl
theorem impl_ratioOk_en (p_ : Int) (q_ : Int) : (entry 0 (((buildDs impl_ratioOk_sh [.int p_, .int q_]).map Prod.fst).getD [])).map (fun x => (x.1.length, x.2.lent)) = some (2, []) := by kernel_rfl
theorem impl_ratioOk_good {α : Type} : ∀ n, GoodFn (α := α) Try.prog 37 (byShape impl_ratioOk_sh (impl_ratioOk_run n)) := by
  refine fn_good' Try.func37 (c := (Try.f37.body.getD .skip)) (by kernel_rfl) (by kernel_rfl) (by kernel_rfl) impl_ratioOk_C impl_ratioOk_M eqs impl_ratioOk_lps (fun n => tabC_good (List.forall_mem_cons.2 ⟨impl_isCoord_good n, (List.forall_mem_cons.2 ⟨impl_in_good n, (fun _ h => absurd h List.not_mem_nil)⟩)⟩)) eqs_ok impl_ratioOk_Lt ?_ ?_ impl_ratioOk_sh impl_ratioOk_run ?_
  · exact (fun _ h => absurd h List.not_mem_nil)
  · exact (fun _ h => absurd h List.not_mem_nil)
  · intro n p κ r ds hd hr
    have hr0 := hr
    unfold impl_ratioOk_run at hr
    split at hr
    · rw [← ds_of hd]
      exact ⟨en_of (impl_ratioOk_en _ _) ⟨rfl, rfl⟩, (impl_ratioOk_ev n _ _ κ).trans hr0⟩
    · cases hr

/-! loop.example/g01297/impl.placesOk -/
def impl_placesOk_sh : List SkD := [.int .i64, .int .i64]
def impl_placesOk_C {α : Type} (n : Nat) : FuncId → List D → (Res → Option α) → Option α := tabC [(37, byShape impl_ratioOk_sh (impl_ratioOk_run n))]
def impl_placesOk_M : FuncId → List Nat := tabM []
def impl_placesOk_lps {α : Type} : List (LoopT α) := []
def impl_placesOk_X {α : Type} (n : Nat) : Ctx α := ⟨impl_placesOk_C n, impl_placesOk_M, eqs, lpOf impl_placesOk_lps n⟩
def impl_placesOk_run {α : Type} (n : Nat) (p : List P1) (κ : Res → Option α) : Option α := match p with
  | [.int p_, .int q_] => impl_placesOk n p_ q_ (fun v1 => κ ⟨[.bool v1], []⟩)
  | _ => none
def impl_placesOk_Lt (np : Nat) (lent : List (Bool × Nat × Blk)) : Prop := np = 2 ∧ lent = []
theorem impl_placesOk_ev {α : Type} (n : Nat) (p_ : Int) (q_ : Int) (κ : Res → Option α) : evFn Try.prog (impl_placesOk_X n) Try.f31 (((buildDs impl_placesOk_sh [.int p_, .int q_]).map Prod.fst).getD []) κ = impl_placesOk_run n [.int p_, .int q_] κ := by kernel_rfl
theorem impl_placesOk_en (p_ : Int) (q_ : Int) : (entry 0 (((buildDs impl_placesOk_sh [.int p_, .int q_]).map Prod.fst).getD [])).map (fun x => (x.1.length, x.2.lent)) = some (2, []) := by kernel_rfl
theorem impl_placesOk_good {α : Type} : ∀ n, GoodFn (α := α) Try.prog 31 (byShape impl_placesOk_sh (impl_placesOk_run n)) := by
  refine fn_good' Try.func31 (c := (Try.f31.body.getD .skip)) (by kernel_rfl) (by kernel_rfl) (by kernel_rfl) impl_placesOk_C impl_placesOk_M eqs impl_placesOk_lps (fun n => tabC_good (List.forall_mem_cons.2 ⟨impl_ratioOk_good n, (fun _ h => absurd h List.not_mem_nil)⟩)) eqs_ok impl_placesOk_Lt ?_ ?_ impl_placesOk_sh impl_placesOk_run ?_
  · exact (fun _ h => absurd h List.not_mem_nil)
  · exact (fun _ h => absurd h List.not_mem_nil)
  · intro n p κ r ds hd hr
    have hr0 := hr
    unfold impl_placesOk_run at hr
    split at hr
    · rw [← ds_of hd]
      exact ⟨en_of (impl_placesOk_en _ _) ⟨rfl, rfl⟩, (impl_placesOk_ev n _ _ κ).trans hr0⟩
    · cases hr

/-! loop.example/g01297/impl.floor -/
def impl_floor_sh : List SkD := [.int .i64, .int .i64]
def impl_floor_C {α : Type} (n : Nat) : FuncId → List D → (Res → Option α) → Option α := tabC []
def impl_floor_M : FuncId → List Nat := tabM []
def impl_floor_lps {α : Type} : List (LoopT α) := []
def impl_floor_X {α : Type} (n : Nat) : Ctx α := ⟨impl_floor_C n, impl_floor_M, eqs, lpOf impl_floor_lps n⟩
def impl_floor_run {α : Type} (n : Nat) (p : List P1) (κ : Res → Option α) : Option α := match p with
  | [.int a, .int b_] => impl_floor n a b_ (fun v1 => κ ⟨[.int .i64 v1], []⟩)
  | _ => none
def impl_floor_Lt (np : Nat) (lent : List (Bool × Nat × Blk)) : Prop := np = 2 ∧ lent = []
theorem impl_floor_ev {α : Type} (n : Nat) (a : Int) (b_ : Int) (κ : Res → Option α) : evFn Try.prog (impl_floor_X n) Try.f47 (((buildDs impl_floor_sh [.int a, .int b_]).map Prod.fst).getD []) κ = impl_floor_run n [.int a, .int b_] κ := by kernel_rfl
theorem impl_floor_en (a : Int) (b_ : Int) : (entry 0 (((buildDs impl_floor_sh [.int a, .int b_]).map Prod.fst).getD [])).map (fun x => (x.1.length, x.2.lent)) = some (2, []) := by kernel_rfl
theorem impl_floor_good {α : Type} : ∀ n, GoodFn (α := α) Try.prog 47 (byShape impl_floor_sh (impl_floor_run n)) := by
  refine fn_good' Try.func47 (c := (Try.f47.body.getD .skip)) (by kernel_rfl) (by kernel_rfl) (by kernel_rfl) impl_floor_C impl_floor_M eqs impl_floor_lps (fun n => tabC_good (fun _ h => absurd h List.not_mem_nil)) eqs_ok impl_floor_Lt ?_ ?_ impl_floor_sh impl_floor_run ?_
  · exact (fun _ h => absurd h List.not_mem_nil)
  · exact (fun _ h => absurd h List.not_mem_nil)
  · intro n p κ r ds hd hr
    have hr0 := hr
    unfold impl_floor_run at hr
    split at hr
    · rw [← ds_of hd]
      exact ⟨en_of (impl_floor_en _ _) ⟨rfl, rfl⟩, (impl_floor_ev n _ _ κ).trans hr0⟩
    · cases hr

/-! loop.example/g01297/impl.mod -/
def impl_mod_sh : List SkD := [.int .i64, .int .i64]
def impl_mod_C {α : Type} (n : Nat) : FuncId → List D → (Res → Option α) → Option α := tabC [(47, byShape impl_floor_sh (impl_floor_run n))]
def impl_mod_M : FuncId → List Nat := tabM []
def impl_mod_lps {α : Type} : List (LoopT α) := []
def impl_mod_X {α : Type} (n : Nat) : Ctx α := ⟨impl_mod_C n, impl_mod_M, eqs, lpOf impl_mod_lps n⟩
def impl_mod_run {α : Type} (n : Nat) (p : List P1) (κ : Res → Option α) : Option α := match p with
  | [.int a, .int b_] => impl_mod n a b_ (fun v1 => κ ⟨[.int .i64 v1], []⟩)
  | _ => none
def impl_mod_Lt (np : Nat) (lent : List (Bool × Nat × Blk)) : Prop := np = 2 ∧ lent = []
theorem impl_mod_ev {α : Type} (n : Nat) (a : Int) (b_ : Int) (κ : Res → Option α) : evFn Try.prog (impl_mod_X n) Try.f33 (((buildDs impl_mod_sh [.int a, .int b_]).map Prod.fst).getD []) κ = impl_mod_run n [.int a, .int b_] κ := by kernel_rfl
theorem impl_mod_en (a : Int) (b_ : Int) : (entry 0 (((buildDs impl_mod_sh [.int a, .int b_]).map Prod.fst).getD [])).map (fun x => (x.1.length, x.2.lent)) = some (2, []) := by kernel_rfl
theorem impl_mod_good {α : Type} : ∀ n, GoodFn (α := α) Try.prog 33 (byShape impl_mod_sh (impl_mod_run n)) := by
  refine fn_good' Try.func33 (c := (Try.f33.body.getD .skip)) (by kernel_rfl) (by kernel_rfl) (by kernel_rfl) impl_mod_C impl_mod_M eqs impl_mod_lps (fun n => tabC_good (List.forall_mem_cons.2 ⟨impl_floor_good n, (fun _ h => absurd h List.not_mem_nil)⟩)) eqs_ok impl_mod_Lt ?_ ?_ impl_mod_sh impl_mod_run ?_
  · exact (fun _ h => absurd h List.not_mem_nil)
  · exact (fun _ h => absurd h List.not_mem_nil)
  · intro n p κ r ds hd hr
    have hr0 := hr
    unfold impl_mod_run at hr
    split at hr
    · rw [← ds_of hd]
      exact ⟨en_of (impl_mod_en _ _) ⟨rfl, rfl⟩, (impl_mod_ev n _ _ κ).trans hr0⟩
    · cases hr

/-! loop.example/g01297/impl.PlaceOf -/
def impl_PlaceOf_sh : List SkD := [.int .i64, .int .i64, .int .i64]
def impl_PlaceOf_C {α : Type} (n : Nat) : FuncId → List D → (Res → Option α) → Option α := tabC [(31, byShape impl_placesOk_sh (impl_placesOk_run n)), (32, byShape impl_isCoord_sh (impl_isCoord_run n)), (33, byShape impl_mod_sh (impl_mod_run n))]
def impl_PlaceOf_M : FuncId → List Nat := tabM []
def impl_PlaceOf_lps {α : Type} : List (LoopT α) := []
def impl_PlaceOf_X {α : Type} (n : Nat) : Ctx α := ⟨impl_PlaceOf_C n, impl_PlaceOf_M, eqs, lpOf impl_PlaceOf_lps n⟩
def impl_PlaceOf_run {α : Type} (n : Nat) (p : List P1) (κ : Res → Option α) : Option α := match p with
  | [.int p_, .int q_, .int k_] => impl_PlaceOf n p_ q_ k_ (fun v1 v2 => κ ⟨[.int .i64 v1, .int .i64 v2], []⟩)
  | _ => none
def impl_PlaceOf_Lt (np : Nat) (lent : List (Bool × Nat × Blk)) : Prop := np = 3 ∧ lent = []
theorem impl_PlaceOf_ev {α : Type} (n : Nat) (p_ : Int) (q_ : Int) (k_ : Int) (κ : Res → Option α) : evFn Try.prog (impl_PlaceOf_X n) Try.f13 (((buildDs impl_PlaceOf_sh [.int p_, .int q_, .int k_]).map Prod.fst).getD []) κ = impl_PlaceOf_run n [.int p_, .int q_, .int k_] κ := by kernel_rfl
theorem impl_PlaceOf_en (p_ : Int) (q_ : Int) (k_ : Int) : (entry 0 (((buildDs impl_PlaceOf_sh [.int p_, .int q_, .int k_]).map Prod.fst).getD [])).map (fun x => (x.1.length, x.2.lent)) = some (3, []) := by kernel_rfl
theorem impl_PlaceOf_good {α : Type} : ∀ n, GoodFn (α := α) Try.prog 13 (byShape impl_PlaceOf_sh (impl_PlaceOf_run n)) := by
  refine fn_good' Try.func13 (c := (Try.f13.body.getD .skip)) (by kernel_rfl) (by kernel_rfl) (by kernel_rfl) impl_PlaceOf_C impl_PlaceOf_M eqs impl_PlaceOf_lps (fun n => tabC_good (List.forall_mem_cons.2 ⟨impl_placesOk_good n, (List.forall_mem_cons.2 ⟨impl_isCoord_good n, (List.forall_mem_cons.2 ⟨impl_mod_good n, (fun _ h => absurd h List.not_mem_nil)⟩)⟩)⟩)) eqs_ok impl_PlaceOf_Lt ?_ ?_ impl_PlaceOf_sh impl_PlaceOf_run ?_
  · exact (fun _ h => absurd h List.not_mem_nil)
  · exact (fun _ h => absurd h List.not_mem_nil)
  · intro n p κ r ds hd hr
    have hr0 := hr
    unfold impl_PlaceOf_run at hr
    split at hr
    · rw [← ds_of hd]
      exact ⟨en_of (impl_PlaceOf_en _ _ _) ⟨rfl, rfl⟩, (impl_PlaceOf_ev n _ _ _ κ).trans hr0⟩
    · cases hr

/-! loop.example/g01297/laws.FnExactPlaceOf -/
def laws_FnExactPlaceOf_sh : List SkD := [.int .i64, .int .i64, .int .i64]
def laws_FnExactPlaceOf_C {α : Type} (n : Nat) : FuncId → List D → (Res → Option α) → Option α := tabC [(12, byShape spec_PlaceOf_sh (spec_PlaceOf_run n)), (13, byShape impl_PlaceOf_sh (impl_PlaceOf_run n))]
def laws_FnExactPlaceOf_M : FuncId → List Nat := tabM []
def laws_FnExactPlaceOf_lps {α : Type} : List (LoopT α) := []
def laws_FnExactPlaceOf_X {α : Type} (n : Nat) : Ctx α := ⟨laws_FnExactPlaceOf_C n, laws_FnExactPlaceOf_M, eqs, lpOf laws_FnExactPlaceOf_lps n⟩
def laws_FnExactPlaceOf_run {α : Type} (n : Nat) (p : List P1) (κ : Res → Option α) : Option α := match p with
  | [.int aP, .int aQ, .int aK] => laws_FnExactPlaceOf n aP aQ aK (fun v1 => κ ⟨[.bool v1], []⟩)
  | _ => none
def laws_FnExactPlaceOf_Lt (np : Nat) (lent : List (Bool × Nat × Blk)) : Prop := np = 3 ∧ lent = []
theorem laws_FnExactPlaceOf_ev {α : Type} (n : Nat) (aP : Int) (aQ : Int) (aK : Int) (κ : Res → Option α) : evFn Try.prog (laws_FnExactPlaceOf_X n) Try.f4 (((buildDs laws_FnExactPlaceOf_sh [.int aP, .int aQ, .int aK]).map Prod.fst).getD []) κ = laws_FnExactPlaceOf_run n [.int aP, .int aQ, .int aK] κ := by kernel_rfl
theorem laws_FnExactPlaceOf_en (aP : Int) (aQ : Int) (aK : Int) : (entry 0 (((buildDs laws_FnExactPlaceOf_sh [.int aP, .int aQ, .int aK]).map Prod.fst).getD [])).map (fun x => (x.1.length, x.2.lent)) = some (3, []) := by kernel_rfl
theorem laws_FnExactPlaceOf_good {α : Type} : ∀ n, GoodFn (α := α) Try.prog 4 (byShape laws_FnExactPlaceOf_sh (laws_FnExactPlaceOf_run n)) := by
  refine fn_good' Try.func4 (c := (Try.f4.body.getD .skip)) (by kernel_rfl) (by kernel_rfl) (by kernel_rfl) laws_FnExactPlaceOf_C laws_FnExactPlaceOf_M eqs laws_FnExactPlaceOf_lps (fun n => tabC_good (List.forall_mem_cons.2 ⟨spec_PlaceOf_good n, (List.forall_mem_cons.2 ⟨impl_PlaceOf_good n, (fun _ h => absurd h List.not_mem_nil)⟩)⟩)) eqs_ok laws_FnExactPlaceOf_Lt ?_ ?_ laws_FnExactPlaceOf_sh laws_FnExactPlaceOf_run ?_
  · exact (fun _ h => absurd h List.not_mem_nil)
  · exact (fun _ h => absurd h List.not_mem_nil)
  · intro n p κ r ds hd hr
    have hr0 := hr
    unfold laws_FnExactPlaceOf_run at hr
    split at hr
    · rw [← ds_of hd]
      exact ⟨en_of (laws_FnExactPlaceOf_en _ _ _) ⟨rfl, rfl⟩, (laws_FnExactPlaceOf_ev n _ _ _ κ).trans hr0⟩
    · cases hr

/-! loop.example/g01297/laws.toForm -/
def laws_toForm_sh : List SkD := [.agg [.int .i64, .int .i64, .int .i64]]
def laws_toForm_C {α : Type} (n : Nat) : FuncId → List D → (Res → Option α) → Option α := tabC []
def laws_toForm_M : FuncId → List Nat := tabM []
def laws_toForm_lps {α : Type} : List (LoopT α) := []
def laws_toForm_X {α : Type} (n : Nat) : Ctx α := ⟨laws_toForm_C n, laws_toForm_M, eqs, lpOf laws_toForm_lps n⟩
def laws_toForm_run {α : Type} (n : Nat) (p : List P1) (κ : Res → Option α) : Option α := match p with
  | [.int a, .int a1, .int a2] => laws_toForm n a a1 a2 (fun v1 v2 v3 => κ ⟨[.agg [.int .i64 v1, .int .i64 v2, .int .i64 v3]], []⟩)
  | _ => none
def laws_toForm_Lt (np : Nat) (lent : List (Bool × Nat × Blk)) : Prop := np = 1 ∧ lent = []
theorem laws_toForm_ev {α : Type} (n : Nat) (a : Int) (a1 : Int) (a2 : Int) (κ : Res → Option α) : evFn Try.prog (laws_toForm_X n) Try.f15 (((buildDs laws_toForm_sh [.int a, .int a1, .int a2]).map Prod.fst).getD []) κ = laws_toForm_run n [.int a, .int a1, .int a2] κ := by kernel_rfl
theorem laws_toForm_en (a : Int) (a1 : Int) (a2 : Int) : (entry 0 (((buildDs laws_toForm_sh [.int a, .int a1, .int a2]).map Prod.fst).getD [])).map (fun x => (x.1.length, x.2.lent)) = some (1, []) := by kernel_rfl
theorem laws_toForm_good {α : Type} : ∀ n, GoodFn (α := α) Try.prog 15 (byShape laws_toForm_sh (laws_toForm_run n)) := by
  refine fn_good' Try.func15 (c := (Try.f15.body.getD .skip)) (by kernel_rfl) (by kernel_rfl) (by kernel_rfl) laws_toForm_C laws_toForm_M eqs laws_toForm_lps (fun n => tabC_good (fun _ h => absurd h List.not_mem_nil)) eqs_ok laws_toForm_Lt ?_ ?_ laws_toForm_sh laws_toForm_run ?_
  · exact (fun _ h => absurd h List.not_mem_nil)
  · exact (fun _ h => absurd h List.not_mem_nil)
  · intro n p κ r ds hd hr
    have hr0 := hr
    unfold laws_toForm_run at hr
    split at hr
    · rw [← ds_of hd]
      exact ⟨en_of (laws_toForm_en _ _ _) ⟨rfl, rfl⟩, (laws_toForm_ev n _ _ _ κ).trans hr0⟩
    · cases hr

/-! loop.example/g01297/spec.l06Disc -/
def spec_l06Disc_sh : List SkD := [.agg [.int .i64, .int .i64, .int .i64]]
def spec_l06Disc_C {α : Type} (n : Nat) : FuncId → List D → (Res → Option α) → Option α := tabC []
def spec_l06Disc_M : FuncId → List Nat := tabM []
def spec_l06Disc_lps {α : Type} : List (LoopT α) := []
def spec_l06Disc_X {α : Type} (n : Nat) : Ctx α := ⟨spec_l06Disc_C n, spec_l06Disc_M, eqs, lpOf spec_l06Disc_lps n⟩
def spec_l06Disc_run {α : Type} (n : Nat) (p : List P1) (κ : Res → Option α) : Option α := match p with
  | [.int x, .int x1, .int x2] => spec_l06Disc n x x1 x2 (fun v1 => κ ⟨[.int .i64 v1], []⟩)
  | _ => none
def spec_l06Disc_Lt (np : Nat) (lent : List (Bool × Nat × Blk)) : Prop := np = 1 ∧ lent = []
theorem spec_l06Disc_ev {α : Type} (n : Nat) (x : Int) (x1 : Int) (x2 : Int) (κ : Res → Option α) : evFn Try.prog (spec_l06Disc_X n) Try.f39 (((buildDs spec_l06Disc_sh [.int x, .int x1, .int x2]).map Prod.fst).getD []) κ = spec_l06Disc_run n [.int x, .int x1, .int x2] κ := by kernel_rfl
theorem spec_l06Disc_en (x : Int) (x1 : Int) (x2 : Int) : (entry 0 (((buildDs spec_l06Disc_sh [.int x, .int x1, .int x2]).map Prod.fst).getD [])).map (fun x => (x.1.length, x.2.lent)) = some (1, []) := by kernel_rfl
theorem spec_l06Disc_good {α : Type} : ∀ n, GoodFn (α := α) Try.prog 39 (byShape spec_l06Disc_sh (spec_l06Disc_run n)) := by
  refine fn_good' Try.func39 (c := (Try.f39.body.getD .skip)) (by kernel_rfl) (by kernel_rfl) (by kernel_rfl) spec_l06Disc_C spec_l06Disc_M eqs spec_l06Disc_lps (fun n => tabC_good (fun _ h => absurd h List.not_mem_nil)) eqs_ok spec_l06Disc_Lt ?_ ?_ spec_l06Disc_sh spec_l06Disc_run ?_
  · exact (fun _ h => absurd h List.not_mem_nil)
  · exact (fun _ h => absurd h List.not_mem_nil)
  · intro n p κ r ds hd hr
    have hr0 := hr
    unfold spec_l06Disc_run at hr
    split at hr
    · rw [← ds_of hd]
      exact ⟨en_of (spec_l06Disc_en _ _ _) ⟨rfl, rfl⟩, (spec_l06Disc_ev n _ _ _ κ).trans hr0⟩
    · cases hr

/-! loop.example/g01297/spec.l06Root -/
def spec_l06Root_sh : List SkD := [.int .i64]
def spec_l06Root_C {α : Type} (n : Nat) : FuncId → List D → (Res → Option α) → Option α := tabC []
def spec_l06Root_M : FuncId → List Nat := tabM []
def spec_l06Root_t2 : Tpl := ⟨[.int .i64, .any, .any, .int .i64, .any, .any, .any, .any, .any, .any, .any, .any, .any, .any], []⟩
def spec_l06Root_u2 {α : Type} (n : Nat) (p : List P1) (brk : Nat → List P1 → Option α) (ret : Res → Option α) : Option α := match p with
  | [.int d1, .int w] => spec_l06Root_l2 n d1 w (fun d1 w => brk 0 [.int d1, .int w]) (fun v1 => ret ⟨[.int .i64 v1], []⟩)
  | _ => none
def spec_l06Root_lps {α : Type} : List (LoopT α) := [⟨2, spec_l06Root_t2, spec_l06Root_u2⟩]
def spec_l06Root_X {α : Type} (n : Nat) : Ctx α := ⟨spec_l06Root_C n, spec_l06Root_M, eqs, lpOf spec_l06Root_lps n⟩
def spec_l06Root_run {α : Type} (n : Nat) (p : List P1) (κ : Res → Option α) : Option α := match p with
  | [.int d] => spec_l06Root n d (fun v1 => κ ⟨[.int .i64 v1], []⟩)
  | _ => none
def spec_l06Root_Lt (np : Nat) (lent : List (Bool × Nat × Blk)) : Prop := np = 1 ∧ lent = []
theorem spec_l06Root_l2_ev {α : Type} (n : Nat) (d1 : Int) (w : Int) (brk : Nat → List P1 → Option α) (ret : Res → Option α) : ev ((spec_l06Root_X n).env Try.prog Try.f48 1 []) (findLoop (loopsIn (Try.f48.body.getD .skip)) 2) ((spec_l06Root_t2.build [.int d1, .int w]).getD ⟨[], []⟩) (roundK spec_l06Root_t2 (fun q => spec_l06Root_u2 n q brk ret) brk ret) = spec_l06Root_u2 (n + 1) [.int d1, .int w] brk ret := by kernel_rfl
theorem spec_l06Root_ev {α : Type} (n : Nat) (d : Int) (κ : Res → Option α) : evFn Try.prog (spec_l06Root_X n) Try.f48 (((buildDs spec_l06Root_sh [.int d]).map Prod.fst).getD []) κ = spec_l06Root_run n [.int d] κ := by kernel_rfl
theorem spec_l06Root_en (d : Int) : (entry 0 (((buildDs spec_l06Root_sh [.int d]).map Prod.fst).getD [])).map (fun x => (x.1.length, x.2.lent)) = some (1, []) := by kernel_rfl
theorem spec_l06Root_good {α : Type} : ∀ n, GoodFn (α := α) Try.prog 48 (byShape spec_l06Root_sh (spec_l06Root_run n)) := by
  refine fn_good' Try.func48 (c := (Try.f48.body.getD .skip)) (by kernel_rfl) (by kernel_rfl) (by kernel_rfl) spec_l06Root_C spec_l06Root_M eqs spec_l06Root_lps (fun n => tabC_good (fun _ h => absurd h List.not_mem_nil)) eqs_ok spec_l06Root_Lt ?_ ?_ spec_l06Root_sh spec_l06Root_run ?_
  · refine List.forall_mem_cons.2 ⟨?_, (fun _ h => absurd h List.not_mem_nil)⟩
    · intro p brk ret; show spec_l06Root_u2 0 p brk ret = none; unfold spec_l06Root_u2; split <;> rfl
  · refine List.forall_mem_cons.2 ⟨?_, (fun _ h => absurd h List.not_mem_nil)⟩
    · intro np lent hL n p brk ret st r hb hr
      obtain ⟨rfl, rfl⟩ := hL
      rw [← tpl_of hb]
      change spec_l06Root_u2 (n + 1) p brk ret = some r at hr
      have hr0 := hr
      unfold spec_l06Root_u2 at hr
      split at hr
      · exact (spec_l06Root_l2_ev n _ _ brk ret).trans hr0
      · cases hr
  · intro n p κ r ds hd hr
    have hr0 := hr
    unfold spec_l06Root_run at hr
    split at hr
    · rw [← ds_of hd]
      exact ⟨en_of (spec_l06Root_en _) ⟨rfl, rfl⟩, (spec_l06Root_ev n _ κ).trans hr0⟩
    · cases hr

/-! loop.example/g01297/spec.l06Is -/
def spec_l06Is_sh : List SkD := [.agg [.int .i64, .int .i64, .int .i64]]
def spec_l06Is_C {α : Type} (n : Nat) : FuncId → List D → (Res → Option α) → Option α := tabC [(29, byShape spec_l01Fits_sh (spec_l01Fits_run n)), (39, byShape spec_l06Disc_sh (spec_l06Disc_run n)), (45, byShape spec_l01In_sh (spec_l01In_run n)), (48, byShape spec_l06Root_sh (spec_l06Root_run n))]
def spec_l06Is_M : FuncId → List Nat := tabM []
def spec_l06Is_lps {α : Type} : List (LoopT α) := []
def spec_l06Is_X {α : Type} (n : Nat) : Ctx α := ⟨spec_l06Is_C n, spec_l06Is_M, eqs, lpOf spec_l06Is_lps n⟩
def spec_l06Is_run {α : Type} (n : Nat) (p : List P1) (κ : Res → Option α) : Option α := match p with
  | [.int x, .int x1, .int x2] => spec_l06Is n x x1 x2 (fun v1 => κ ⟨[.bool v1], []⟩)
  | _ => none
def spec_l06Is_Lt (np : Nat) (lent : List (Bool × Nat × Blk)) : Prop := np = 1 ∧ lent = []
theorem spec_l06Is_ev {α : Type} (n : Nat) (x : Int) (x1 : Int) (x2 : Int) (κ : Res → Option α) : evFn Try.prog (spec_l06Is_X n) Try.f34 (((buildDs spec_l06Is_sh [.int x, .int x1, .int x2]).map Prod.fst).getD []) κ = spec_l06Is_run n [.int x, .int x1, .int x2] κ := by kernel_rfl
theorem spec_l06Is_en (x : Int) (x1 : Int) (x2 : Int) : (entry 0 (((buildDs spec_l06Is_sh [.int x, .int x1, .int x2]).map Prod.fst).getD [])).map (fun x => (x.1.length, x.2.lent)) = some (1, []) := by kernel_rfl
theorem spec_l06Is_good {α : Type} : ∀ n, GoodFn (α := α) Try.prog 34 (byShape spec_l06Is_sh (spec_l06Is_run n)) := by
  refine fn_good' Try.func34 (c := (Try.f34.body.getD .skip)) (by kernel_rfl) (by kernel_rfl) (by kernel_rfl) spec_l06Is_C spec_l06Is_M eqs spec_l06Is_lps (fun n => tabC_good (List.forall_mem_cons.2 ⟨spec_l01Fits_good n, (List.forall_mem_cons.2 ⟨spec_l06Disc_good n, (List.forall_mem_cons.2 ⟨spec_l01In_good n, (List.forall_mem_cons.2 ⟨spec_l06Root_good n, (fun _ h => absurd h List.not_mem_nil)⟩)⟩)⟩)⟩)) eqs_ok spec_l06Is_Lt ?_ ?_ spec_l06Is_sh spec_l06Is_run ?_
  · exact (fun _ h => absurd h List.not_mem_nil)
  · exact (fun _ h => absurd h List.not_mem_nil)
  · intro n p κ r ds hd hr
    have hr0 := hr
    unfold spec_l06Is_run at hr
    split at hr
    · rw [← ds_of hd]
      exact ⟨en_of (spec_l06Is_en _ _ _) ⟨rfl, rfl⟩, (spec_l06Is_ev n _ _ _ κ).trans hr0⟩
    · cases hr

/-! loop.example/g01297/spec.IsForm -/
def spec_IsForm_sh : List SkD := [.agg [.int .i64, .int .i64, .int .i64]]
def spec_IsForm_C {α : Type} (n : Nat) : FuncId → List D → (Res → Option α) → Option α := tabC [(34, byShape spec_l06Is_sh (spec_l06Is_run n))]
def spec_IsForm_M : FuncId → List Nat := tabM []
def spec_IsForm_lps {α : Type} : List (LoopT α) := []
def spec_IsForm_X {α : Type} (n : Nat) : Ctx α := ⟨spec_IsForm_C n, spec_IsForm_M, eqs, lpOf spec_IsForm_lps n⟩
def spec_IsForm_run {α : Type} (n : Nat) (p : List P1) (κ : Res → Option α) : Option α := match p with
  | [.int x, .int x1, .int x2] => spec_IsForm n x x1 x2 (fun v1 => κ ⟨[.bool v1], []⟩)
  | _ => none
def spec_IsForm_Lt (np : Nat) (lent : List (Bool × Nat × Blk)) : Prop := np = 1 ∧ lent = []
theorem spec_IsForm_ev {α : Type} (n : Nat) (x : Int) (x1 : Int) (x2 : Int) (κ : Res → Option α) : evFn Try.prog (spec_IsForm_X n) Try.f14 (((buildDs spec_IsForm_sh [.int x, .int x1, .int x2]).map Prod.fst).getD []) κ = spec_IsForm_run n [.int x, .int x1, .int x2] κ := by kernel_rfl
theorem spec_IsForm_en (x : Int) (x1 : Int) (x2 : Int) : (entry 0 (((buildDs spec_IsForm_sh [.int x, .int x1, .int x2]).map Prod.fst).getD [])).map (fun x => (x.1.length, x.2.lent)) = some (1, []) := by kernel_rfl
theorem spec_IsForm_good {α : Type} : ∀ n, GoodFn (α := α) Try.prog 14 (byShape spec_IsForm_sh (spec_IsForm_run n)) := by
  refine fn_good' Try.func14 (c := (Try.f14.body.getD .skip)) (by kernel_rfl) (by kernel_rfl) (by kernel_rfl) spec_IsForm_C spec_IsForm_M eqs spec_IsForm_lps (fun n => tabC_good (List.forall_mem_cons.2 ⟨spec_l06Is_good n, (fun _ h => absurd h List.not_mem_nil)⟩)) eqs_ok spec_IsForm_Lt ?_ ?_ spec_IsForm_sh spec_IsForm_run ?_
  · exact (fun _ h => absurd h List.not_mem_nil)
  · exact (fun _ h => absurd h List.not_mem_nil)
  · intro n p κ r ds hd hr
    have hr0 := hr
    unfold spec_IsForm_run at hr
    split at hr
    · rw [← ds_of hd]
      exact ⟨en_of (spec_IsForm_en _ _ _) ⟨rfl, rfl⟩, (spec_IsForm_ev n _ _ _ κ).trans hr0⟩
    · cases hr

/-! (loop.example/g01297/impl.Form).disc -/
def impl_Form_disc_sh : List SkD := [.agg [.int .i64, .int .i64, .int .i64]]
def impl_Form_disc_C {α : Type} (n : Nat) : FuncId → List D → (Res → Option α) → Option α := tabC []
def impl_Form_disc_M : FuncId → List Nat := tabM []
def impl_Form_disc_lps {α : Type} : List (LoopT α) := []
def impl_Form_disc_X {α : Type} (n : Nat) : Ctx α := ⟨impl_Form_disc_C n, impl_Form_disc_M, eqs, lpOf impl_Form_disc_lps n⟩
def impl_Form_disc_run {α : Type} (n : Nat) (p : List P1) (κ : Res → Option α) : Option α := match p with
  | [.int x, .int x1, .int x2] => impl_Form_disc n x x1 x2 (fun v1 => κ ⟨[.int .i64 v1], []⟩)
  | _ => none
def impl_Form_disc_Lt (np : Nat) (lent : List (Bool × Nat × Blk)) : Prop := np = 1 ∧ lent = []
theorem impl_Form_disc_ev {α : Type} (n : Nat) (x : Int) (x1 : Int) (x2 : Int) (κ : Res → Option α) : evFn Try.prog (impl_Form_disc_X n) Try.f36 (((buildDs impl_Form_disc_sh [.int x, .int x1, .int x2]).map Prod.fst).getD []) κ = impl_Form_disc_run n [.int x, .int x1, .int x2] κ := by kernel_rfl
theorem impl_Form_disc_en (x : Int) (x1 : Int) (x2 : Int) : (entry 0 (((buildDs impl_Form_disc_sh [.int x, .int x1, .int x2]).map Prod.fst).getD [])).map (fun x => (x.1.length, x.2.lent)) = some (1, []) := by kernel_rfl
theorem impl_Form_disc_good {α : Type} : ∀ n, GoodFn (α := α) Try.prog 36 (byShape impl_Form_disc_sh (impl_Form_disc_run n)) := by
  refine fn_good' Try.func36 (c := (Try.f36.body.getD .skip)) (by kernel_rfl) (by kernel_rfl) (by kernel_rfl) impl_Form_disc_C impl_Form_disc_M eqs impl_Form_disc_lps (fun n => tabC_good (fun _ h => absurd h List.not_mem_nil)) eqs_ok impl_Form_disc_Lt ?_ ?_ impl_Form_disc_sh impl_Form_disc_run ?_
  · exact (fun _ h => absurd h List.not_mem_nil)
  · exact (fun _ h => absurd h List.not_mem_nil)
  · intro n p κ r ds hd hr
    have hr0 := hr
    unfold impl_Form_disc_run at hr
    split at hr
    · rw [← ds_of hd]
      exact ⟨en_of (impl_Form_disc_en _ _ _) ⟨rfl, rfl⟩, (impl_Form_disc_ev n _ _ _ κ).trans hr0⟩
    · cases hr

/-! loop.example/g01297/impl.root -/
def impl_root_sh : List SkD := [.int .i64]
def impl_root_C {α : Type} (n : Nat) : FuncId → List D → (Res → Option α) → Option α := tabC []
def impl_root_M : FuncId → List Nat := tabM []
def impl_root_t2 : Tpl := ⟨[.int .i64, .any, .any, .int .i64, .any, .any, .any, .any, .any, .any, .any, .any, .any, .any], []⟩
def impl_root_u2 {α : Type} (n : Nat) (p : List P1) (brk : Nat → List P1 → Option α) (ret : Res → Option α) : Option α := match p with
  | [.int d1, .int w] => impl_root_l2 n d1 w (fun d1 w => brk 0 [.int d1, .int w]) (fun v1 => ret ⟨[.int .i64 v1], []⟩)
  | _ => none
def impl_root_lps {α : Type} : List (LoopT α) := [⟨2, impl_root_t2, impl_root_u2⟩]
def impl_root_X {α : Type} (n : Nat) : Ctx α := ⟨impl_root_C n, impl_root_M, eqs, lpOf impl_root_lps n⟩
def impl_root_run {α : Type} (n : Nat) (p : List P1) (κ : Res → Option α) : Option α := match p with
  | [.int d] => impl_root n d (fun v1 => κ ⟨[.int .i64 v1], []⟩)
  | _ => none
def impl_root_Lt (np : Nat) (lent : List (Bool × Nat × Blk)) : Prop := np = 1 ∧ lent = []
theorem impl_root_l2_ev {α : Type} (n : Nat) (d1 : Int) (w : Int) (brk : Nat → List P1 → Option α) (ret : Res → Option α) : ev ((impl_root_X n).env Try.prog Try.f49 1 []) (findLoop (loopsIn (Try.f49.body.getD .skip)) 2) ((impl_root_t2.build [.int d1, .int w]).getD ⟨[], []⟩) (roundK impl_root_t2 (fun q => impl_root_u2 n q brk ret) brk ret) = impl_root_u2 (n + 1) [.int d1, .int w] brk ret := by kernel_rfl
theorem impl_root_ev {α : Type} (n : Nat) (d : Int) (κ : Res → Option α) : evFn Try.prog (impl_root_X n) Try.f49 (((buildDs impl_root_sh [.int d]).map Prod.fst).getD []) κ = impl_root_run n [.int d] κ := by kernel_rfl
theorem impl_root_en (d : Int) : (entry 0 (((buildDs impl_root_sh [.int d]).map Prod.fst).getD [])).map (fun x => (x.1.length, x.2.lent)) = some (1, []) := by kernel_rfl
theorem impl_root_good {α : Type} : ∀ n, GoodFn (α := α) Try.prog 49 (byShape impl_root_sh (impl_root_run n)) := by
  refine fn_good' Try.func49 (c := (Try.f49.body.getD .skip)) (by kernel_rfl) (by kernel_rfl) (by kernel_rfl) impl_root_C impl_root_M eqs impl_root_lps (fun n => tabC_good (fun _ h => absurd h List.not_mem_nil)) eqs_ok impl_root_Lt ?_ ?_ impl_root_sh impl_root_run ?_
  · refine List.forall_mem_cons.2 ⟨?_, (fun _ h => absurd h List.not_mem_nil)⟩
    · intro p brk ret; show impl_root_u2 0 p brk ret = none; unfold impl_root_u2; split <;> rfl
  · refine List.forall_mem_cons.2 ⟨?_, (fun _ h => absurd h List.not_mem_nil)⟩
    · intro np lent hL n p brk ret st r hb hr
      obtain ⟨rfl, rfl⟩ := hL
      rw [← tpl_of hb]
      change impl_root_u2 (n + 1) p brk ret = some r at hr
      have hr0 := hr
      unfold impl_root_u2 at hr
      split at hr
      · exact (impl_root_l2_ev n _ _ brk ret).trans hr0
      · cases hr
  · intro n p κ r ds hd hr
    have hr0 := hr
    unfold impl_root_run at hr
    split at hr
    · rw [← ds_of hd]
      exact ⟨en_of (impl_root_en _) ⟨rfl, rfl⟩, (impl_root_ev n _ κ).trans hr0⟩
    · cases hr

/-! loop.example/g01297/impl.discOk -/
def impl_discOk_sh : List SkD := [.int .i64]
def impl_discOk_C {α : Type} (n : Nat) : FuncId → List D → (Res → Option α) → Option α := tabC [(46, byShape impl_in_sh (impl_in_run n)), (49, byShape impl_root_sh (impl_root_run n))]
def impl_discOk_M : FuncId → List Nat := tabM []
def impl_discOk_lps {α : Type} : List (LoopT α) := []
def impl_discOk_X {α : Type} (n : Nat) : Ctx α := ⟨impl_discOk_C n, impl_discOk_M, eqs, lpOf impl_discOk_lps n⟩
def impl_discOk_run {α : Type} (n : Nat) (p : List P1) (κ : Res → Option α) : Option α := match p with
  | [.int d] => impl_discOk n d (fun v1 => κ ⟨[.bool v1], []⟩)
  | _ => none
def impl_discOk_Lt (np : Nat) (lent : List (Bool × Nat × Blk)) : Prop := np = 1 ∧ lent = []
theorem impl_discOk_ev {α : Type} (n : Nat) (d : Int) (κ : Res → Option α) : evFn Try.prog (impl_discOk_X n) Try.f35 (((buildDs impl_discOk_sh [.int d]).map Prod.fst).getD []) κ = impl_discOk_run n [.int d] κ := by kernel_rfl
theorem impl_discOk_en (d : Int) : (entry 0 (((buildDs impl_discOk_sh [.int d]).map Prod.fst).getD [])).map (fun x => (x.1.length, x.2.lent)) = some (1, []) := by kernel_rfl
theorem impl_discOk_good {α : Type} : ∀ n, GoodFn (α := α) Try.prog 35 (byShape impl_discOk_sh (impl_discOk_run n)) := by
  refine fn_good' Try.func35 (c := (Try.f35.body.getD .skip)) (by kernel_rfl) (by kernel_rfl) (by kernel_rfl) impl_discOk_C impl_discOk_M eqs impl_discOk_lps (fun n => tabC_good (List.forall_mem_cons.2 ⟨impl_in_good n, (List.forall_mem_cons.2 ⟨impl_root_good n, (fun _ h => absurd h List.not_mem_nil)⟩)⟩)) eqs_ok impl_discOk_Lt ?_ ?_ impl_discOk_sh impl_discOk_run ?_
  · exact (fun _ h => absurd h List.not_mem_nil)
  · exact (fun _ h => absurd h List.not_mem_nil)
  · intro n p κ r ds hd hr
    have hr0 := hr
    unfold impl_discOk_run at hr
    split at hr
    · rw [← ds_of hd]
      exact ⟨en_of (impl_discOk_en _) ⟨rfl, rfl⟩, (impl_discOk_ev n _ κ).trans hr0⟩
    · cases hr

/-! loop.example/g01297/impl.IsForm -/
def impl_IsForm_sh : List SkD := [.agg [.int .i64, .int .i64, .int .i64]]
def impl_IsForm_C {α : Type} (n : Nat) : FuncId → List D → (Res → Option α) → Option α := tabC [(32, byShape impl_isCoord_sh (impl_isCoord_run n)), (36, byShape impl_Form_disc_sh (impl_Form_disc_run n)), (35, byShape impl_discOk_sh (impl_discOk_run n))]
def impl_IsForm_M : FuncId → List Nat := tabM []
def impl_IsForm_lps {α : Type} : List (LoopT α) := []
def impl_IsForm_X {α : Type} (n : Nat) : Ctx α := ⟨impl_IsForm_C n, impl_IsForm_M, eqs, lpOf impl_IsForm_lps n⟩
def impl_IsForm_run {α : Type} (n : Nat) (p : List P1) (κ : Res → Option α) : Option α := match p with
  | [.int x, .int x1, .int x2] => impl_IsForm n x x1 x2 (fun v1 => κ ⟨[.bool v1], []⟩)
  | _ => none
def impl_IsForm_Lt (np : Nat) (lent : List (Bool × Nat × Blk)) : Prop := np = 1 ∧ lent = []
theorem impl_IsForm_ev {α : Type} (n : Nat) (x : Int) (x1 : Int) (x2 : Int) (κ : Res → Option α) : evFn Try.prog (impl_IsForm_X n) Try.f16 (((buildDs impl_IsForm_sh [.int x, .int x1, .int x2]).map Prod.fst).getD []) κ = impl_IsForm_run n [.int x, .int x1, .int x2] κ := by kernel_rfl
theorem impl_IsForm_en (x : Int) (x1 : Int) (x2 : Int) : (entry 0 (((buildDs impl_IsForm_sh [.int x, .int x1, .int x2]).map Prod.fst).getD [])).map (fun x => (x.1.length, x.2.lent)) = some (1, []) := by kernel_rfl
theorem impl_IsForm_good {α : Type} : ∀ n, GoodFn (α := α) Try.prog 16 (byShape impl_IsForm_sh (impl_IsForm_run n)) := by
  refine fn_good' Try.func16 (c := (Try.f16.body.getD .skip)) (by kernel_rfl) (by kernel_rfl) (by kernel_rfl) impl_IsForm_C impl_IsForm_M eqs impl_IsForm_lps (fun n => tabC_good (List.forall_mem_cons.2 ⟨impl_isCoord_good n, (List.forall_mem_cons.2 ⟨impl_Form_disc_good n, (List.forall_mem_cons.2 ⟨impl_discOk_good n, (fun _ h => absurd h List.not_mem_nil)⟩)⟩)⟩)) eqs_ok impl_IsForm_Lt ?_ ?_ impl_IsForm_sh impl_IsForm_run ?_
  · exact (fun _ h => absurd h List.not_mem_nil)
  · exact (fun _ h => absurd h List.not_mem_nil)
  · intro n p κ r ds hd hr
    have hr0 := hr
    unfold impl_IsForm_run at hr
    split at hr
    · rw [← ds_of hd]
      exact ⟨en_of (impl_IsForm_en _ _ _) ⟨rfl, rfl⟩, (impl_IsForm_ev n _ _ _ κ).trans hr0⟩
    · cases hr

/-! loop.example/g01297/laws.FnExactIsForm -/
def laws_FnExactIsForm_sh : List SkD := [.agg [.int .i64, .int .i64, .int .i64]]
def laws_FnExactIsForm_C {α : Type} (n : Nat) : FuncId → List D → (Res → Option α) → Option α := tabC [(15, byShape laws_toForm_sh (laws_toForm_run n)), (14, byShape spec_IsForm_sh (spec_IsForm_run n)), (16, byShape impl_IsForm_sh (impl_IsForm_run n))]
def laws_FnExactIsForm_M : FuncId → List Nat := tabM []
def laws_FnExactIsForm_lps {α : Type} : List (LoopT α) := []
def laws_FnExactIsForm_X {α : Type} (n : Nat) : Ctx α := ⟨laws_FnExactIsForm_C n, laws_FnExactIsForm_M, eqs, lpOf laws_FnExactIsForm_lps n⟩
def laws_FnExactIsForm_run {α : Type} (n : Nat) (p : List P1) (κ : Res → Option α) : Option α := match p with
  | [.int aX, .int aX1, .int aX2] => laws_FnExactIsForm n aX aX1 aX2 (fun v1 => κ ⟨[.bool v1], []⟩)
  | _ => none
def laws_FnExactIsForm_Lt (np : Nat) (lent : List (Bool × Nat × Blk)) : Prop := np = 1 ∧ lent = []
theorem laws_FnExactIsForm_ev {α : Type} (n : Nat) (aX : Int) (aX1 : Int) (aX2 : Int) (κ : Res → Option α) : evFn Try.prog (laws_FnExactIsForm_X n) Try.f5 (((buildDs laws_FnExactIsForm_sh [.int aX, .int aX1, .int aX2]).map Prod.fst).getD []) κ = laws_FnExactIsForm_run n [.int aX, .int aX1, .int aX2] κ := by kernel_rfl
theorem laws_FnExactIsForm_en (aX : Int) (aX1 : Int) (aX2 : Int) : (entry 0 (((buildDs laws_FnExactIsForm_sh [.int aX, .int aX1, .int aX2]).map Prod.fst).getD [])).map (fun x => (x.1.length, x.2.lent)) = some (1, []) := by kernel_rfl
theorem laws_FnExactIsForm_good {α : Type} : ∀ n, GoodFn (α := α) Try.prog 5 (byShape laws_FnExactIsForm_sh (laws_FnExactIsForm_run n)) := by
  refine fn_good' Try.func5 (c := (Try.f5.body.getD .skip)) (by kernel_rfl) (by kernel_rfl) (by kernel_rfl) laws_FnExactIsForm_C laws_FnExactIsForm_M eqs laws_FnExactIsForm_lps (fun n => tabC_good (List.forall_mem_cons.2 ⟨laws_toForm_good n, (List.forall_mem_cons.2 ⟨spec_IsForm_good n, (List.forall_mem_cons.2 ⟨impl_IsForm_good n, (fun _ h => absurd h List.not_mem_nil)⟩)⟩)⟩)) eqs_ok laws_FnExactIsForm_Lt ?_ ?_ laws_FnExactIsForm_sh laws_FnExactIsForm_run ?_
  · exact (fun _ h => absurd h List.not_mem_nil)
  · exact (fun _ h => absurd h List.not_mem_nil)
  · intro n p κ r ds hd hr
    have hr0 := hr
    unfold laws_FnExactIsForm_run at hr
    split at hr
    · rw [← ds_of hd]
      exact ⟨en_of (laws_FnExactIsForm_en _ _ _) ⟨rfl, rfl⟩, (laws_FnExactIsForm_ev n _ _ _ κ).trans hr0⟩
    · cases hr

/-! loop.example/g01297/spec.CompareRatios -/
def spec_CompareRatios_sh : List SkD := [.int .i64, .int .i64, .int .i64, .int .i64]
def spec_CompareRatios_C {α : Type} (n : Nat) : FuncId → List D → (Res → Option α) → Option α := tabC [(28, byShape spec_l10Ratio_sh (spec_l10Ratio_run n))]
def spec_CompareRatios_M : FuncId → List Nat := tabM []
def spec_CompareRatios_lps {α : Type} : List (LoopT α) := []
def spec_CompareRatios_X {α : Type} (n : Nat) : Ctx α := ⟨spec_CompareRatios_C n, spec_CompareRatios_M, eqs, lpOf spec_CompareRatios_lps n⟩
def spec_CompareRatios_run {α : Type} (n : Nat) (p : List P1) (κ : Res → Option α) : Option α := match p with
  | [.int p_, .int q_, .int r_, .int s] => spec_CompareRatios n p_ q_ r_ s (fun v1 v2 => κ ⟨[.int .i64 v1, .int .i64 v2], []⟩)
  | _ => none
def spec_CompareRatios_Lt (np : Nat) (lent : List (Bool × Nat × Blk)) : Prop := np = 4 ∧ lent = []
theorem spec_CompareRatios_ev {α : Type} (n : Nat) (p_ : Int) (q_ : Int) (r_ : Int) (s : Int) (κ : Res → Option α) : evFn Try.prog (spec_CompareRatios_X n) Try.f17 (((buildDs spec_CompareRatios_sh [.int p_, .int q_, .int r_, .int s]).map Prod.fst).getD []) κ = spec_CompareRatios_run n [.int p_, .int q_, .int r_, .int s] κ := by kernel_rfl
theorem spec_CompareRatios_en (p_ : Int) (q_ : Int) (r_ : Int) (s : Int) : (entry 0 (((buildDs spec_CompareRatios_sh [.int p_, .int q_, .int r_, .int s]).map Prod.fst).getD [])).map (fun x => (x.1.length, x.2.lent)) = some (4, []) := by kernel_rfl
theorem spec_CompareRatios_good {α : Type} : ∀ n, GoodFn (α := α) Try.prog 17 (byShape spec_CompareRatios_sh (spec_CompareRatios_run n)) := by
  refine fn_good' Try.func17 (c := (Try.f17.body.getD .skip)) (by kernel_rfl) (by kernel_rfl) (by kernel_rfl) spec_CompareRatios_C spec_CompareRatios_M eqs spec_CompareRatios_lps (fun n => tabC_good (List.forall_mem_cons.2 ⟨spec_l10Ratio_good n, (fun _ h => absurd h List.not_mem_nil)⟩)) eqs_ok spec_CompareRatios_Lt ?_ ?_ spec_CompareRatios_sh spec_CompareRatios_run ?_
  · exact (fun _ h => absurd h List.not_mem_nil)
  · exact (fun _ h => absurd h List.not_mem_nil)
  · intro n p κ r ds hd hr
    have hr0 := hr
    unfold spec_CompareRatios_run at hr
    split at hr
    · rw [← ds_of hd]
      exact ⟨en_of (spec_CompareRatios_en _ _ _ _) ⟨rfl, rfl⟩, (spec_CompareRatios_ev n _ _ _ _ κ).trans hr0⟩
    · cases hr

/-! cmp.isNaN[int64] -/
def cmp_isNaN_int64_sh : List SkD := [.int .i64]
def cmp_isNaN_int64_C {α : Type} (n : Nat) : FuncId → List D → (Res → Option α) → Option α := tabC []
def cmp_isNaN_int64_M : FuncId → List Nat := tabM []
def cmp_isNaN_int64_lps {α : Type} : List (LoopT α) := []
def cmp_isNaN_int64_X {α : Type} (n : Nat) : Ctx α := ⟨cmp_isNaN_int64_C n, cmp_isNaN_int64_M, eqs, lpOf cmp_isNaN_int64_lps n⟩
def cmp_isNaN_int64_run {α : Type} (n : Nat) (p : List P1) (κ : Res → Option α) : Option α := match p with
  | [.int x] => cmp_isNaN_int64 n x (fun v1 => κ ⟨[.bool v1], []⟩)
  | _ => none
def cmp_isNaN_int64_Lt (np : Nat) (lent : List (Bool × Nat × Blk)) : Prop := np = 1 ∧ lent = []
theorem cmp_isNaN_int64_ev {α : Type} (n : Nat) (x : Int) (κ : Res → Option α) : evFn Try.prog (cmp_isNaN_int64_X n) Try.f50 (((buildDs cmp_isNaN_int64_sh [.int x]).map Prod.fst).getD []) κ = cmp_isNaN_int64_run n [.int x] κ := by kernel_rfl
theorem cmp_isNaN_int64_en (x : Int) : (entry 0 (((buildDs cmp_isNaN_int64_sh [.int x]).map Prod.fst).getD [])).map (fun x => (x.1.length, x.2.lent)) = some (1, []) := by kernel_rfl
theorem cmp_isNaN_int64_good {α : Type} : ∀ n, GoodFn (α := α) Try.prog 50 (byShape cmp_isNaN_int64_sh (cmp_isNaN_int64_run n)) := by
  refine fn_good' Try.func50 (c := (Try.f50.body.getD .skip)) (by kernel_rfl) (by kernel_rfl) (by kernel_rfl) cmp_isNaN_int64_C cmp_isNaN_int64_M eqs cmp_isNaN_int64_lps (fun n => tabC_good (fun _ h => absurd h List.not_mem_nil)) eqs_ok cmp_isNaN_int64_Lt ?_ ?_ cmp_isNaN_int64_sh cmp_isNaN_int64_run ?_
  · exact (fun _ h => absurd h List.not_mem_nil)
  · exact (fun _ h => absurd h List.not_mem_nil)
  · intro n p κ r ds hd hr
    have hr0 := hr
    unfold cmp_isNaN_int64_run at hr
    split at hr
    · rw [← ds_of hd]
      exact ⟨en_of (cmp_isNaN_int64_en _) ⟨rfl, rfl⟩, (cmp_isNaN_int64_ev n _ κ).trans hr0⟩
    · cases hr

/-! cmp.Compare[int64] -/
def cmp_Compare_int64_sh : List SkD := [.int .i64, .int .i64]
def cmp_Compare_int64_C {α : Type} (n : Nat) : FuncId → List D → (Res → Option α) → Option α := tabC [(50, byShape cmp_isNaN_int64_sh (cmp_isNaN_int64_run n))]
def cmp_Compare_int64_M : FuncId → List Nat := tabM []
def cmp_Compare_int64_lps {α : Type} : List (LoopT α) := []
def cmp_Compare_int64_X {α : Type} (n : Nat) : Ctx α := ⟨cmp_Compare_int64_C n, cmp_Compare_int64_M, eqs, lpOf cmp_Compare_int64_lps n⟩
def cmp_Compare_int64_run {α : Type} (n : Nat) (p : List P1) (κ : Res → Option α) : Option α := match p with
  | [.int x, .int y] => cmp_Compare_int64 n x y (fun v1 => κ ⟨[.int .i64 v1], []⟩)
  | _ => none
def cmp_Compare_int64_Lt (np : Nat) (lent : List (Bool × Nat × Blk)) : Prop := np = 2 ∧ lent = []
theorem cmp_Compare_int64_ev {α : Type} (n : Nat) (x : Int) (y : Int) (κ : Res → Option α) : evFn Try.prog (cmp_Compare_int64_X n) Try.f38 (((buildDs cmp_Compare_int64_sh [.int x, .int y]).map Prod.fst).getD []) κ = cmp_Compare_int64_run n [.int x, .int y] κ := by kernel_rfl
theorem cmp_Compare_int64_en (x : Int) (y : Int) : (entry 0 (((buildDs cmp_Compare_int64_sh [.int x, .int y]).map Prod.fst).getD [])).map (fun x => (x.1.length, x.2.lent)) = some (2, []) := by kernel_rfl
theorem cmp_Compare_int64_good {α : Type} : ∀ n, GoodFn (α := α) Try.prog 38 (byShape cmp_Compare_int64_sh (cmp_Compare_int64_run n)) := by
  refine fn_good' Try.func38 (c := (Try.f38.body.getD .skip)) (by kernel_rfl) (by kernel_rfl) (by kernel_rfl) cmp_Compare_int64_C cmp_Compare_int64_M eqs cmp_Compare_int64_lps (fun n => tabC_good (List.forall_mem_cons.2 ⟨cmp_isNaN_int64_good n, (fun _ h => absurd h List.not_mem_nil)⟩)) eqs_ok cmp_Compare_int64_Lt ?_ ?_ cmp_Compare_int64_sh cmp_Compare_int64_run ?_
  · exact (fun _ h => absurd h List.not_mem_nil)
  · exact (fun _ h => absurd h List.not_mem_nil)
  · intro n p κ r ds hd hr
    have hr0 := hr
    unfold cmp_Compare_int64_run at hr
    split at hr
    · rw [← ds_of hd]
      exact ⟨en_of (cmp_Compare_int64_en _ _) ⟨rfl, rfl⟩, (cmp_Compare_int64_ev n _ _ κ).trans hr0⟩
    · cases hr

/-! loop.example/g01297/impl.CompareRatios -/
def impl_CompareRatios_sh : List SkD := [.int .i64, .int .i64, .int .i64, .int .i64]
def impl_CompareRatios_C {α : Type} (n : Nat) : FuncId → List D → (Res → Option α) → Option α := tabC [(37, byShape impl_ratioOk_sh (impl_ratioOk_run n)), (38, byShape cmp_Compare_int64_sh (cmp_Compare_int64_run n))]
def impl_CompareRatios_M : FuncId → List Nat := tabM []
def impl_CompareRatios_lps {α : Type} : List (LoopT α) := []
def impl_CompareRatios_X {α : Type} (n : Nat) : Ctx α := ⟨impl_CompareRatios_C n, impl_CompareRatios_M, eqs, lpOf impl_CompareRatios_lps n⟩
def impl_CompareRatios_run {α : Type} (n : Nat) (p : List P1) (κ : Res → Option α) : Option α := match p with
  | [.int p_, .int q_, .int r_, .int s] => impl_CompareRatios n p_ q_ r_ s (fun v1 v2 => κ ⟨[.int .i64 v1, .int .i64 v2], []⟩)
  | _ => none
def impl_CompareRatios_Lt (np : Nat) (lent : List (Bool × Nat × Blk)) : Prop := np = 4 ∧ lent = []
theorem impl_CompareRatios_ev {α : Type} (n : Nat) (p_ : Int) (q_ : Int) (r_ : Int) (s : Int) (κ : Res → Option α) : evFn Try.prog (impl_CompareRatios_X n) Try.f18 (((buildDs impl_CompareRatios_sh [.int p_, .int q_, .int r_, .int s]).map Prod.fst).getD []) κ = impl_CompareRatios_run n [.int p_, .int q_, .int r_, .int s] κ := by kernel_rfl
theorem impl_CompareRatios_en (p_ : Int) (q_ : Int) (r_ : Int) (s : Int) : (entry 0 (((buildDs impl_CompareRatios_sh [.int p_, .int q_, .int r_, .int s]).map Prod.fst).getD [])).map (fun x => (x.1.length, x.2.lent)) = some (4, []) := by kernel_rfl
theorem impl_CompareRatios_good {α : Type} : ∀ n, GoodFn (α := α) Try.prog 18 (byShape impl_CompareRatios_sh (impl_CompareRatios_run n)) := by
  refine fn_good' Try.func18 (c := (Try.f18.body.getD .skip)) (by kernel_rfl) (by kernel_rfl) (by kernel_rfl) impl_CompareRatios_C impl_CompareRatios_M eqs impl_CompareRatios_lps (fun n => tabC_good (List.forall_mem_cons.2 ⟨impl_ratioOk_good n, (List.forall_mem_cons.2 ⟨cmp_Compare_int64_good n, (fun _ h => absurd h List.not_mem_nil)⟩)⟩)) eqs_ok impl_CompareRatios_Lt ?_ ?_ impl_CompareRatios_sh impl_CompareRatios_run ?_
  · exact (fun _ h => absurd h List.not_mem_nil)
  · exact (fun _ h => absurd h List.not_mem_nil)
  · intro n p κ r ds hd hr
    have hr0 := hr
    unfold impl_CompareRatios_run at hr
    split at hr
    · rw [← ds_of hd]
      exact ⟨en_of (impl_CompareRatios_en _ _ _ _) ⟨rfl, rfl⟩, (impl_CompareRatios_ev n _ _ _ _ κ).trans hr0⟩
    · cases hr

/-! loop.example/g01297/laws.FnExactCompareRatios -/
def laws_FnExactCompareRatios_sh : List SkD := [.int .i64, .int .i64, .int .i64, .int .i64]
def laws_FnExactCompareRatios_C {α : Type} (n : Nat) : FuncId → List D → (Res → Option α) → Option α := tabC [(17, byShape spec_CompareRatios_sh (spec_CompareRatios_run n)), (18, byShape impl_CompareRatios_sh (impl_CompareRatios_run n))]
def laws_FnExactCompareRatios_M : FuncId → List Nat := tabM []
def laws_FnExactCompareRatios_lps {α : Type} : List (LoopT α) := []
def laws_FnExactCompareRatios_X {α : Type} (n : Nat) : Ctx α := ⟨laws_FnExactCompareRatios_C n, laws_FnExactCompareRatios_M, eqs, lpOf laws_FnExactCompareRatios_lps n⟩
def laws_FnExactCompareRatios_run {α : Type} (n : Nat) (p : List P1) (κ : Res → Option α) : Option α := match p with
  | [.int aP, .int aQ, .int aR, .int aS] => laws_FnExactCompareRatios n aP aQ aR aS (fun v1 => κ ⟨[.bool v1], []⟩)
  | _ => none
def laws_FnExactCompareRatios_Lt (np : Nat) (lent : List (Bool × Nat × Blk)) : Prop := np = 4 ∧ lent = []
theorem laws_FnExactCompareRatios_ev {α : Type} (n : Nat) (aP : Int) (aQ : Int) (aR : Int) (aS : Int) (κ : Res → Option α) : evFn Try.prog (laws_FnExactCompareRatios_X n) Try.f6 (((buildDs laws_FnExactCompareRatios_sh [.int aP, .int aQ, .int aR, .int aS]).map Prod.fst).getD []) κ = laws_FnExactCompareRatios_run n [.int aP, .int aQ, .int aR, .int aS] κ := by kernel_rfl
theorem laws_FnExactCompareRatios_en (aP : Int) (aQ : Int) (aR : Int) (aS : Int) : (entry 0 (((buildDs laws_FnExactCompareRatios_sh [.int aP, .int aQ, .int aR, .int aS]).map Prod.fst).getD [])).map (fun x => (x.1.length, x.2.lent)) = some (4, []) := by kernel_rfl
theorem laws_FnExactCompareRatios_good {α : Type} : ∀ n, GoodFn (α := α) Try.prog 6 (byShape laws_FnExactCompareRatios_sh (laws_FnExactCompareRatios_run n)) := by
  refine fn_good' Try.func6 (c := (Try.f6.body.getD .skip)) (by kernel_rfl) (by kernel_rfl) (by kernel_rfl) laws_FnExactCompareRatios_C laws_FnExactCompareRatios_M eqs laws_FnExactCompareRatios_lps (fun n => tabC_good (List.forall_mem_cons.2 ⟨spec_CompareRatios_good n, (List.forall_mem_cons.2 ⟨impl_CompareRatios_good n, (fun _ h => absurd h List.not_mem_nil)⟩)⟩)) eqs_ok laws_FnExactCompareRatios_Lt ?_ ?_ laws_FnExactCompareRatios_sh laws_FnExactCompareRatios_run ?_
  · exact (fun _ h => absurd h List.not_mem_nil)
  · exact (fun _ h => absurd h List.not_mem_nil)
  · intro n p κ r ds hd hr
    have hr0 := hr
    unfold laws_FnExactCompareRatios_run at hr
    split at hr
    · rw [← ds_of hd]
      exact ⟨en_of (laws_FnExactCompareRatios_en _ _ _ _) ⟨rfl, rfl⟩, (laws_FnExactCompareRatios_ev n _ _ _ _ κ).trans hr0⟩
    · cases hr

/-! loop.example/g01297/spec.DiscriminantOf -/
def spec_DiscriminantOf_sh : List SkD := [.agg [.int .i64, .int .i64, .int .i64]]
def spec_DiscriminantOf_C {α : Type} (n : Nat) : FuncId → List D → (Res → Option α) → Option α := tabC [(34, byShape spec_l06Is_sh (spec_l06Is_run n)), (39, byShape spec_l06Disc_sh (spec_l06Disc_run n))]
def spec_DiscriminantOf_M : FuncId → List Nat := tabM []
def spec_DiscriminantOf_lps {α : Type} : List (LoopT α) := []
def spec_DiscriminantOf_X {α : Type} (n : Nat) : Ctx α := ⟨spec_DiscriminantOf_C n, spec_DiscriminantOf_M, eqs, lpOf spec_DiscriminantOf_lps n⟩
def spec_DiscriminantOf_run {α : Type} (n : Nat) (p : List P1) (κ : Res → Option α) : Option α := match p with
  | [.int x, .int x1, .int x2] => spec_DiscriminantOf n x x1 x2 (fun v1 v2 => κ ⟨[.int .i64 v1, .int .i64 v2], []⟩)
  | _ => none
def spec_DiscriminantOf_Lt (np : Nat) (lent : List (Bool × Nat × Blk)) : Prop := np = 1 ∧ lent = []
theorem spec_DiscriminantOf_ev {α : Type} (n : Nat) (x : Int) (x1 : Int) (x2 : Int) (κ : Res → Option α) : evFn Try.prog (spec_DiscriminantOf_X n) Try.f19 (((buildDs spec_DiscriminantOf_sh [.int x, .int x1, .int x2]).map Prod.fst).getD []) κ = spec_DiscriminantOf_run n [.int x, .int x1, .int x2] κ := by kernel_rfl
theorem spec_DiscriminantOf_en (x : Int) (x1 : Int) (x2 : Int) : (entry 0 (((buildDs spec_DiscriminantOf_sh [.int x, .int x1, .int x2]).map Prod.fst).getD [])).map (fun x => (x.1.length, x.2.lent)) = some (1, []) := by kernel_rfl
theorem spec_DiscriminantOf_good {α : Type} : ∀ n, GoodFn (α := α) Try.prog 19 (byShape spec_DiscriminantOf_sh (spec_DiscriminantOf_run n)) := by
  refine fn_good' Try.func19 (c := (Try.f19.body.getD .skip)) (by kernel_rfl) (by kernel_rfl) (by kernel_rfl) spec_DiscriminantOf_C spec_DiscriminantOf_M eqs spec_DiscriminantOf_lps (fun n => tabC_good (List.forall_mem_cons.2 ⟨spec_l06Is_good n, (List.forall_mem_cons.2 ⟨spec_l06Disc_good n, (fun _ h => absurd h List.not_mem_nil)⟩)⟩)) eqs_ok spec_DiscriminantOf_Lt ?_ ?_ spec_DiscriminantOf_sh spec_DiscriminantOf_run ?_
  · exact (fun _ h => absurd h List.not_mem_nil)
  · exact (fun _ h => absurd h List.not_mem_nil)
  · intro n p κ r ds hd hr
    have hr0 := hr
    unfold spec_DiscriminantOf_run at hr
    split at hr
    · rw [← ds_of hd]
      exact ⟨en_of (spec_DiscriminantOf_en _ _ _) ⟨rfl, rfl⟩, (spec_DiscriminantOf_ev n _ _ _ κ).trans hr0⟩
    · cases hr

/-! loop.example/g01297/impl.DiscriminantOf -/
def impl_DiscriminantOf_sh : List SkD := [.agg [.int .i64, .int .i64, .int .i64]]
def impl_DiscriminantOf_C {α : Type} (n : Nat) : FuncId → List D → (Res → Option α) → Option α := tabC [(16, byShape impl_IsForm_sh (impl_IsForm_run n)), (36, byShape impl_Form_disc_sh (impl_Form_disc_run n))]
def impl_DiscriminantOf_M : FuncId → List Nat := tabM []
def impl_DiscriminantOf_lps {α : Type} : List (LoopT α) := []
def impl_DiscriminantOf_X {α : Type} (n : Nat) : Ctx α := ⟨impl_DiscriminantOf_C n, impl_DiscriminantOf_M, eqs, lpOf impl_DiscriminantOf_lps n⟩
def impl_DiscriminantOf_run {α : Type} (n : Nat) (p : List P1) (κ : Res → Option α) : Option α := match p with
  | [.int x, .int x1, .int x2] => impl_DiscriminantOf n x x1 x2 (fun v1 v2 => κ ⟨[.int .i64 v1, .int .i64 v2], []⟩)
  | _ => none
def impl_DiscriminantOf_Lt (np : Nat) (lent : List (Bool × Nat × Blk)) : Prop := np = 1 ∧ lent = []
theorem impl_DiscriminantOf_ev {α : Type} (n : Nat) (x : Int) (x1 : Int) (x2 : Int) (κ : Res → Option α) : evFn Try.prog (impl_DiscriminantOf_X n) Try.f20 (((buildDs impl_DiscriminantOf_sh [.int x, .int x1, .int x2]).map Prod.fst).getD []) κ = impl_DiscriminantOf_run n [.int x, .int x1, .int x2] κ := by kernel_rfl
theorem impl_DiscriminantOf_en (x : Int) (x1 : Int) (x2 : Int) : (entry 0 (((buildDs impl_DiscriminantOf_sh [.int x, .int x1, .int x2]).map Prod.fst).getD [])).map (fun x => (x.1.length, x.2.lent)) = some (1, []) := by kernel_rfl
theorem impl_DiscriminantOf_good {α : Type} : ∀ n, GoodFn (α := α) Try.prog 20 (byShape impl_DiscriminantOf_sh (impl_DiscriminantOf_run n)) := by
  refine fn_good' Try.func20 (c := (Try.f20.body.getD .skip)) (by kernel_rfl) (by kernel_rfl) (by kernel_rfl) impl_DiscriminantOf_C impl_DiscriminantOf_M eqs impl_DiscriminantOf_lps (fun n => tabC_good (List.forall_mem_cons.2 ⟨impl_IsForm_good n, (List.forall_mem_cons.2 ⟨impl_Form_disc_good n, (fun _ h => absurd h List.not_mem_nil)⟩)⟩)) eqs_ok impl_DiscriminantOf_Lt ?_ ?_ impl_DiscriminantOf_sh impl_DiscriminantOf_run ?_
  · exact (fun _ h => absurd h List.not_mem_nil)
  · exact (fun _ h => absurd h List.not_mem_nil)
  · intro n p κ r ds hd hr
    have hr0 := hr
    unfold impl_DiscriminantOf_run at hr
    split at hr
    · rw [← ds_of hd]
      exact ⟨en_of (impl_DiscriminantOf_en _ _ _) ⟨rfl, rfl⟩, (impl_DiscriminantOf_ev n _ _ _ κ).trans hr0⟩
    · cases hr

/-! loop.example/g01297/laws.FnExactDiscriminantOf -/
def laws_FnExactDiscriminantOf_sh : List SkD := [.agg [.int .i64, .int .i64, .int .i64]]
def laws_FnExactDiscriminantOf_C {α : Type} (n : Nat) : FuncId → List D → (Res → Option α) → Option α := tabC [(15, byShape laws_toForm_sh (laws_toForm_run n)), (19, byShape spec_DiscriminantOf_sh (spec_DiscriminantOf_run n)), (20, byShape impl_DiscriminantOf_sh (impl_DiscriminantOf_run n))]
def laws_FnExactDiscriminantOf_M : FuncId → List Nat := tabM []
def laws_FnExactDiscriminantOf_lps {α : Type} : List (LoopT α) := []
def laws_FnExactDiscriminantOf_X {α : Type} (n : Nat) : Ctx α := ⟨laws_FnExactDiscriminantOf_C n, laws_FnExactDiscriminantOf_M, eqs, lpOf laws_FnExactDiscriminantOf_lps n⟩
def laws_FnExactDiscriminantOf_run {α : Type} (n : Nat) (p : List P1) (κ : Res → Option α) : Option α := match p with
  | [.int aX, .int aX1, .int aX2] => laws_FnExactDiscriminantOf n aX aX1 aX2 (fun v1 => κ ⟨[.bool v1], []⟩)
  | _ => none
def laws_FnExactDiscriminantOf_Lt (np : Nat) (lent : List (Bool × Nat × Blk)) : Prop := np = 1 ∧ lent = []
theorem laws_FnExactDiscriminantOf_ev {α : Type} (n : Nat) (aX : Int) (aX1 : Int) (aX2 : Int) (κ : Res → Option α) : evFn Try.prog (laws_FnExactDiscriminantOf_X n) Try.f7 (((buildDs laws_FnExactDiscriminantOf_sh [.int aX, .int aX1, .int aX2]).map Prod.fst).getD []) κ = laws_FnExactDiscriminantOf_run n [.int aX, .int aX1, .int aX2] κ := by kernel_rfl
theorem laws_FnExactDiscriminantOf_en (aX : Int) (aX1 : Int) (aX2 : Int) : (entry 0 (((buildDs laws_FnExactDiscriminantOf_sh [.int aX, .int aX1, .int aX2]).map Prod.fst).getD [])).map (fun x => (x.1.length, x.2.lent)) = some (1, []) := by kernel_rfl
theorem laws_FnExactDiscriminantOf_good {α : Type} : ∀ n, GoodFn (α := α) Try.prog 7 (byShape laws_FnExactDiscriminantOf_sh (laws_FnExactDiscriminantOf_run n)) := by
  refine fn_good' Try.func7 (c := (Try.f7.body.getD .skip)) (by kernel_rfl) (by kernel_rfl) (by kernel_rfl) laws_FnExactDiscriminantOf_C laws_FnExactDiscriminantOf_M eqs laws_FnExactDiscriminantOf_lps (fun n => tabC_good (List.forall_mem_cons.2 ⟨laws_toForm_good n, (List.forall_mem_cons.2 ⟨spec_DiscriminantOf_good n, (List.forall_mem_cons.2 ⟨impl_DiscriminantOf_good n, (fun _ h => absurd h List.not_mem_nil)⟩)⟩)⟩)) eqs_ok laws_FnExactDiscriminantOf_Lt ?_ ?_ laws_FnExactDiscriminantOf_sh laws_FnExactDiscriminantOf_run ?_
  · exact (fun _ h => absurd h List.not_mem_nil)
  · exact (fun _ h => absurd h List.not_mem_nil)
  · intro n p κ r ds hd hr
    have hr0 := hr
    unfold laws_FnExactDiscriminantOf_run at hr
    split at hr
    · rw [← ds_of hd]
      exact ⟨en_of (laws_FnExactDiscriminantOf_en _ _ _) ⟨rfl, rfl⟩, (laws_FnExactDiscriminantOf_ev n _ _ _ κ).trans hr0⟩
    · cases hr

/-! loop.example/g01297/spec.l11New -/
def spec_l11New_sh : List SkD := []
def spec_l11New_C {α : Type} (n : Nat) : FuncId → List D → (Res → Option α) → Option α := tabC []
def spec_l11New_M : FuncId → List Nat := tabM []
def spec_l11New_lps {α : Type} : List (LoopT α) := []
def spec_l11New_X {α : Type} (n : Nat) : Ctx α := ⟨spec_l11New_C n, spec_l11New_M, eqs, lpOf spec_l11New_lps n⟩
def spec_l11New_run {α : Type} (n : Nat) (p : List P1) (κ : Res → Option α) : Option α := match p with
  | [] => spec_l11New n (fun v1 v2 v3 v4 v5 v6 v7 v8 v9 v10 v11 => κ ⟨[.agg [.int .i64 v1, .int .i64 v2, .int .i64 v3, .int .i64 v4, .int .i64 v5, .int .i64 v6, .int .i64 v7, .int .i64 v8, .int .i64 v9, .int .i64 v10, .int .i64 v11]], []⟩)
  | _ => none
def spec_l11New_Lt (np : Nat) (lent : List (Bool × Nat × Blk)) : Prop := np = 0 ∧ lent = []
theorem spec_l11New_ev {α : Type} (n : Nat)  (κ : Res → Option α) : evFn Try.prog (spec_l11New_X n) Try.f40 (((buildDs spec_l11New_sh []).map Prod.fst).getD []) κ = spec_l11New_run n [] κ := by kernel_rfl
theorem spec_l11New_en  : (entry 0 (((buildDs spec_l11New_sh []).map Prod.fst).getD [])).map (fun x => (x.1.length, x.2.lent)) = some (0, []) := by kernel_rfl
theorem spec_l11New_good {α : Type} : ∀ n, GoodFn (α := α) Try.prog 40 (byShape spec_l11New_sh (spec_l11New_run n)) := by
  refine fn_good' Try.func40 (c := (Try.f40.body.getD .skip)) (by kernel_rfl) (by kernel_rfl) (by kernel_rfl) spec_l11New_C spec_l11New_M eqs spec_l11New_lps (fun n => tabC_good (fun _ h => absurd h List.not_mem_nil)) eqs_ok spec_l11New_Lt ?_ ?_ spec_l11New_sh spec_l11New_run ?_
  · exact (fun _ h => absurd h List.not_mem_nil)
  · exact (fun _ h => absurd h List.not_mem_nil)
  · intro n p κ r ds hd hr
    have hr0 := hr
    unfold spec_l11New_run at hr
    split at hr
    · rw [← ds_of hd]
      exact ⟨en_of (spec_l11New_en) ⟨rfl, rfl⟩, (spec_l11New_ev n κ).trans hr0⟩
    · cases hr

/-! loop.example/g01297/spec.NewDesk -/
def spec_NewDesk_sh : List SkD := []
def spec_NewDesk_C {α : Type} (n : Nat) : FuncId → List D → (Res → Option α) → Option α := tabC [(40, byShape spec_l11New_sh (spec_l11New_run n))]
def spec_NewDesk_M : FuncId → List Nat := tabM []
def spec_NewDesk_lps {α : Type} : List (LoopT α) := []
def spec_NewDesk_X {α : Type} (n : Nat) : Ctx α := ⟨spec_NewDesk_C n, spec_NewDesk_M, eqs, lpOf spec_NewDesk_lps n⟩
def spec_NewDesk_run {α : Type} (n : Nat) (p : List P1) (κ : Res → Option α) : Option α := match p with
  | [] => spec_NewDesk n (fun v1 v2 v3 v4 v5 v6 v7 v8 v9 v10 v11 => κ ⟨[.agg [.int .i64 v1, .int .i64 v2, .int .i64 v3, .int .i64 v4, .int .i64 v5, .int .i64 v6, .int .i64 v7, .int .i64 v8, .int .i64 v9, .int .i64 v10, .int .i64 v11]], []⟩)
  | _ => none
def spec_NewDesk_Lt (np : Nat) (lent : List (Bool × Nat × Blk)) : Prop := np = 0 ∧ lent = []
theorem spec_NewDesk_ev {α : Type} (n : Nat)  (κ : Res → Option α) : evFn Try.prog (spec_NewDesk_X n) Try.f21 (((buildDs spec_NewDesk_sh []).map Prod.fst).getD []) κ = spec_NewDesk_run n [] κ := by kernel_rfl
theorem spec_NewDesk_en  : (entry 0 (((buildDs spec_NewDesk_sh []).map Prod.fst).getD [])).map (fun x => (x.1.length, x.2.lent)) = some (0, []) := by kernel_rfl
theorem spec_NewDesk_good {α : Type} : ∀ n, GoodFn (α := α) Try.prog 21 (byShape spec_NewDesk_sh (spec_NewDesk_run n)) := by
  refine fn_good' Try.func21 (c := (Try.f21.body.getD .skip)) (by kernel_rfl) (by kernel_rfl) (by kernel_rfl) spec_NewDesk_C spec_NewDesk_M eqs spec_NewDesk_lps (fun n => tabC_good (List.forall_mem_cons.2 ⟨spec_l11New_good n, (fun _ h => absurd h List.not_mem_nil)⟩)) eqs_ok spec_NewDesk_Lt ?_ ?_ spec_NewDesk_sh spec_NewDesk_run ?_
  · exact (fun _ h => absurd h List.not_mem_nil)
  · exact (fun _ h => absurd h List.not_mem_nil)
  · intro n p κ r ds hd hr
    have hr0 := hr
    unfold spec_NewDesk_run at hr
    split at hr
    · rw [← ds_of hd]
      exact ⟨en_of (spec_NewDesk_en) ⟨rfl, rfl⟩, (spec_NewDesk_ev n κ).trans hr0⟩
    · cases hr

/-! loop.example/g01297/impl.NewDesk -/
def impl_NewDesk_sh : List SkD := []
def impl_NewDesk_C {α : Type} (n : Nat) : FuncId → List D → (Res → Option α) → Option α := tabC []
def impl_NewDesk_M : FuncId → List Nat := tabM []
def impl_NewDesk_lps {α : Type} : List (LoopT α) := []
def impl_NewDesk_X {α : Type} (n : Nat) : Ctx α := ⟨impl_NewDesk_C n, impl_NewDesk_M, eqs, lpOf impl_NewDesk_lps n⟩
def impl_NewDesk_run {α : Type} (n : Nat) (p : List P1) (κ : Res → Option α) : Option α := match p with
  | [] => impl_NewDesk n (fun v1 v2 v3 v4 v5 v6 v7 v8 v9 v10 v11 => κ ⟨[.agg [.int .i64 v1, .int .i64 v2, .int .i64 v3, .int .i64 v4, .int .i64 v5, .int .i64 v6, .int .i64 v7, .int .i64 v8, .int .i64 v9, .int .i64 v10, .int .i64 v11]], []⟩)
  | _ => none
def impl_NewDesk_Lt (np : Nat) (lent : List (Bool × Nat × Blk)) : Prop := np = 0 ∧ lent = []
theorem impl_NewDesk_ev {α : Type} (n : Nat)  (κ : Res → Option α) : evFn Try.prog (impl_NewDesk_X n) Try.f22 (((buildDs impl_NewDesk_sh []).map Prod.fst).getD []) κ = impl_NewDesk_run n [] κ := by kernel_rfl
theorem impl_NewDesk_en  : (entry 0 (((buildDs impl_NewDesk_sh []).map Prod.fst).getD [])).map (fun x => (x.1.length, x.2.lent)) = some (0, []) := by kernel_rfl
theorem impl_NewDesk_good {α : Type} : ∀ n, GoodFn (α := α) Try.prog 22 (byShape impl_NewDesk_sh (impl_NewDesk_run n)) := by
  refine fn_good' Try.func22 (c := (Try.f22.body.getD .skip)) (by kernel_rfl) (by kernel_rfl) (by kernel_rfl) impl_NewDesk_C impl_NewDesk_M eqs impl_NewDesk_lps (fun n => tabC_good (fun _ h => absurd h List.not_mem_nil)) eqs_ok impl_NewDesk_Lt ?_ ?_ impl_NewDesk_sh impl_NewDesk_run ?_
  · exact (fun _ h => absurd h List.not_mem_nil)
  · exact (fun _ h => absurd h List.not_mem_nil)
  · intro n p κ r ds hd hr
    have hr0 := hr
    unfold impl_NewDesk_run at hr
    split at hr
    · rw [← ds_of hd]
      exact ⟨en_of (impl_NewDesk_en) ⟨rfl, rfl⟩, (impl_NewDesk_ev n κ).trans hr0⟩
    · cases hr

/-! loop.example/g01297/laws.eqPoint -/
def laws_eqPoint_sh : List SkD := [.agg [.int .i64, .int .i64], .agg [.int .i64, .int .i64]]
def laws_eqPoint_C {α : Type} (n : Nat) : FuncId → List D → (Res → Option α) → Option α := tabC []
def laws_eqPoint_M : FuncId → List Nat := tabM []
def laws_eqPoint_lps {α : Type} : List (LoopT α) := []
def laws_eqPoint_X {α : Type} (n : Nat) : Ctx α := ⟨laws_eqPoint_C n, laws_eqPoint_M, eqs, lpOf laws_eqPoint_lps n⟩
def laws_eqPoint_run {α : Type} (n : Nat) (p : List P1) (κ : Res → Option α) : Option α := match p with
  | [.int a, .int a1, .int b_, .int b_1] => laws_eqPoint n a a1 b_ b_1 (fun v1 => κ ⟨[.bool v1], []⟩)
  | _ => none
def laws_eqPoint_Lt (np : Nat) (lent : List (Bool × Nat × Blk)) : Prop := np = 2 ∧ lent = []
theorem laws_eqPoint_ev {α : Type} (n : Nat) (a : Int) (a1 : Int) (b_ : Int) (b_1 : Int) (κ : Res → Option α) : evFn Try.prog (laws_eqPoint_X n) Try.f41 (((buildDs laws_eqPoint_sh [.int a, .int a1, .int b_, .int b_1]).map Prod.fst).getD []) κ = laws_eqPoint_run n [.int a, .int a1, .int b_, .int b_1] κ := by kernel_rfl
theorem laws_eqPoint_en (a : Int) (a1 : Int) (b_ : Int) (b_1 : Int) : (entry 0 (((buildDs laws_eqPoint_sh [.int a, .int a1, .int b_, .int b_1]).map Prod.fst).getD [])).map (fun x => (x.1.length, x.2.lent)) = some (2, []) := by kernel_rfl
theorem laws_eqPoint_good {α : Type} : ∀ n, GoodFn (α := α) Try.prog 41 (byShape laws_eqPoint_sh (laws_eqPoint_run n)) := by
  refine fn_good' Try.func41 (c := (Try.f41.body.getD .skip)) (by kernel_rfl) (by kernel_rfl) (by kernel_rfl) laws_eqPoint_C laws_eqPoint_M eqs laws_eqPoint_lps (fun n => tabC_good (fun _ h => absurd h List.not_mem_nil)) eqs_ok laws_eqPoint_Lt ?_ ?_ laws_eqPoint_sh laws_eqPoint_run ?_
  · exact (fun _ h => absurd h List.not_mem_nil)
  · exact (fun _ h => absurd h List.not_mem_nil)
  · intro n p κ r ds hd hr
    have hr0 := hr
    unfold laws_eqPoint_run at hr
    split at hr
    · rw [← ds_of hd]
      exact ⟨en_of (laws_eqPoint_en _ _ _ _) ⟨rfl, rfl⟩, (laws_eqPoint_ev n _ _ _ _ κ).trans hr0⟩
    · cases hr

/-! loop.example/g01297/laws.eqInt64A2 -/
def laws_eqInt64A2_sh : List SkD := [.agg [.int .i64, .int .i64], .agg [.int .i64, .int .i64]]
def laws_eqInt64A2_C {α : Type} (n : Nat) : FuncId → List D → (Res → Option α) → Option α := tabC []
def laws_eqInt64A2_M : FuncId → List Nat := tabM []
def laws_eqInt64A2_lps {α : Type} : List (LoopT α) := []
def laws_eqInt64A2_X {α : Type} (n : Nat) : Ctx α := ⟨laws_eqInt64A2_C n, laws_eqInt64A2_M, eqs, lpOf laws_eqInt64A2_lps n⟩
def laws_eqInt64A2_run {α : Type} (n : Nat) (p : List P1) (κ : Res → Option α) : Option α := match p with
  | [.int a, .int a1, .int b_, .int b_1] => laws_eqInt64A2 n a a1 b_ b_1 (fun v1 => κ ⟨[.bool v1], []⟩)
  | _ => none
def laws_eqInt64A2_Lt (np : Nat) (lent : List (Bool × Nat × Blk)) : Prop := np = 2 ∧ lent = []
theorem laws_eqInt64A2_ev {α : Type} (n : Nat) (a : Int) (a1 : Int) (b_ : Int) (b_1 : Int) (κ : Res → Option α) : evFn Try.prog (laws_eqInt64A2_X n) Try.f51 (((buildDs laws_eqInt64A2_sh [.int a, .int a1, .int b_, .int b_1]).map Prod.fst).getD []) κ = laws_eqInt64A2_run n [.int a, .int a1, .int b_, .int b_1] κ := by kernel_rfl
theorem laws_eqInt64A2_en (a : Int) (a1 : Int) (b_ : Int) (b_1 : Int) : (entry 0 (((buildDs laws_eqInt64A2_sh [.int a, .int a1, .int b_, .int b_1]).map Prod.fst).getD [])).map (fun x => (x.1.length, x.2.lent)) = some (2, []) := by kernel_rfl
theorem laws_eqInt64A2_good {α : Type} : ∀ n, GoodFn (α := α) Try.prog 51 (byShape laws_eqInt64A2_sh (laws_eqInt64A2_run n)) := by
  refine fn_good' Try.func51 (c := (Try.f51.body.getD .skip)) (by kernel_rfl) (by kernel_rfl) (by kernel_rfl) laws_eqInt64A2_C laws_eqInt64A2_M eqs laws_eqInt64A2_lps (fun n => tabC_good (fun _ h => absurd h List.not_mem_nil)) eqs_ok laws_eqInt64A2_Lt ?_ ?_ laws_eqInt64A2_sh laws_eqInt64A2_run ?_
  · exact (fun _ h => absurd h List.not_mem_nil)
  · exact (fun _ h => absurd h List.not_mem_nil)
  · intro n p κ r ds hd hr
    have hr0 := hr
    unfold laws_eqInt64A2_run at hr
    split at hr
    · rw [← ds_of hd]
      exact ⟨en_of (laws_eqInt64A2_en _ _ _ _) ⟨rfl, rfl⟩, (laws_eqInt64A2_ev n _ _ _ _ κ).trans hr0⟩
    · cases hr

/-! loop.example/g01297/laws.eqMatrix -/
def laws_eqMatrix_sh : List SkD := [.agg [.int .i64, .int .i64, .int .i64, .int .i64], .agg [.int .i64, .int .i64, .int .i64, .int .i64]]
def laws_eqMatrix_C {α : Type} (n : Nat) : FuncId → List D → (Res → Option α) → Option α := tabC [(51, byShape laws_eqInt64A2_sh (laws_eqInt64A2_run n))]
def laws_eqMatrix_M : FuncId → List Nat := tabM []
def laws_eqMatrix_lps {α : Type} : List (LoopT α) := []
def laws_eqMatrix_X {α : Type} (n : Nat) : Ctx α := ⟨laws_eqMatrix_C n, laws_eqMatrix_M, eqs, lpOf laws_eqMatrix_lps n⟩
def laws_eqMatrix_run {α : Type} (n : Nat) (p : List P1) (κ : Res → Option α) : Option α := match p with
  | [.int a, .int a1, .int a2, .int a3, .int b_, .int b_1, .int b_2, .int b_3] => laws_eqMatrix n a a1 a2 a3 b_ b_1 b_2 b_3 (fun v1 => κ ⟨[.bool v1], []⟩)
  | _ => none
def laws_eqMatrix_Lt (np : Nat) (lent : List (Bool × Nat × Blk)) : Prop := np = 2 ∧ lent = []
theorem laws_eqMatrix_ev {α : Type} (n : Nat) (a : Int) (a1 : Int) (a2 : Int) (a3 : Int) (b_ : Int) (b_1 : Int) (b_2 : Int) (b_3 : Int) (κ : Res → Option α) : evFn Try.prog (laws_eqMatrix_X n) Try.f42 (((buildDs laws_eqMatrix_sh [.int a, .int a1, .int a2, .int a3, .int b_, .int b_1, .int b_2, .int b_3]).map Prod.fst).getD []) κ = laws_eqMatrix_run n [.int a, .int a1, .int a2, .int a3, .int b_, .int b_1, .int b_2, .int b_3] κ := by kernel_rfl
theorem laws_eqMatrix_en (a : Int) (a1 : Int) (a2 : Int) (a3 : Int) (b_ : Int) (b_1 : Int) (b_2 : Int) (b_3 : Int) : (entry 0 (((buildDs laws_eqMatrix_sh [.int a, .int a1, .int a2, .int a3, .int b_, .int b_1, .int b_2, .int b_3]).map Prod.fst).getD [])).map (fun x => (x.1.length, x.2.lent)) = some (2, []) := by kernel_rfl
theorem laws_eqMatrix_good {α : Type} : ∀ n, GoodFn (α := α) Try.prog 42 (byShape laws_eqMatrix_sh (laws_eqMatrix_run n)) := by
  refine fn_good' Try.func42 (c := (Try.f42.body.getD .skip)) (by kernel_rfl) (by kernel_rfl) (by kernel_rfl) laws_eqMatrix_C laws_eqMatrix_M eqs laws_eqMatrix_lps (fun n => tabC_good (List.forall_mem_cons.2 ⟨laws_eqInt64A2_good n, (fun _ h => absurd h List.not_mem_nil)⟩)) eqs_ok laws_eqMatrix_Lt ?_ ?_ laws_eqMatrix_sh laws_eqMatrix_run ?_
  · exact (fun _ h => absurd h List.not_mem_nil)
  · exact (fun _ h => absurd h List.not_mem_nil)
  · intro n p κ r ds hd hr
    have hr0 := hr
    unfold laws_eqMatrix_run at hr
    split at hr
    · rw [← ds_of hd]
      exact ⟨en_of (laws_eqMatrix_en _ _ _ _ _ _ _ _) ⟨rfl, rfl⟩, (laws_eqMatrix_ev n _ _ _ _ _ _ _ _ κ).trans hr0⟩
    · cases hr

/-! loop.example/g01297/laws.eqForm -/
def laws_eqForm_sh : List SkD := [.agg [.int .i64, .int .i64, .int .i64], .agg [.int .i64, .int .i64, .int .i64]]
def laws_eqForm_C {α : Type} (n : Nat) : FuncId → List D → (Res → Option α) → Option α := tabC []
def laws_eqForm_M : FuncId → List Nat := tabM []
def laws_eqForm_lps {α : Type} : List (LoopT α) := []
def laws_eqForm_X {α : Type} (n : Nat) : Ctx α := ⟨laws_eqForm_C n, laws_eqForm_M, eqs, lpOf laws_eqForm_lps n⟩
def laws_eqForm_run {α : Type} (n : Nat) (p : List P1) (κ : Res → Option α) : Option α := match p with
  | [.int a, .int a1, .int a2, .int b_, .int b_1, .int b_2] => laws_eqForm n a a1 a2 b_ b_1 b_2 (fun v1 => κ ⟨[.bool v1], []⟩)
  | _ => none
def laws_eqForm_Lt (np : Nat) (lent : List (Bool × Nat × Blk)) : Prop := np = 2 ∧ lent = []
theorem laws_eqForm_ev {α : Type} (n : Nat) (a : Int) (a1 : Int) (a2 : Int) (b_ : Int) (b_1 : Int) (b_2 : Int) (κ : Res → Option α) : evFn Try.prog (laws_eqForm_X n) Try.f43 (((buildDs laws_eqForm_sh [.int a, .int a1, .int a2, .int b_, .int b_1, .int b_2]).map Prod.fst).getD []) κ = laws_eqForm_run n [.int a, .int a1, .int a2, .int b_, .int b_1, .int b_2] κ := by kernel_rfl
theorem laws_eqForm_en (a : Int) (a1 : Int) (a2 : Int) (b_ : Int) (b_1 : Int) (b_2 : Int) : (entry 0 (((buildDs laws_eqForm_sh [.int a, .int a1, .int a2, .int b_, .int b_1, .int b_2]).map Prod.fst).getD [])).map (fun x => (x.1.length, x.2.lent)) = some (2, []) := by kernel_rfl
theorem laws_eqForm_good {α : Type} : ∀ n, GoodFn (α := α) Try.prog 43 (byShape laws_eqForm_sh (laws_eqForm_run n)) := by
  refine fn_good' Try.func43 (c := (Try.f43.body.getD .skip)) (by kernel_rfl) (by kernel_rfl) (by kernel_rfl) laws_eqForm_C laws_eqForm_M eqs laws_eqForm_lps (fun n => tabC_good (fun _ h => absurd h List.not_mem_nil)) eqs_ok laws_eqForm_Lt ?_ ?_ laws_eqForm_sh laws_eqForm_run ?_
  · exact (fun _ h => absurd h List.not_mem_nil)
  · exact (fun _ h => absurd h List.not_mem_nil)
  · intro n p κ r ds hd hr
    have hr0 := hr
    unfold laws_eqForm_run at hr
    split at hr
    · rw [← ds_of hd]
      exact ⟨en_of (laws_eqForm_en _ _ _ _ _ _) ⟨rfl, rfl⟩, (laws_eqForm_ev n _ _ _ _ _ _ κ).trans hr0⟩
    · cases hr

/-! loop.example/g01297/laws.eqDesk -/
def laws_eqDesk_sh : List SkD := [.agg [.int .i64, .int .i64, .int .i64, .int .i64, .int .i64, .int .i64, .int .i64, .int .i64, .int .i64, .int .i64, .int .i64], .agg [.int .i64, .int .i64, .int .i64, .int .i64, .int .i64, .int .i64, .int .i64, .int .i64, .int .i64, .int .i64, .int .i64]]
def laws_eqDesk_C {α : Type} (n : Nat) : FuncId → List D → (Res → Option α) → Option α := tabC [(41, byShape laws_eqPoint_sh (laws_eqPoint_run n)), (42, byShape laws_eqMatrix_sh (laws_eqMatrix_run n)), (43, byShape laws_eqForm_sh (laws_eqForm_run n))]
def laws_eqDesk_M : FuncId → List Nat := tabM []
def laws_eqDesk_lps {α : Type} : List (LoopT α) := []
def laws_eqDesk_X {α : Type} (n : Nat) : Ctx α := ⟨laws_eqDesk_C n, laws_eqDesk_M, eqs, lpOf laws_eqDesk_lps n⟩
def laws_eqDesk_run {α : Type} (n : Nat) (p : List P1) (κ : Res → Option α) : Option α := match p with
  | [.int a, .int a1, .int a2, .int a3, .int a4, .int a5, .int a6, .int a7, .int a8, .int a9, .int a10, .int b_, .int b_1, .int b_2, .int b_3, .int b_4, .int b_5, .int b_6, .int b_7, .int b_8, .int b_9, .int b_10] => laws_eqDesk n a a1 a2 a3 a4 a5 a6 a7 a8 a9 a10 b_ b_1 b_2 b_3 b_4 b_5 b_6 b_7 b_8 b_9 b_10 (fun v1 => κ ⟨[.bool v1], []⟩)
  | _ => none
def laws_eqDesk_Lt (np : Nat) (lent : List (Bool × Nat × Blk)) : Prop := np = 2 ∧ lent = []
theorem laws_eqDesk_ev {α : Type} (n : Nat) (a : Int) (a1 : Int) (a2 : Int) (a3 : Int) (a4 : Int) (a5 : Int) (a6 : Int) (a7 : Int) (a8 : Int) (a9 : Int) (a10 : Int) (b_ : Int) (b_1 : Int) (b_2 : Int) (b_3 : Int) (b_4 : Int) (b_5 : Int) (b_6 : Int) (b_7 : Int) (b_8 : Int) (b_9 : Int) (b_10 : Int) (κ : Res → Option α) : evFn Try.prog (laws_eqDesk_X n) Try.f23 (((buildDs laws_eqDesk_sh [.int a, .int a1, .int a2, .int a3, .int a4, .int a5, .int a6, .int a7, .int a8, .int a9, .int a10, .int b_, .int b_1, .int b_2, .int b_3, .int b_4, .int b_5, .int b_6, .int b_7, .int b_8, .int b_9, .int b_10]).map Prod.fst).getD []) κ = laws_eqDesk_run n [.int a, .int a1, .int a2, .int a3, .int a4, .int a5, .int a6, .int a7, .int a8, .int a9, .int a10, .int b_, .int b_1, .int b_2, .int b_3, .int b_4, .int b_5, .int b_6, .int b_7, .int b_8, .int b_9, .int b_10] κ := by kernel_rfl
theorem laws_eqDesk_en (a : Int) (a1 : Int) (a2 : Int) (a3 : Int) (a4 : Int) (a5 : Int) (a6 : Int) (a7 : Int) (a8 : Int) (a9 : Int) (a10 : Int) (b_ : Int) (b_1 : Int) (b_2 : Int) (b_3 : Int) (b_4 : Int) (b_5 : Int) (b_6 : Int) (b_7 : Int) (b_8 : Int) (b_9 : Int) (b_10 : Int) : (entry 0 (((buildDs laws_eqDesk_sh [.int a, .int a1, .int a2, .int a3, .int a4, .int a5, .int a6, .int a7, .int a8, .int a9, .int a10, .int b_, .int b_1, .int b_2, .int b_3, .int b_4, .int b_5, .int b_6, .int b_7, .int b_8, .int b_9, .int b_10]).map Prod.fst).getD [])).map (fun x => (x.1.length, x.2.lent)) = some (2, []) := by kernel_rfl
theorem laws_eqDesk_good {α : Type} : ∀ n, GoodFn (α := α) Try.prog 23 (byShape laws_eqDesk_sh (laws_eqDesk_run n)) := by
  refine fn_good' Try.func23 (c := (Try.f23.body.getD .skip)) (by kernel_rfl) (by kernel_rfl) (by kernel_rfl) laws_eqDesk_C laws_eqDesk_M eqs laws_eqDesk_lps (fun n => tabC_good (List.forall_mem_cons.2 ⟨laws_eqPoint_good n, (List.forall_mem_cons.2 ⟨laws_eqMatrix_good n, (List.forall_mem_cons.2 ⟨laws_eqForm_good n, (fun _ h => absurd h List.not_mem_nil)⟩)⟩)⟩)) eqs_ok laws_eqDesk_Lt ?_ ?_ laws_eqDesk_sh laws_eqDesk_run ?_
  · exact (fun _ h => absurd h List.not_mem_nil)
  · exact (fun _ h => absurd h List.not_mem_nil)
  · intro n p κ r ds hd hr
    have hr0 := hr
    unfold laws_eqDesk_run at hr
    split at hr
    · rw [← ds_of hd]
      exact ⟨en_of (laws_eqDesk_en _ _ _ _ _ _ _ _ _ _ _ _ _ _ _ _ _ _ _ _ _ _) ⟨rfl, rfl⟩, (laws_eqDesk_ev n _ _ _ _ _ _ _ _ _ _ _ _ _ _ _ _ _ _ _ _ _ _ κ).trans hr0⟩
    · cases hr

/-! loop.example/g01297/laws.FnExactNewDesk -/
def laws_FnExactNewDesk_sh : List SkD := []
def laws_FnExactNewDesk_C {α : Type} (n : Nat) : FuncId → List D → (Res → Option α) → Option α := tabC [(21, byShape spec_NewDesk_sh (spec_NewDesk_run n)), (22, byShape impl_NewDesk_sh (impl_NewDesk_run n)), (23, byShape laws_eqDesk_sh (laws_eqDesk_run n))]
def laws_FnExactNewDesk_M : FuncId → List Nat := tabM []
def laws_FnExactNewDesk_lps {α : Type} : List (LoopT α) := []
def laws_FnExactNewDesk_X {α : Type} (n : Nat) : Ctx α := ⟨laws_FnExactNewDesk_C n, laws_FnExactNewDesk_M, eqs, lpOf laws_FnExactNewDesk_lps n⟩
def laws_FnExactNewDesk_run {α : Type} (n : Nat) (p : List P1) (κ : Res → Option α) : Option α := match p with
  | [] => laws_FnExactNewDesk n (fun v1 => κ ⟨[.bool v1], []⟩)
  | _ => none
def laws_FnExactNewDesk_Lt (np : Nat) (lent : List (Bool × Nat × Blk)) : Prop := np = 0 ∧ lent = []
theorem laws_FnExactNewDesk_ev {α : Type} (n : Nat)  (κ : Res → Option α) : evFn Try.prog (laws_FnExactNewDesk_X n) Try.f8 (((buildDs laws_FnExactNewDesk_sh []).map Prod.fst).getD []) κ = laws_FnExactNewDesk_run n [] κ := by kernel_rfl
theorem laws_FnExactNewDesk_en  : (entry 0 (((buildDs laws_FnExactNewDesk_sh []).map Prod.fst).getD [])).map (fun x => (x.1.length, x.2.lent)) = some (0, []) := by kernel_rfl
theorem laws_FnExactNewDesk_good {α : Type} : ∀ n, GoodFn (α := α) Try.prog 8 (byShape laws_FnExactNewDesk_sh (laws_FnExactNewDesk_run n)) := by
  refine fn_good' Try.func8 (c := (Try.f8.body.getD .skip)) (by kernel_rfl) (by kernel_rfl) (by kernel_rfl) laws_FnExactNewDesk_C laws_FnExactNewDesk_M eqs laws_FnExactNewDesk_lps (fun n => tabC_good (List.forall_mem_cons.2 ⟨spec_NewDesk_good n, (List.forall_mem_cons.2 ⟨impl_NewDesk_good n, (List.forall_mem_cons.2 ⟨laws_eqDesk_good n, (fun _ h => absurd h List.not_mem_nil)⟩)⟩)⟩)) eqs_ok laws_FnExactNewDesk_Lt ?_ ?_ laws_FnExactNewDesk_sh laws_FnExactNewDesk_run ?_
  · exact (fun _ h => absurd h List.not_mem_nil)
  · exact (fun _ h => absurd h List.not_mem_nil)
  · intro n p κ r ds hd hr
    have hr0 := hr
    unfold laws_FnExactNewDesk_run at hr
    split at hr
    · rw [← ds_of hd]
      exact ⟨en_of (laws_FnExactNewDesk_en) ⟨rfl, rfl⟩, (laws_FnExactNewDesk_ev n κ).trans hr0⟩
    · cases hr

end Go.Proofs.Ytfefgadhaafeiaa
