/- The program's functions hold to their readings without memory: printed by a program of ours. -/
import Derived.Test.YtnfpidnnmgedfaaSeXCycleOfForm
namespace Go.Proofs.Ytnfpidnnmgedfaa
open Go Go.Ev Go.Sh Go.Proofs

/-! loop.example/g01297/laws.toForm -/
def laws_toForm_sh : List SkD := [.agg [.int .i64, .int .i64, .int .i64]]
def laws_toForm_runG {α : Type} (F : Nat → Int → Int → Int → (Int → Int → Int → Option α) → Option α) (n : Nat) (p : List P1) (κ : Res → Option α) : Option α := match p with
  | [.int a, .int a1, .int a2] => F n a a1 a2 (fun v1 v2 v3 => κ ⟨[.agg [.int .i64 v1, .int .i64 v2, .int .i64 v3]], []⟩)
  | _ => none
def laws_toForm_run {α : Type} (n : Nat) (p : List P1) (κ : Res → Option α) : Option α := laws_toForm_runG laws_toForm n p κ
def laws_toForm_CG {α : Type}  (n : Nat) : FuncId → List D → (Res → Option α) → Option α := tabC []
def laws_toForm_C {α : Type} (n : Nat) : FuncId → List D → (Res → Option α) → Option α := laws_toForm_CG n
def laws_toForm_M : FuncId → List Nat := tabM []
def laws_toForm_lpsG {α : Type}  : List (LoopT α) := []
def laws_toForm_lps {α : Type} : List (LoopT α) := laws_toForm_lpsG
def laws_toForm_XG {α : Type}   (n : Nat) : Ctx α := ⟨laws_toForm_CG n, laws_toForm_M, eqs, lpOf (laws_toForm_lpsG) n⟩
def laws_toForm_X {α : Type} (n : Nat) : Ctx α := laws_toForm_XG n
def laws_toForm_Lt (np : Nat) (lent : List (Bool × Nat × Blk)) : Prop := np = 1 ∧ lent = []
def laws_toForm_body {α : Type}   (k : Nat) (a : Int) (a1 : Int) (a2 : Int) (r0 : Int → Int → Int → Option α) : Option α :=
  r0 a a1 a2
theorem laws_toForm_gen {α : Type}   (n : Nat) (a : Int) (a1 : Int) (a2 : Int) (κ : Res → Option α) : evFn Try.prog (laws_toForm_XG n) Try.f16 (((buildDs laws_toForm_sh [.int a, .int a1, .int a2]).map Prod.fst).getD []) κ = laws_toForm_body n a a1 a2 (fun v1 v2 v3 => κ ⟨[.agg [.int .i64 v1, .int .i64 v2, .int .i64 v3]], []⟩) := by kernel_rfl
theorem laws_toForm_ev {α : Type} (n : Nat) (a : Int) (a1 : Int) (a2 : Int) (κ : Res → Option α) : evFn Try.prog (laws_toForm_X n) Try.f16 (((buildDs laws_toForm_sh [.int a, .int a1, .int a2]).map Prod.fst).getD []) κ = laws_toForm_run n [.int a, .int a1, .int a2] κ := (laws_toForm_gen n a a1 a2 κ).trans (by kernel_rfl)
theorem laws_toForm_en (a : Int) (a1 : Int) (a2 : Int) : (entry 0 (((buildDs laws_toForm_sh [.int a, .int a1, .int a2]).map Prod.fst).getD [])).map (fun x => (x.1.length, x.2.lent)) = some (1, []) := by kernel_rfl
theorem laws_toForm_good {α : Type} : ∀ n, GoodFn (α := α) Try.prog 16 (byShape laws_toForm_sh (laws_toForm_run n)) := by
  refine fn_good' Try.func16 (c := (Try.f16.body.getD .skip)) (by kernel_rfl) (by kernel_rfl) (by kernel_rfl) laws_toForm_C laws_toForm_M eqs laws_toForm_lps (fun n => tabC_good (fun _ h => absurd h List.not_mem_nil)) eqs_ok laws_toForm_Lt ?_ ?_ laws_toForm_sh laws_toForm_run ?_
  · exact (fun _ h => absurd h List.not_mem_nil)
  · exact (fun _ h => absurd h List.not_mem_nil)
  · intro n p κ r ds hd hr
    have hr0 := hr
    unfold laws_toForm_run laws_toForm_runG at hr
    split at hr
    · rw [← ds_of hd]
      exact ⟨en_of (laws_toForm_en _ _ _) ⟨rfl, rfl⟩, (laws_toForm_ev n _ _ _ κ).trans hr0⟩
    · cases hr

/-! loop.example/g01297/spec.l01In -/
def spec_l01In_sh : List SkD := [.int .i64, .int .i64, .int .i64]
def spec_l01In_runG {α : Type} (F : Nat → Int → Int → Int → (Bool → Option α) → Option α) (n : Nat) (p : List P1) (κ : Res → Option α) : Option α := match p with
  | [.int n_, .int low, .int high] => F n n_ low high (fun v1 => κ ⟨[.bool v1], []⟩)
  | _ => none
def spec_l01In_run {α : Type} (n : Nat) (p : List P1) (κ : Res → Option α) : Option α := spec_l01In_runG spec_l01In n p κ
def spec_l01In_CG {α : Type}  (n : Nat) : FuncId → List D → (Res → Option α) → Option α := tabC []
def spec_l01In_C {α : Type} (n : Nat) : FuncId → List D → (Res → Option α) → Option α := spec_l01In_CG n
def spec_l01In_M : FuncId → List Nat := tabM []
def spec_l01In_lpsG {α : Type}  : List (LoopT α) := []
def spec_l01In_lps {α : Type} : List (LoopT α) := spec_l01In_lpsG
def spec_l01In_XG {α : Type}   (n : Nat) : Ctx α := ⟨spec_l01In_CG n, spec_l01In_M, eqs, lpOf (spec_l01In_lpsG) n⟩
def spec_l01In_X {α : Type} (n : Nat) : Ctx α := spec_l01In_XG n
def spec_l01In_Lt (np : Nat) (lent : List (Bool × Nat × Blk)) : Prop := np = 3 ∧ lent = []
def spec_l01In_body {α : Type}   (k : Nat) (n_ : Int) (low : Int) (high : Int) (r0 : Bool → Option α) : Option α :=
  bif decide (low ≤ n_) then
    r0 (decide (n_ ≤ high))
  else
    r0 false
theorem spec_l01In_gen {α : Type}   (n : Nat) (n_ : Int) (low : Int) (high : Int) (κ : Res → Option α) : evFn Try.prog (spec_l01In_XG n) Try.f73 (((buildDs spec_l01In_sh [.int n_, .int low, .int high]).map Prod.fst).getD []) κ = spec_l01In_body n n_ low high (fun v1 => κ ⟨[.bool v1], []⟩) := by kernel_rfl
theorem spec_l01In_ev {α : Type} (n : Nat) (n_ : Int) (low : Int) (high : Int) (κ : Res → Option α) : evFn Try.prog (spec_l01In_X n) Try.f73 (((buildDs spec_l01In_sh [.int n_, .int low, .int high]).map Prod.fst).getD []) κ = spec_l01In_run n [.int n_, .int low, .int high] κ := (spec_l01In_gen n n_ low high κ).trans (by kernel_rfl)
theorem spec_l01In_en (n_ : Int) (low : Int) (high : Int) : (entry 0 (((buildDs spec_l01In_sh [.int n_, .int low, .int high]).map Prod.fst).getD [])).map (fun x => (x.1.length, x.2.lent)) = some (3, []) := by kernel_rfl
theorem spec_l01In_good {α : Type} : ∀ n, GoodFn (α := α) Try.prog 73 (byShape spec_l01In_sh (spec_l01In_run n)) := by
  refine fn_good' Try.func73 (c := (Try.f73.body.getD .skip)) (by kernel_rfl) (by kernel_rfl) (by kernel_rfl) spec_l01In_C spec_l01In_M eqs spec_l01In_lps (fun n => tabC_good (fun _ h => absurd h List.not_mem_nil)) eqs_ok spec_l01In_Lt ?_ ?_ spec_l01In_sh spec_l01In_run ?_
  · exact (fun _ h => absurd h List.not_mem_nil)
  · exact (fun _ h => absurd h List.not_mem_nil)
  · intro n p κ r ds hd hr
    have hr0 := hr
    unfold spec_l01In_run spec_l01In_runG at hr
    split at hr
    · rw [← ds_of hd]
      exact ⟨en_of (spec_l01In_en _ _ _) ⟨rfl, rfl⟩, (spec_l01In_ev n _ _ _ κ).trans hr0⟩
    · cases hr

/-! loop.example/g01297/spec.l01Fits -/
def spec_l01Fits_sh : List SkD := [.int .i64]
def spec_l01Fits_runG {α : Type} (F : Nat → Int → (Bool → Option α) → Option α) (n : Nat) (p : List P1) (κ : Res → Option α) : Option α := match p with
  | [.int x] => F n x (fun v1 => κ ⟨[.bool v1], []⟩)
  | _ => none
def spec_l01Fits_run {α : Type} (n : Nat) (p : List P1) (κ : Res → Option α) : Option α := spec_l01Fits_runG spec_l01Fits n p κ
def spec_l01Fits_CG {α : Type} (F0 : Nat → Int → Int → Int → (Bool → Option α) → Option α) (n : Nat) : FuncId → List D → (Res → Option α) → Option α := tabC [(73, (byShape spec_l01In_sh (spec_l01In_runG F0 n)))]
def spec_l01Fits_C {α : Type} (n : Nat) : FuncId → List D → (Res → Option α) → Option α := spec_l01Fits_CG spec_l01In n
def spec_l01Fits_M : FuncId → List Nat := tabM []
def spec_l01Fits_lpsG {α : Type}  : List (LoopT α) := []
def spec_l01Fits_lps {α : Type} : List (LoopT α) := spec_l01Fits_lpsG
def spec_l01Fits_XG {α : Type} (F0 : Nat → Int → Int → Int → (Bool → Option α) → Option α)  (n : Nat) : Ctx α := ⟨spec_l01Fits_CG F0 n, spec_l01Fits_M, eqs, lpOf (spec_l01Fits_lpsG) n⟩
def spec_l01Fits_X {α : Type} (n : Nat) : Ctx α := spec_l01Fits_XG spec_l01In n
def spec_l01Fits_Lt (np : Nat) (lent : List (Bool × Nat × Blk)) : Prop := np = 1 ∧ lent = []
def spec_l01Fits_body {α : Type} (F0 : Nat → Int → Int → Int → (Bool → Option α) → Option α)  (k : Nat) (x : Int) (r0 : Bool → Option α) : Option α :=
  F0 k x (-1000000) 1000000 fun v =>
  r0 v
theorem spec_l01Fits_gen {α : Type} (F0 : Nat → Int → Int → Int → (Bool → Option α) → Option α)  (n : Nat) (x : Int) (κ : Res → Option α) : evFn Try.prog (spec_l01Fits_XG F0 n) Try.f100 (((buildDs spec_l01Fits_sh [.int x]).map Prod.fst).getD []) κ = spec_l01Fits_body F0 n x (fun v1 => κ ⟨[.bool v1], []⟩) := by kernel_rfl
theorem spec_l01Fits_ev {α : Type} (n : Nat) (x : Int) (κ : Res → Option α) : evFn Try.prog (spec_l01Fits_X n) Try.f100 (((buildDs spec_l01Fits_sh [.int x]).map Prod.fst).getD []) κ = spec_l01Fits_run n [.int x] κ := (spec_l01Fits_gen spec_l01In n x κ).trans (by kernel_rfl)
theorem spec_l01Fits_en (x : Int) : (entry 0 (((buildDs spec_l01Fits_sh [.int x]).map Prod.fst).getD [])).map (fun x => (x.1.length, x.2.lent)) = some (1, []) := by kernel_rfl
theorem spec_l01Fits_good {α : Type} : ∀ n, GoodFn (α := α) Try.prog 100 (byShape spec_l01Fits_sh (spec_l01Fits_run n)) := by
  refine fn_good' Try.func100 (c := (Try.f100.body.getD .skip)) (by kernel_rfl) (by kernel_rfl) (by kernel_rfl) spec_l01Fits_C spec_l01Fits_M eqs spec_l01Fits_lps (fun n => tabC_good (List.forall_mem_cons.2 ⟨(spec_l01In_good n), (fun _ h => absurd h List.not_mem_nil)⟩)) eqs_ok spec_l01Fits_Lt ?_ ?_ spec_l01Fits_sh spec_l01Fits_run ?_
  · exact (fun _ h => absurd h List.not_mem_nil)
  · exact (fun _ h => absurd h List.not_mem_nil)
  · intro n p κ r ds hd hr
    have hr0 := hr
    unfold spec_l01Fits_run spec_l01Fits_runG at hr
    split at hr
    · rw [← ds_of hd]
      exact ⟨en_of (spec_l01Fits_en _) ⟨rfl, rfl⟩, (spec_l01Fits_ev n _ κ).trans hr0⟩
    · cases hr

/-! loop.example/g01297/spec.l06Disc -/
def spec_l06Disc_sh : List SkD := [.agg [.int .i64, .int .i64, .int .i64]]
def spec_l06Disc_runG {α : Type} (F : Nat → Int → Int → Int → (Int → Option α) → Option α) (n : Nat) (p : List P1) (κ : Res → Option α) : Option α := match p with
  | [.int x, .int x1, .int x2] => F n x x1 x2 (fun v1 => κ ⟨[.int .i64 v1], []⟩)
  | _ => none
def spec_l06Disc_run {α : Type} (n : Nat) (p : List P1) (κ : Res → Option α) : Option α := spec_l06Disc_runG spec_l06Disc n p κ
def spec_l06Disc_CG {α : Type}  (n : Nat) : FuncId → List D → (Res → Option α) → Option α := tabC []
def spec_l06Disc_C {α : Type} (n : Nat) : FuncId → List D → (Res → Option α) → Option α := spec_l06Disc_CG n
def spec_l06Disc_M : FuncId → List Nat := tabM []
def spec_l06Disc_lpsG {α : Type}  : List (LoopT α) := []
def spec_l06Disc_lps {α : Type} : List (LoopT α) := spec_l06Disc_lpsG
def spec_l06Disc_XG {α : Type}   (n : Nat) : Ctx α := ⟨spec_l06Disc_CG n, spec_l06Disc_M, eqs, lpOf (spec_l06Disc_lpsG) n⟩
def spec_l06Disc_X {α : Type} (n : Nat) : Ctx α := spec_l06Disc_XG n
def spec_l06Disc_Lt (np : Nat) (lent : List (Bool × Nat × Blk)) : Prop := np = 1 ∧ lent = []
def spec_l06Disc_body {α : Type}   (k : Nat) (x : Int) (x1 : Int) (x2 : Int) (r0 : Int → Option α) : Option α :=
  r0 (w64 ((w64 (x1 * x1)) - (w64 ((w64 (4 * x)) * x2))))
theorem spec_l06Disc_gen {α : Type}   (n : Nat) (x : Int) (x1 : Int) (x2 : Int) (κ : Res → Option α) : evFn Try.prog (spec_l06Disc_XG n) Try.f52 (((buildDs spec_l06Disc_sh [.int x, .int x1, .int x2]).map Prod.fst).getD []) κ = spec_l06Disc_body n x x1 x2 (fun v1 => κ ⟨[.int .i64 v1], []⟩) := by kernel_rfl
theorem spec_l06Disc_ev {α : Type} (n : Nat) (x : Int) (x1 : Int) (x2 : Int) (κ : Res → Option α) : evFn Try.prog (spec_l06Disc_X n) Try.f52 (((buildDs spec_l06Disc_sh [.int x, .int x1, .int x2]).map Prod.fst).getD []) κ = spec_l06Disc_run n [.int x, .int x1, .int x2] κ := (spec_l06Disc_gen n x x1 x2 κ).trans (by kernel_rfl)
theorem spec_l06Disc_en (x : Int) (x1 : Int) (x2 : Int) : (entry 0 (((buildDs spec_l06Disc_sh [.int x, .int x1, .int x2]).map Prod.fst).getD [])).map (fun x => (x.1.length, x.2.lent)) = some (1, []) := by kernel_rfl
theorem spec_l06Disc_good {α : Type} : ∀ n, GoodFn (α := α) Try.prog 52 (byShape spec_l06Disc_sh (spec_l06Disc_run n)) := by
  refine fn_good' Try.func52 (c := (Try.f52.body.getD .skip)) (by kernel_rfl) (by kernel_rfl) (by kernel_rfl) spec_l06Disc_C spec_l06Disc_M eqs spec_l06Disc_lps (fun n => tabC_good (fun _ h => absurd h List.not_mem_nil)) eqs_ok spec_l06Disc_Lt ?_ ?_ spec_l06Disc_sh spec_l06Disc_run ?_
  · exact (fun _ h => absurd h List.not_mem_nil)
  · exact (fun _ h => absurd h List.not_mem_nil)
  · intro n p κ r ds hd hr
    have hr0 := hr
    unfold spec_l06Disc_run spec_l06Disc_runG at hr
    split at hr
    · rw [← ds_of hd]
      exact ⟨en_of (spec_l06Disc_en _ _ _) ⟨rfl, rfl⟩, (spec_l06Disc_ev n _ _ _ κ).trans hr0⟩
    · cases hr

/-! loop.example/g01297/spec.l06Root -/
def spec_l06Root_sh : List SkD := [.int .i64]
def spec_l06Root_runG {α : Type} (F : Nat → Int → (Int → Option α) → Option α) (n : Nat) (p : List P1) (κ : Res → Option α) : Option α := match p with
  | [.int d] => F n d (fun v1 => κ ⟨[.int .i64 v1], []⟩)
  | _ => none
def spec_l06Root_run {α : Type} (n : Nat) (p : List P1) (κ : Res → Option α) : Option α := spec_l06Root_runG spec_l06Root n p κ
def spec_l06Root_CG {α : Type}  (n : Nat) : FuncId → List D → (Res → Option α) → Option α := tabC []
def spec_l06Root_C {α : Type} (n : Nat) : FuncId → List D → (Res → Option α) → Option α := spec_l06Root_CG n
def spec_l06Root_M : FuncId → List Nat := tabM []
def spec_l06Root_t2 : Tpl := ⟨[.int .i64, .any, .any, .int .i64, .any, .any, .any, .any, .any, .any, .any, .any, .any, .any], [], []⟩
def spec_l06Root_uG2 {α : Type} (G : Nat → Int → Int → (Int → Int → Option α) → (Int → Option α) → Option α) (n : Nat) (p : List P1) (brk : Nat → List P1 → Option α) (ret : Res → Option α) : Option α := match p with
  | [.int d1, .int w] => G n d1 w (fun d1 w => brk 0 [.int d1, .int w]) (fun v1 => ret ⟨[.int .i64 v1], []⟩)
  | _ => none
def spec_l06Root_u2 {α : Type} (n : Nat) (p : List P1) (brk : Nat → List P1 → Option α) (ret : Res → Option α) : Option α := spec_l06Root_uG2 spec_l06Root_l2 n p brk ret
def spec_l06Root_lpsG {α : Type} (G2 : Nat → Int → Int → (Int → Int → Option α) → (Int → Option α) → Option α) : List (LoopT α) := [⟨2, spec_l06Root_t2, spec_l06Root_uG2 G2⟩]
def spec_l06Root_lps {α : Type} : List (LoopT α) := spec_l06Root_lpsG spec_l06Root_l2
def spec_l06Root_XG {α : Type}  (G2 : Nat → Int → Int → (Int → Int → Option α) → (Int → Option α) → Option α) (n : Nat) : Ctx α := ⟨spec_l06Root_CG n, spec_l06Root_M, eqs, lpOf (spec_l06Root_lpsG G2) n⟩
def spec_l06Root_X {α : Type} (n : Nat) : Ctx α := spec_l06Root_XG spec_l06Root_l2 n
def spec_l06Root_Lt (np : Nat) (lent : List (Bool × Nat × Blk)) : Prop := np = 1 ∧ lent = []
def spec_l06Root_lb2 {α : Type}  (G2 : Nat → Int → Int → (Int → Int → Option α) → (Int → Option α) → Option α) (k : Nat) (d1 : Int) (w : Int) (b0 : Int → Int → Option α) (r0 : Int → Option α) : Option α :=
  bif decide ((w64 ((w64 (w + 1)) * (w64 (w + 1)))) ≤ d1) then
    G2 k d1 (w64 (w + 1)) b0 r0
  else
    b0 d1 w
theorem spec_l06Root_l2_gen {α : Type}  (G2 : Nat → Int → Int → (Int → Int → Option α) → (Int → Option α) → Option α) (n : Nat) (d1 : Int) (w : Int) (brk : Nat → List P1 → Option α) (ret : Res → Option α) : ev ((spec_l06Root_XG G2 n).env Try.prog Try.f101 1 []) (findLoop (loopsIn (Try.f101.body.getD .skip)) 2) ((spec_l06Root_t2.build [.int d1, .int w]).getD ⟨[], []⟩) (roundK (1 * 64) spec_l06Root_t2 (fun q => spec_l06Root_uG2 G2 n q brk ret) brk ret) = spec_l06Root_lb2 G2 n d1 w (fun d1 w => brk 0 [.int d1, .int w]) (fun v1 => ret ⟨[.int .i64 v1], []⟩) := by kernel_rfl
theorem spec_l06Root_l2_ev {α : Type} (n : Nat) (d1 : Int) (w : Int) (brk : Nat → List P1 → Option α) (ret : Res → Option α) : ev ((spec_l06Root_X n).env Try.prog Try.f101 1 []) (findLoop (loopsIn (Try.f101.body.getD .skip)) 2) ((spec_l06Root_t2.build [.int d1, .int w]).getD ⟨[], []⟩) (roundK (1 * 64) spec_l06Root_t2 (fun q => spec_l06Root_u2 n q brk ret) brk ret) = spec_l06Root_u2 (n + 1) [.int d1, .int w] brk ret := (spec_l06Root_l2_gen spec_l06Root_l2 n d1 w brk ret).trans (by kernel_rfl)
def spec_l06Root_body {α : Type}  (G2 : Nat → Int → Int → (Int → Int → Option α) → (Int → Option α) → Option α) (k : Nat) (d : Int) (r0 : Int → Option α) : Option α :=
  G2 k d 0
    (fun d2 w1 =>
      r0 w1)
    r0
theorem spec_l06Root_gen {α : Type}  (G2 : Nat → Int → Int → (Int → Int → Option α) → (Int → Option α) → Option α) (n : Nat) (d : Int) (κ : Res → Option α) : evFn Try.prog (spec_l06Root_XG G2 n) Try.f101 (((buildDs spec_l06Root_sh [.int d]).map Prod.fst).getD []) κ = spec_l06Root_body G2 n d (fun v1 => κ ⟨[.int .i64 v1], []⟩) := by kernel_rfl
theorem spec_l06Root_ev {α : Type} (n : Nat) (d : Int) (κ : Res → Option α) : evFn Try.prog (spec_l06Root_X n) Try.f101 (((buildDs spec_l06Root_sh [.int d]).map Prod.fst).getD []) κ = spec_l06Root_run n [.int d] κ := (spec_l06Root_gen spec_l06Root_l2 n d κ).trans (by kernel_rfl)
theorem spec_l06Root_en (d : Int) : (entry 0 (((buildDs spec_l06Root_sh [.int d]).map Prod.fst).getD [])).map (fun x => (x.1.length, x.2.lent)) = some (1, []) := by kernel_rfl
theorem spec_l06Root_good {α : Type} : ∀ n, GoodFn (α := α) Try.prog 101 (byShape spec_l06Root_sh (spec_l06Root_run n)) := by
  refine fn_good' Try.func101 (c := (Try.f101.body.getD .skip)) (by kernel_rfl) (by kernel_rfl) (by kernel_rfl) spec_l06Root_C spec_l06Root_M eqs spec_l06Root_lps (fun n => tabC_good (fun _ h => absurd h List.not_mem_nil)) eqs_ok spec_l06Root_Lt ?_ ?_ spec_l06Root_sh spec_l06Root_run ?_
  · refine List.forall_mem_cons.2 ⟨?_, (fun _ h => absurd h List.not_mem_nil)⟩
    · intro p brk ret; show spec_l06Root_u2 0 p brk ret = none; unfold spec_l06Root_u2 spec_l06Root_uG2; split <;> rfl
  · refine List.forall_mem_cons.2 ⟨?_, (fun _ h => absurd h List.not_mem_nil)⟩
    · intro np lent hL n p brk ret st r hb hr
      obtain ⟨rfl, rfl⟩ := hL
      rw [← tpl_of hb]
      change spec_l06Root_u2 (n + 1) p brk ret = some r at hr
      have hr0 := hr
      unfold spec_l06Root_u2 spec_l06Root_uG2 at hr
      split at hr
      · exact (spec_l06Root_l2_ev n _ _ brk ret).trans hr0
      · cases hr
  · intro n p κ r ds hd hr
    have hr0 := hr
    unfold spec_l06Root_run spec_l06Root_runG at hr
    split at hr
    · rw [← ds_of hd]
      exact ⟨en_of (spec_l06Root_en _) ⟨rfl, rfl⟩, (spec_l06Root_ev n _ κ).trans hr0⟩
    · cases hr

/-! loop.example/g01297/spec.l06Is -/
def spec_l06Is_sh : List SkD := [.agg [.int .i64, .int .i64, .int .i64]]
def spec_l06Is_runG {α : Type} (F : Nat → Int → Int → Int → (Bool → Option α) → Option α) (n : Nat) (p : List P1) (κ : Res → Option α) : Option α := match p with
  | [.int x, .int x1, .int x2] => F n x x1 x2 (fun v1 => κ ⟨[.bool v1], []⟩)
  | _ => none
def spec_l06Is_run {α : Type} (n : Nat) (p : List P1) (κ : Res → Option α) : Option α := spec_l06Is_runG spec_l06Is n p κ
def spec_l06Is_CG {α : Type} (F0 : Nat → Int → (Bool → Option α) → Option α) (F1 : Nat → Int → Int → Int → (Int → Option α) → Option α) (F2 : Nat → Int → Int → Int → (Bool → Option α) → Option α) (F3 : Nat → Int → (Int → Option α) → Option α) (n : Nat) : FuncId → List D → (Res → Option α) → Option α := tabC [(100, (byShape spec_l01Fits_sh (spec_l01Fits_runG F0 n))), (52, (byShape spec_l06Disc_sh (spec_l06Disc_runG F1 n))), (73, (byShape spec_l01In_sh (spec_l01In_runG F2 n))), (101, (byShape spec_l06Root_sh (spec_l06Root_runG F3 n)))]
def spec_l06Is_C {α : Type} (n : Nat) : FuncId → List D → (Res → Option α) → Option α := spec_l06Is_CG spec_l01Fits spec_l06Disc spec_l01In spec_l06Root n
def spec_l06Is_M : FuncId → List Nat := tabM []
def spec_l06Is_lpsG {α : Type}  : List (LoopT α) := []
def spec_l06Is_lps {α : Type} : List (LoopT α) := spec_l06Is_lpsG
def spec_l06Is_XG {α : Type} (F0 : Nat → Int → (Bool → Option α) → Option α) (F1 : Nat → Int → Int → Int → (Int → Option α) → Option α) (F2 : Nat → Int → Int → Int → (Bool → Option α) → Option α) (F3 : Nat → Int → (Int → Option α) → Option α)  (n : Nat) : Ctx α := ⟨spec_l06Is_CG F0 F1 F2 F3 n, spec_l06Is_M, eqs, lpOf (spec_l06Is_lpsG) n⟩
def spec_l06Is_X {α : Type} (n : Nat) : Ctx α := spec_l06Is_XG spec_l01Fits spec_l06Disc spec_l01In spec_l06Root n
def spec_l06Is_Lt (np : Nat) (lent : List (Bool × Nat × Blk)) : Prop := np = 1 ∧ lent = []
def spec_l06Is_body {α : Type} (F0 : Nat → Int → (Bool → Option α) → Option α) (F1 : Nat → Int → Int → Int → (Int → Option α) → Option α) (F2 : Nat → Int → Int → Int → (Bool → Option α) → Option α) (F3 : Nat → Int → (Int → Option α) → Option α)  (k : Nat) (x : Int) (x1 : Int) (x2 : Int) (r0 : Bool → Option α) : Option α :=
  F0 k x fun v =>
  bif (!v) then
    r0 false
  else
    F0 k x1 fun v1 =>
    bif (!v1) then
      r0 false
    else
      F0 k x2 fun v2 =>
      bif (!v2) then
        r0 false
      else
        F1 k x x1 x2 fun v3 =>
        F2 k v3 1 4000 fun v4 =>
        bif (!v4) then
          r0 false
        else
          F3 k v3 fun v5 =>
          r0 (!decide ((w64 (v5 * v5)) = v3))
theorem spec_l06Is_gen {α : Type} (F0 : Nat → Int → (Bool → Option α) → Option α) (F1 : Nat → Int → Int → Int → (Int → Option α) → Option α) (F2 : Nat → Int → Int → Int → (Bool → Option α) → Option α) (F3 : Nat → Int → (Int → Option α) → Option α)  (n : Nat) (x : Int) (x1 : Int) (x2 : Int) (κ : Res → Option α) : evFn Try.prog (spec_l06Is_XG F0 F1 F2 F3 n) Try.f51 (((buildDs spec_l06Is_sh [.int x, .int x1, .int x2]).map Prod.fst).getD []) κ = spec_l06Is_body F0 F1 F2 F3 n x x1 x2 (fun v1 => κ ⟨[.bool v1], []⟩) := by kernel_rfl
theorem spec_l06Is_ev {α : Type} (n : Nat) (x : Int) (x1 : Int) (x2 : Int) (κ : Res → Option α) : evFn Try.prog (spec_l06Is_X n) Try.f51 (((buildDs spec_l06Is_sh [.int x, .int x1, .int x2]).map Prod.fst).getD []) κ = spec_l06Is_run n [.int x, .int x1, .int x2] κ := (spec_l06Is_gen spec_l01Fits spec_l06Disc spec_l01In spec_l06Root n x x1 x2 κ).trans (by kernel_rfl)
theorem spec_l06Is_en (x : Int) (x1 : Int) (x2 : Int) : (entry 0 (((buildDs spec_l06Is_sh [.int x, .int x1, .int x2]).map Prod.fst).getD [])).map (fun x => (x.1.length, x.2.lent)) = some (1, []) := by kernel_rfl
theorem spec_l06Is_good {α : Type} : ∀ n, GoodFn (α := α) Try.prog 51 (byShape spec_l06Is_sh (spec_l06Is_run n)) := by
  refine fn_good' Try.func51 (c := (Try.f51.body.getD .skip)) (by kernel_rfl) (by kernel_rfl) (by kernel_rfl) spec_l06Is_C spec_l06Is_M eqs spec_l06Is_lps (fun n => tabC_good (List.forall_mem_cons.2 ⟨(spec_l01Fits_good n), (List.forall_mem_cons.2 ⟨(spec_l06Disc_good n), (List.forall_mem_cons.2 ⟨(spec_l01In_good n), (List.forall_mem_cons.2 ⟨(spec_l06Root_good n), (fun _ h => absurd h List.not_mem_nil)⟩)⟩)⟩)⟩)) eqs_ok spec_l06Is_Lt ?_ ?_ spec_l06Is_sh spec_l06Is_run ?_
  · exact (fun _ h => absurd h List.not_mem_nil)
  · exact (fun _ h => absurd h List.not_mem_nil)
  · intro n p κ r ds hd hr
    have hr0 := hr
    unfold spec_l06Is_run spec_l06Is_runG at hr
    split at hr
    · rw [← ds_of hd]
      exact ⟨en_of (spec_l06Is_en _ _ _) ⟨rfl, rfl⟩, (spec_l06Is_ev n _ _ _ κ).trans hr0⟩
    · cases hr

/-! loop.example/g01297/spec.l06Reduced -/
def spec_l06Reduced_sh : List SkD := [.agg [.int .i64, .int .i64, .int .i64], .int .i64]
def spec_l06Reduced_runG {α : Type} (F : Nat → Int → Int → Int → Int → (Bool → Option α) → Option α) (n : Nat) (p : List P1) (κ : Res → Option α) : Option α := match p with
  | [.int x, .int x1, .int x2, .int w] => F n x x1 x2 w (fun v1 => κ ⟨[.bool v1], []⟩)
  | _ => none
def spec_l06Reduced_run {α : Type} (n : Nat) (p : List P1) (κ : Res → Option α) : Option α := spec_l06Reduced_runG spec_l06Reduced n p κ
def spec_l06Reduced_CG {α : Type}  (n : Nat) : FuncId → List D → (Res → Option α) → Option α := tabC []
def spec_l06Reduced_C {α : Type} (n : Nat) : FuncId → List D → (Res → Option α) → Option α := spec_l06Reduced_CG n
def spec_l06Reduced_M : FuncId → List Nat := tabM []
def spec_l06Reduced_lpsG {α : Type}  : List (LoopT α) := []
def spec_l06Reduced_lps {α : Type} : List (LoopT α) := spec_l06Reduced_lpsG
def spec_l06Reduced_XG {α : Type}   (n : Nat) : Ctx α := ⟨spec_l06Reduced_CG n, spec_l06Reduced_M, eqs, lpOf (spec_l06Reduced_lpsG) n⟩
def spec_l06Reduced_X {α : Type} (n : Nat) : Ctx α := spec_l06Reduced_XG n
def spec_l06Reduced_Lt (np : Nat) (lent : List (Bool × Nat × Blk)) : Prop := np = 2 ∧ lent = []
def spec_l06Reduced_body {α : Type}   (k : Nat) (x : Int) (x1 : Int) (x2 : Int) (w : Int) (r0 : Bool → Option α) : Option α :=
  bif decide (0 < x1) then
    bif decide (x1 ≤ w) then
      bif decide ((w64 (w - x1)) < (w64 (2 * (max x (w64 (0 - x)))))) then
        r0 (decide ((w64 (2 * (max x (w64 (0 - x))))) ≤ (w64 (w + x1))))
      else
        r0 false
    else
      r0 false
  else
    r0 false
theorem spec_l06Reduced_gen {α : Type}   (n : Nat) (x : Int) (x1 : Int) (x2 : Int) (w : Int) (κ : Res → Option α) : evFn Try.prog (spec_l06Reduced_XG n) Try.f102 (((buildDs spec_l06Reduced_sh [.int x, .int x1, .int x2, .int w]).map Prod.fst).getD []) κ = spec_l06Reduced_body n x x1 x2 w (fun v1 => κ ⟨[.bool v1], []⟩) := by kernel_rfl
theorem spec_l06Reduced_ev {α : Type} (n : Nat) (x : Int) (x1 : Int) (x2 : Int) (w : Int) (κ : Res → Option α) : evFn Try.prog (spec_l06Reduced_X n) Try.f102 (((buildDs spec_l06Reduced_sh [.int x, .int x1, .int x2, .int w]).map Prod.fst).getD []) κ = spec_l06Reduced_run n [.int x, .int x1, .int x2, .int w] κ := (spec_l06Reduced_gen n x x1 x2 w κ).trans (by kernel_rfl)
theorem spec_l06Reduced_en (x : Int) (x1 : Int) (x2 : Int) (w : Int) : (entry 0 (((buildDs spec_l06Reduced_sh [.int x, .int x1, .int x2, .int w]).map Prod.fst).getD [])).map (fun x => (x.1.length, x.2.lent)) = some (2, []) := by kernel_rfl
theorem spec_l06Reduced_good {α : Type} : ∀ n, GoodFn (α := α) Try.prog 102 (byShape spec_l06Reduced_sh (spec_l06Reduced_run n)) := by
  refine fn_good' Try.func102 (c := (Try.f102.body.getD .skip)) (by kernel_rfl) (by kernel_rfl) (by kernel_rfl) spec_l06Reduced_C spec_l06Reduced_M eqs spec_l06Reduced_lps (fun n => tabC_good (fun _ h => absurd h List.not_mem_nil)) eqs_ok spec_l06Reduced_Lt ?_ ?_ spec_l06Reduced_sh spec_l06Reduced_run ?_
  · exact (fun _ h => absurd h List.not_mem_nil)
  · exact (fun _ h => absurd h List.not_mem_nil)
  · intro n p κ r ds hd hr
    have hr0 := hr
    unfold spec_l06Reduced_run spec_l06Reduced_runG at hr
    split at hr
    · rw [← ds_of hd]
      exact ⟨en_of (spec_l06Reduced_en _ _ _ _) ⟨rfl, rfl⟩, (spec_l06Reduced_ev n _ _ _ _ κ).trans hr0⟩
    · cases hr

/-! loop.example/g01297/spec.l01Rest -/
def spec_l01Rest_sh : List SkD := [.int .i64, .int .i64]
def spec_l01Rest_runG {α : Type} (F : Nat → Int → Int → (Int → Option α) → Option α) (n : Nat) (p : List P1) (κ : Res → Option α) : Option α := match p with
  | [.int n_, .int x] => F n n_ x (fun v1 => κ ⟨[.int .i64 v1], []⟩)
  | _ => none
def spec_l01Rest_run {α : Type} (n : Nat) (p : List P1) (κ : Res → Option α) : Option α := spec_l01Rest_runG spec_l01Rest n p κ
def spec_l01Rest_CG {α : Type}  (n : Nat) : FuncId → List D → (Res → Option α) → Option α := tabC []
def spec_l01Rest_C {α : Type} (n : Nat) : FuncId → List D → (Res → Option α) → Option α := spec_l01Rest_CG n
def spec_l01Rest_M : FuncId → List Nat := tabM []
def spec_l01Rest_lpsG {α : Type}  : List (LoopT α) := []
def spec_l01Rest_lps {α : Type} : List (LoopT α) := spec_l01Rest_lpsG
def spec_l01Rest_XG {α : Type}   (n : Nat) : Ctx α := ⟨spec_l01Rest_CG n, spec_l01Rest_M, eqs, lpOf (spec_l01Rest_lpsG) n⟩
def spec_l01Rest_X {α : Type} (n : Nat) : Ctx α := spec_l01Rest_XG n
def spec_l01Rest_Lt (np : Nat) (lent : List (Bool × Nat × Blk)) : Prop := np = 2 ∧ lent = []
def spec_l01Rest_body {α : Type}   (k : Nat) (n_ : Int) (x : Int) (r0 : Int → Option α) : Option α :=
  bif decide (n_ = 0) then
    none
  else
  bif decide (n_ = 0) then
    none
  else
    r0 (Int.tmod (w64 ((Int.tmod x n_) + n_)) n_)
theorem spec_l01Rest_gen {α : Type}   (n : Nat) (n_ : Int) (x : Int) (κ : Res → Option α) : evFn Try.prog (spec_l01Rest_XG n) Try.f122 (((buildDs spec_l01Rest_sh [.int n_, .int x]).map Prod.fst).getD []) κ = spec_l01Rest_body n n_ x (fun v1 => κ ⟨[.int .i64 v1], []⟩) := by kernel_rfl
theorem spec_l01Rest_ev {α : Type} (n : Nat) (n_ : Int) (x : Int) (κ : Res → Option α) : evFn Try.prog (spec_l01Rest_X n) Try.f122 (((buildDs spec_l01Rest_sh [.int n_, .int x]).map Prod.fst).getD []) κ = spec_l01Rest_run n [.int n_, .int x] κ := (spec_l01Rest_gen n n_ x κ).trans (by kernel_rfl)
theorem spec_l01Rest_en (n_ : Int) (x : Int) : (entry 0 (((buildDs spec_l01Rest_sh [.int n_, .int x]).map Prod.fst).getD [])).map (fun x => (x.1.length, x.2.lent)) = some (2, []) := by kernel_rfl
theorem spec_l01Rest_good {α : Type} : ∀ n, GoodFn (α := α) Try.prog 122 (byShape spec_l01Rest_sh (spec_l01Rest_run n)) := by
  refine fn_good' Try.func122 (c := (Try.f122.body.getD .skip)) (by kernel_rfl) (by kernel_rfl) (by kernel_rfl) spec_l01Rest_C spec_l01Rest_M eqs spec_l01Rest_lps (fun n => tabC_good (fun _ h => absurd h List.not_mem_nil)) eqs_ok spec_l01Rest_Lt ?_ ?_ spec_l01Rest_sh spec_l01Rest_run ?_
  · exact (fun _ h => absurd h List.not_mem_nil)
  · exact (fun _ h => absurd h List.not_mem_nil)
  · intro n p κ r ds hd hr
    have hr0 := hr
    unfold spec_l01Rest_run spec_l01Rest_runG at hr
    split at hr
    · rw [← ds_of hd]
      exact ⟨en_of (spec_l01Rest_en _ _) ⟨rfl, rfl⟩, (spec_l01Rest_ev n _ _ κ).trans hr0⟩
    · cases hr

/-! loop.example/g01297/spec.l06Next -/
def spec_l06Next_sh : List SkD := [.agg [.int .i64, .int .i64, .int .i64], .int .i64, .int .i64]
def spec_l06Next_runG {α : Type} (F : Nat → Int → Int → Int → Int → Int → (Int → Int → Int → Option α) → Option α) (n : Nat) (p : List P1) (κ : Res → Option α) : Option α := match p with
  | [.int x, .int x1, .int x2, .int d, .int w] => F n x x1 x2 d w (fun v1 v2 v3 => κ ⟨[.agg [.int .i64 v1, .int .i64 v2, .int .i64 v3]], []⟩)
  | _ => none
def spec_l06Next_run {α : Type} (n : Nat) (p : List P1) (κ : Res → Option α) : Option α := spec_l06Next_runG spec_l06Next n p κ
def spec_l06Next_CG {α : Type} (F0 : Nat → Int → Int → (Int → Option α) → Option α) (n : Nat) : FuncId → List D → (Res → Option α) → Option α := tabC [(122, (byShape spec_l01Rest_sh (spec_l01Rest_runG F0 n)))]
def spec_l06Next_C {α : Type} (n : Nat) : FuncId → List D → (Res → Option α) → Option α := spec_l06Next_CG spec_l01Rest n
def spec_l06Next_M : FuncId → List Nat := tabM []
def spec_l06Next_lpsG {α : Type}  : List (LoopT α) := []
def spec_l06Next_lps {α : Type} : List (LoopT α) := spec_l06Next_lpsG
def spec_l06Next_XG {α : Type} (F0 : Nat → Int → Int → (Int → Option α) → Option α)  (n : Nat) : Ctx α := ⟨spec_l06Next_CG F0 n, spec_l06Next_M, eqs, lpOf (spec_l06Next_lpsG) n⟩
def spec_l06Next_X {α : Type} (n : Nat) : Ctx α := spec_l06Next_XG spec_l01Rest n
def spec_l06Next_Lt (np : Nat) (lent : List (Bool × Nat × Blk)) : Prop := np = 3 ∧ lent = []
def spec_l06Next_body {α : Type} (F0 : Nat → Int → Int → (Int → Option α) → Option α)  (k : Nat) (x : Int) (x1 : Int) (x2 : Int) (d : Int) (w : Int) (r0 : Int → Int → Int → Option α) : Option α :=
  bif decide (w < (max x2 (w64 (0 - x2)))) then
    F0 k (w64 (2 * (max x2 (w64 (0 - x2))))) (w64 ((max x2 (w64 (0 - x2))) + x1)) fun v =>
    bif decide ((w64 (4 * x2)) = 0) then
      none
    else
      r0 x2 (w64 ((max x2 (w64 (0 - x2))) - v)) (w64 (Int.tdiv (w64 ((w64 ((w64 ((max x2 (w64 (0 - x2))) - v)) * (w64 ((max x2 (w64 (0 - x2))) - v)))) - d)) (w64 (4 * x2))))
  else
    F0 k (w64 (2 * (max x2 (w64 (0 - x2))))) (w64 (w + x1)) fun v1 =>
    bif decide ((w64 (4 * x2)) = 0) then
      none
    else
      r0 x2 (w64 (w - v1)) (w64 (Int.tdiv (w64 ((w64 ((w64 (w - v1)) * (w64 (w - v1)))) - d)) (w64 (4 * x2))))
theorem spec_l06Next_gen {α : Type} (F0 : Nat → Int → Int → (Int → Option α) → Option α)  (n : Nat) (x : Int) (x1 : Int) (x2 : Int) (d : Int) (w : Int) (κ : Res → Option α) : evFn Try.prog (spec_l06Next_XG F0 n) Try.f103 (((buildDs spec_l06Next_sh [.int x, .int x1, .int x2, .int d, .int w]).map Prod.fst).getD []) κ = spec_l06Next_body F0 n x x1 x2 d w (fun v1 v2 v3 => κ ⟨[.agg [.int .i64 v1, .int .i64 v2, .int .i64 v3]], []⟩) := by kernel_rfl
theorem spec_l06Next_ev {α : Type} (n : Nat) (x : Int) (x1 : Int) (x2 : Int) (d : Int) (w : Int) (κ : Res → Option α) : evFn Try.prog (spec_l06Next_X n) Try.f103 (((buildDs spec_l06Next_sh [.int x, .int x1, .int x2, .int d, .int w]).map Prod.fst).getD []) κ = spec_l06Next_run n [.int x, .int x1, .int x2, .int d, .int w] κ := (spec_l06Next_gen spec_l01Rest n x x1 x2 d w κ).trans (by kernel_rfl)
theorem spec_l06Next_en (x : Int) (x1 : Int) (x2 : Int) (d : Int) (w : Int) : (entry 0 (((buildDs spec_l06Next_sh [.int x, .int x1, .int x2, .int d, .int w]).map Prod.fst).getD [])).map (fun x => (x.1.length, x.2.lent)) = some (3, []) := by kernel_rfl
theorem spec_l06Next_good {α : Type} : ∀ n, GoodFn (α := α) Try.prog 103 (byShape spec_l06Next_sh (spec_l06Next_run n)) := by
  refine fn_good' Try.func103 (c := (Try.f103.body.getD .skip)) (by kernel_rfl) (by kernel_rfl) (by kernel_rfl) spec_l06Next_C spec_l06Next_M eqs spec_l06Next_lps (fun n => tabC_good (List.forall_mem_cons.2 ⟨(spec_l01Rest_good n), (fun _ h => absurd h List.not_mem_nil)⟩)) eqs_ok spec_l06Next_Lt ?_ ?_ spec_l06Next_sh spec_l06Next_run ?_
  · exact (fun _ h => absurd h List.not_mem_nil)
  · exact (fun _ h => absurd h List.not_mem_nil)
  · intro n p κ r ds hd hr
    have hr0 := hr
    unfold spec_l06Next_run spec_l06Next_runG at hr
    split at hr
    · rw [← ds_of hd]
      exact ⟨en_of (spec_l06Next_en _ _ _ _ _) ⟨rfl, rfl⟩, (spec_l06Next_ev n _ _ _ _ _ κ).trans hr0⟩
    · cases hr

/-! loop.example/g01297/spec.l06Cycle -/
def spec_l06Cycle_sh : List SkD := [.agg [.int .i64, .int .i64, .int .i64]]
def spec_l06Cycle_runG {α : Type} (F : Nat → Int → Int → Int → ((List (Int × Int × Int)) → Option α) → Option α) (n : Nat) (p : List P1) (κ : Res → Option α) : Option α := match p with
  | [.int x, .int x1, .int x2] => F n x x1 x2 (fun v1 => κ ⟨[.sl 26 .tr v1], []⟩)
  | _ => none
def spec_l06Cycle_run {α : Type} (n : Nat) (p : List P1) (κ : Res → Option α) : Option α := spec_l06Cycle_runG spec_l06Cycle n p κ
def spec_l06Cycle_CG {α : Type} (F0 : Nat → Int → Int → Int → (Int → Option α) → Option α) (F1 : Nat → Int → (Int → Option α) → Option α) (F2 : Nat → Int → Int → Int → Int → (Bool → Option α) → Option α) (F3 : Nat → Int → Int → Int → Int → Int → (Int → Int → Int → Option α) → Option α) (n : Nat) : FuncId → List D → (Res → Option α) → Option α := tabC [(52, (byShape spec_l06Disc_sh (spec_l06Disc_runG F0 n))), (101, (byShape spec_l06Root_sh (spec_l06Root_runG F1 n))), (102, (byShape spec_l06Reduced_sh (spec_l06Reduced_runG F2 n))), (103, (byShape spec_l06Next_sh (spec_l06Next_runG F3 n)))]
def spec_l06Cycle_C {α : Type} (n : Nat) : FuncId → List D → (Res → Option α) → Option α := spec_l06Cycle_CG spec_l06Disc spec_l06Root spec_l06Reduced spec_l06Next n
def spec_l06Cycle_M : FuncId → List Nat := tabM []
def spec_l06Cycle_t3 : Tpl := ⟨[.any, .ptr 64 0 0, .any, .int .i64, .int .i64, .any, .any, .any, .any, .any, .any, .any, .any, .any, .any, .any, .any, .any, .any, .any, .any, .any, .any, .any, .any, .any, .any, .any, .any, .any, .any, .any, .any, .any, .any, .any, .any, .any], [(64, .ints 2 26 .i64 3)], []⟩
def spec_l06Cycle_uG3 {α : Type} (G : Nat → Int → Int → Int → Int → Int → (Int → Int → Int → Int → Int → Option α) → ((List (Int × Int × Int)) → Option α) → Option α) (n : Nat) (p : List P1) (brk : Nat → List P1 → Option α) (ret : Res → Option α) : Option α := match p with
  | [.int d, .int w, .int x3, .int x4, .int x5] => G n d w x3 x4 x5 (fun d w x3 x4 x5 => brk 0 [.int d, .int w, .int x3, .int x4, .int x5]) (fun v1 => ret ⟨[.sl 26 .tr v1], []⟩)
  | _ => none
def spec_l06Cycle_u3 {α : Type} (n : Nat) (p : List P1) (brk : Nat → List P1 → Option α) (ret : Res → Option α) : Option α := spec_l06Cycle_uG3 spec_l06Cycle_l3 n p brk ret
def spec_l06Cycle_t7 : Tpl := ⟨[.any, .ptr 64 0 0, .any, .int .i64, .int .i64, .sl 1280, .ptr 384 0 0, .any, .any, .any, .any, .any, .any, .any, .any, .any, .any, .any, .any, .any, .any, .any, .any, .any, .any, .any, .any, .any, .any, .any, .any, .any, .any, .any, .any, .any, .any, .any], [(64, .ints 2 26 .i64 3), (1280, .rows 2 26 .tr), (384, .ints 2 26 .i64 3)], []⟩
def spec_l06Cycle_uG7 {α : Type} (G : Nat → Int → Int → Int → Int → Int → (List (Int × Int × Int)) → Int → Int → Int → (Int → Int → Int → Int → Int → (List (Int × Int × Int)) → Int → Int → Int → Option α) → ((List (Int × Int × Int)) → Option α) → Option α) (n : Nat) (p : List P1) (brk : Nat → List P1 → Option α) (ret : Res → Option α) : Option α := match p with
  | [.int d2, .int w2, .int x9, .int x10, .int x11, .rows .tr out, .int now, .int now1, .int now2] => G n d2 w2 x9 x10 x11 out now now1 now2 (fun d2 w2 x9 x10 x11 out now now1 now2 => brk 2 [.int d2, .int w2, .int x9, .int x10, .int x11, .rows .tr out, .int now, .int now1, .int now2]) (fun v1 => ret ⟨[.sl 26 .tr v1], []⟩)
  | _ => none
def spec_l06Cycle_u7 {α : Type} (n : Nat) (p : List P1) (brk : Nat → List P1 → Option α) (ret : Res → Option α) : Option α := spec_l06Cycle_uG7 spec_l06Cycle_l7 n p brk ret
def spec_l06Cycle_lpsG {α : Type} (G3 : Nat → Int → Int → Int → Int → Int → (Int → Int → Int → Int → Int → Option α) → ((List (Int × Int × Int)) → Option α) → Option α) (G7 : Nat → Int → Int → Int → Int → Int → (List (Int × Int × Int)) → Int → Int → Int → (Int → Int → Int → Int → Int → (List (Int × Int × Int)) → Int → Int → Int → Option α) → ((List (Int × Int × Int)) → Option α) → Option α) : List (LoopT α) := [⟨3, spec_l06Cycle_t3, spec_l06Cycle_uG3 G3⟩, ⟨7, spec_l06Cycle_t7, spec_l06Cycle_uG7 G7⟩]
def spec_l06Cycle_lps {α : Type} : List (LoopT α) := spec_l06Cycle_lpsG spec_l06Cycle_l3 spec_l06Cycle_l7
def spec_l06Cycle_XG {α : Type} (F0 : Nat → Int → Int → Int → (Int → Option α) → Option α) (F1 : Nat → Int → (Int → Option α) → Option α) (F2 : Nat → Int → Int → Int → Int → (Bool → Option α) → Option α) (F3 : Nat → Int → Int → Int → Int → Int → (Int → Int → Int → Option α) → Option α) (G3 : Nat → Int → Int → Int → Int → Int → (Int → Int → Int → Int → Int → Option α) → ((List (Int × Int × Int)) → Option α) → Option α) (G7 : Nat → Int → Int → Int → Int → Int → (List (Int × Int × Int)) → Int → Int → Int → (Int → Int → Int → Int → Int → (List (Int × Int × Int)) → Int → Int → Int → Option α) → ((List (Int × Int × Int)) → Option α) → Option α) (n : Nat) : Ctx α := ⟨spec_l06Cycle_CG F0 F1 F2 F3 n, spec_l06Cycle_M, eqs, lpOf (spec_l06Cycle_lpsG G3 G7) n⟩
def spec_l06Cycle_X {α : Type} (n : Nat) : Ctx α := spec_l06Cycle_XG spec_l06Disc spec_l06Root spec_l06Reduced spec_l06Next spec_l06Cycle_l3 spec_l06Cycle_l7 n
def spec_l06Cycle_Lt (np : Nat) (lent : List (Bool × Nat × Blk)) : Prop := np = 1 ∧ lent = []
def spec_l06Cycle_lb3 {α : Type} (F0 : Nat → Int → Int → Int → (Int → Option α) → Option α) (F1 : Nat → Int → (Int → Option α) → Option α) (F2 : Nat → Int → Int → Int → Int → (Bool → Option α) → Option α) (F3 : Nat → Int → Int → Int → Int → Int → (Int → Int → Int → Option α) → Option α) (G3 : Nat → Int → Int → Int → Int → Int → (Int → Int → Int → Int → Int → Option α) → ((List (Int × Int × Int)) → Option α) → Option α) (G7 : Nat → Int → Int → Int → Int → Int → (List (Int × Int × Int)) → Int → Int → Int → (Int → Int → Int → Int → Int → (List (Int × Int × Int)) → Int → Int → Int → Option α) → ((List (Int × Int × Int)) → Option α) → Option α) (k : Nat) (d : Int) (w : Int) (x3 : Int) (x4 : Int) (x5 : Int) (b0 : Int → Int → Int → Int → Int → Option α) (r0 : (List (Int × Int × Int)) → Option α) : Option α :=
  F2 k x3 x4 x5 w fun v2 =>
  bif (!v2) then
    F3 k x3 x4 x5 d w fun v3 v4 v5 =>
    G3 k d w v3 v4 v5 b0 r0
  else
    b0 d w x3 x4 x5
theorem spec_l06Cycle_l3_gen {α : Type} (F0 : Nat → Int → Int → Int → (Int → Option α) → Option α) (F1 : Nat → Int → (Int → Option α) → Option α) (F2 : Nat → Int → Int → Int → Int → (Bool → Option α) → Option α) (F3 : Nat → Int → Int → Int → Int → Int → (Int → Int → Int → Option α) → Option α) (G3 : Nat → Int → Int → Int → Int → Int → (Int → Int → Int → Int → Int → Option α) → ((List (Int × Int × Int)) → Option α) → Option α) (G7 : Nat → Int → Int → Int → Int → Int → (List (Int × Int × Int)) → Int → Int → Int → (Int → Int → Int → Int → Int → (List (Int × Int × Int)) → Int → Int → Int → Option α) → ((List (Int × Int × Int)) → Option α) → Option α) (n : Nat) (d : Int) (w : Int) (x3 : Int) (x4 : Int) (x5 : Int) (brk : Nat → List P1 → Option α) (ret : Res → Option α) : ev ((spec_l06Cycle_XG F0 F1 F2 F3 G3 G7 n).env Try.prog Try.f54 1 []) (findLoop (loopsIn (Try.f54.body.getD .skip)) 3) ((spec_l06Cycle_t3.build [.int d, .int w, .int x3, .int x4, .int x5]).getD ⟨[], []⟩) (roundK (1 * 64) spec_l06Cycle_t3 (fun q => spec_l06Cycle_uG3 G3 n q brk ret) brk ret) = spec_l06Cycle_lb3 F0 F1 F2 F3 G3 G7 n d w x3 x4 x5 (fun d w x3 x4 x5 => brk 0 [.int d, .int w, .int x3, .int x4, .int x5]) (fun v1 => ret ⟨[.sl 26 .tr v1], []⟩) := by kernel_rfl
theorem spec_l06Cycle_l3_ev {α : Type} (n : Nat) (d : Int) (w : Int) (x3 : Int) (x4 : Int) (x5 : Int) (brk : Nat → List P1 → Option α) (ret : Res → Option α) : ev ((spec_l06Cycle_X n).env Try.prog Try.f54 1 []) (findLoop (loopsIn (Try.f54.body.getD .skip)) 3) ((spec_l06Cycle_t3.build [.int d, .int w, .int x3, .int x4, .int x5]).getD ⟨[], []⟩) (roundK (1 * 64) spec_l06Cycle_t3 (fun q => spec_l06Cycle_u3 n q brk ret) brk ret) = spec_l06Cycle_u3 (n + 1) [.int d, .int w, .int x3, .int x4, .int x5] brk ret := (spec_l06Cycle_l3_gen spec_l06Disc spec_l06Root spec_l06Reduced spec_l06Next spec_l06Cycle_l3 spec_l06Cycle_l7 n d w x3 x4 x5 brk ret).trans (by kernel_rfl)
def spec_l06Cycle_lb7 {α : Type} (F0 : Nat → Int → Int → Int → (Int → Option α) → Option α) (F1 : Nat → Int → (Int → Option α) → Option α) (F2 : Nat → Int → Int → Int → Int → (Bool → Option α) → Option α) (F3 : Nat → Int → Int → Int → Int → Int → (Int → Int → Int → Option α) → Option α) (G3 : Nat → Int → Int → Int → Int → Int → (Int → Int → Int → Int → Int → Option α) → ((List (Int × Int × Int)) → Option α) → Option α) (G7 : Nat → Int → Int → Int → Int → Int → (List (Int × Int × Int)) → Int → Int → Int → (Int → Int → Int → Int → Int → (List (Int × Int × Int)) → Int → Int → Int → Option α) → ((List (Int × Int × Int)) → Option α) → Option α) (k : Nat) (d2 : Int) (w2 : Int) (x9 : Int) (x10 : Int) (x11 : Int) (out : List (Int × Int × Int)) (now : Int) (now1 : Int) (now2 : Int) (b2 : Int → Int → Int → Int → Int → (List (Int × Int × Int)) → Int → Int → Int → Option α) (r0 : (List (Int × Int × Int)) → Option α) : Option α :=
  bif (!(decide (now = x9) && (decide (now1 = x10) && decide (now2 = x11)))) then
    bif decide (((List.length out) + 1) ≤ big) then
      F3 k now now1 now2 d2 w2 fun v9 v10 v11 =>
      G7 k d2 w2 x9 x10 x11 (out ++ [(now, now1, now2)]) v9 v10 v11 b2 r0
    else
      none
  else
    b2 d2 w2 x9 x10 x11 out now now1 now2
theorem spec_l06Cycle_l7_gen {α : Type} (F0 : Nat → Int → Int → Int → (Int → Option α) → Option α) (F1 : Nat → Int → (Int → Option α) → Option α) (F2 : Nat → Int → Int → Int → Int → (Bool → Option α) → Option α) (F3 : Nat → Int → Int → Int → Int → Int → (Int → Int → Int → Option α) → Option α) (G3 : Nat → Int → Int → Int → Int → Int → (Int → Int → Int → Int → Int → Option α) → ((List (Int × Int × Int)) → Option α) → Option α) (G7 : Nat → Int → Int → Int → Int → Int → (List (Int × Int × Int)) → Int → Int → Int → (Int → Int → Int → Int → Int → (List (Int × Int × Int)) → Int → Int → Int → Option α) → ((List (Int × Int × Int)) → Option α) → Option α) (n : Nat) (d2 : Int) (w2 : Int) (x9 : Int) (x10 : Int) (x11 : Int) (out : List (Int × Int × Int)) (now : Int) (now1 : Int) (now2 : Int) (brk : Nat → List P1 → Option α) (ret : Res → Option α) : ev ((spec_l06Cycle_XG F0 F1 F2 F3 G3 G7 n).env Try.prog Try.f54 1 []) (findLoop (loopsIn (Try.f54.body.getD .skip)) 7) ((spec_l06Cycle_t7.build [.int d2, .int w2, .int x9, .int x10, .int x11, .rows .tr out, .int now, .int now1, .int now2]).getD ⟨[], []⟩) (roundK (1 * 64) spec_l06Cycle_t7 (fun q => spec_l06Cycle_uG7 G7 n q brk ret) brk ret) = spec_l06Cycle_lb7 F0 F1 F2 F3 G3 G7 n d2 w2 x9 x10 x11 out now now1 now2 (fun d2 w2 x9 x10 x11 out now now1 now2 => brk 2 [.int d2, .int w2, .int x9, .int x10, .int x11, .rows .tr out, .int now, .int now1, .int now2]) (fun v1 => ret ⟨[.sl 26 .tr v1], []⟩) := by kernel_rfl
theorem spec_l06Cycle_l7_ev {α : Type} (n : Nat) (d2 : Int) (w2 : Int) (x9 : Int) (x10 : Int) (x11 : Int) (out : List (Int × Int × Int)) (now : Int) (now1 : Int) (now2 : Int) (brk : Nat → List P1 → Option α) (ret : Res → Option α) : ev ((spec_l06Cycle_X n).env Try.prog Try.f54 1 []) (findLoop (loopsIn (Try.f54.body.getD .skip)) 7) ((spec_l06Cycle_t7.build [.int d2, .int w2, .int x9, .int x10, .int x11, .rows .tr out, .int now, .int now1, .int now2]).getD ⟨[], []⟩) (roundK (1 * 64) spec_l06Cycle_t7 (fun q => spec_l06Cycle_u7 n q brk ret) brk ret) = spec_l06Cycle_u7 (n + 1) [.int d2, .int w2, .int x9, .int x10, .int x11, .rows .tr out, .int now, .int now1, .int now2] brk ret := (spec_l06Cycle_l7_gen spec_l06Disc spec_l06Root spec_l06Reduced spec_l06Next spec_l06Cycle_l3 spec_l06Cycle_l7 n d2 w2 x9 x10 x11 out now now1 now2 brk ret).trans (by kernel_rfl)
def spec_l06Cycle_body {α : Type} (F0 : Nat → Int → Int → Int → (Int → Option α) → Option α) (F1 : Nat → Int → (Int → Option α) → Option α) (F2 : Nat → Int → Int → Int → Int → (Bool → Option α) → Option α) (F3 : Nat → Int → Int → Int → Int → Int → (Int → Int → Int → Option α) → Option α) (G3 : Nat → Int → Int → Int → Int → Int → (Int → Int → Int → Int → Int → Option α) → ((List (Int × Int × Int)) → Option α) → Option α) (G7 : Nat → Int → Int → Int → Int → Int → (List (Int × Int × Int)) → Int → Int → Int → (Int → Int → Int → Int → Int → (List (Int × Int × Int)) → Int → Int → Int → Option α) → ((List (Int × Int × Int)) → Option α) → Option α) (k : Nat) (x : Int) (x1 : Int) (x2 : Int) (r0 : (List (Int × Int × Int)) → Option α) : Option α :=
  F0 k x x1 x2 fun v =>
  F1 k v fun v1 =>
  G3 k v v1 x x1 x2
    (fun d1 w1 x6 x7 x8 =>
      F3 k x6 x7 x8 d1 w1 fun v6 v7 v8 =>
      G7 k d1 w1 x6 x7 x8 [(x6, x7, x8)] v6 v7 v8
        (fun d3 w3 x12 x13 x14 out1 now3 now4 now5 =>
          r0 out1)
        r0)
    r0
theorem spec_l06Cycle_gen {α : Type} (F0 : Nat → Int → Int → Int → (Int → Option α) → Option α) (F1 : Nat → Int → (Int → Option α) → Option α) (F2 : Nat → Int → Int → Int → Int → (Bool → Option α) → Option α) (F3 : Nat → Int → Int → Int → Int → Int → (Int → Int → Int → Option α) → Option α) (G3 : Nat → Int → Int → Int → Int → Int → (Int → Int → Int → Int → Int → Option α) → ((List (Int × Int × Int)) → Option α) → Option α) (G7 : Nat → Int → Int → Int → Int → Int → (List (Int × Int × Int)) → Int → Int → Int → (Int → Int → Int → Int → Int → (List (Int × Int × Int)) → Int → Int → Int → Option α) → ((List (Int × Int × Int)) → Option α) → Option α) (n : Nat) (x : Int) (x1 : Int) (x2 : Int) (κ : Res → Option α) : evFn Try.prog (spec_l06Cycle_XG F0 F1 F2 F3 G3 G7 n) Try.f54 (((buildDs spec_l06Cycle_sh [.int x, .int x1, .int x2]).map Prod.fst).getD []) κ = spec_l06Cycle_body F0 F1 F2 F3 G3 G7 n x x1 x2 (fun v1 => κ ⟨[.sl 26 .tr v1], []⟩) := by kernel_rfl
theorem spec_l06Cycle_ev {α : Type} (n : Nat) (x : Int) (x1 : Int) (x2 : Int) (κ : Res → Option α) : evFn Try.prog (spec_l06Cycle_X n) Try.f54 (((buildDs spec_l06Cycle_sh [.int x, .int x1, .int x2]).map Prod.fst).getD []) κ = spec_l06Cycle_run n [.int x, .int x1, .int x2] κ := (spec_l06Cycle_gen spec_l06Disc spec_l06Root spec_l06Reduced spec_l06Next spec_l06Cycle_l3 spec_l06Cycle_l7 n x x1 x2 κ).trans (by kernel_rfl)
theorem spec_l06Cycle_en (x : Int) (x1 : Int) (x2 : Int) : (entry 0 (((buildDs spec_l06Cycle_sh [.int x, .int x1, .int x2]).map Prod.fst).getD [])).map (fun x => (x.1.length, x.2.lent)) = some (1, []) := by kernel_rfl
theorem spec_l06Cycle_good {α : Type} : ∀ n, GoodFn (α := α) Try.prog 54 (byShape spec_l06Cycle_sh (spec_l06Cycle_run n)) := by
  refine fn_good' Try.func54 (c := (Try.f54.body.getD .skip)) (by kernel_rfl) (by kernel_rfl) (by kernel_rfl) spec_l06Cycle_C spec_l06Cycle_M eqs spec_l06Cycle_lps (fun n => tabC_good (List.forall_mem_cons.2 ⟨(spec_l06Disc_good n), (List.forall_mem_cons.2 ⟨(spec_l06Root_good n), (List.forall_mem_cons.2 ⟨(spec_l06Reduced_good n), (List.forall_mem_cons.2 ⟨(spec_l06Next_good n), (fun _ h => absurd h List.not_mem_nil)⟩)⟩)⟩)⟩)) eqs_ok spec_l06Cycle_Lt ?_ ?_ spec_l06Cycle_sh spec_l06Cycle_run ?_
  · refine List.forall_mem_cons.2 ⟨?_, List.forall_mem_cons.2 ⟨?_, (fun _ h => absurd h List.not_mem_nil)⟩⟩
    · intro p brk ret; show spec_l06Cycle_u3 0 p brk ret = none; unfold spec_l06Cycle_u3 spec_l06Cycle_uG3; split <;> rfl
    · intro p brk ret; show spec_l06Cycle_u7 0 p brk ret = none; unfold spec_l06Cycle_u7 spec_l06Cycle_uG7; split <;> rfl
  · refine List.forall_mem_cons.2 ⟨?_, List.forall_mem_cons.2 ⟨?_, (fun _ h => absurd h List.not_mem_nil)⟩⟩
    · intro np lent hL n p brk ret st r hb hr
      obtain ⟨rfl, rfl⟩ := hL
      rw [← tpl_of hb]
      change spec_l06Cycle_u3 (n + 1) p brk ret = some r at hr
      have hr0 := hr
      unfold spec_l06Cycle_u3 spec_l06Cycle_uG3 at hr
      split at hr
      · exact (spec_l06Cycle_l3_ev n _ _ _ _ _ brk ret).trans hr0
      · cases hr
    · intro np lent hL n p brk ret st r hb hr
      obtain ⟨rfl, rfl⟩ := hL
      rw [← tpl_of hb]
      change spec_l06Cycle_u7 (n + 1) p brk ret = some r at hr
      have hr0 := hr
      unfold spec_l06Cycle_u7 spec_l06Cycle_uG7 at hr
      split at hr
      · exact (spec_l06Cycle_l7_ev n _ _ _ _ _ _ _ _ _ brk ret).trans hr0
      · cases hr
  · intro n p κ r ds hd hr
    have hr0 := hr
    unfold spec_l06Cycle_run spec_l06Cycle_runG at hr
    split at hr
    · rw [← ds_of hd]
      exact ⟨en_of (spec_l06Cycle_en _ _ _) ⟨rfl, rfl⟩, (spec_l06Cycle_ev n _ _ _ κ).trans hr0⟩
    · cases hr

/-! loop.example/g01297/spec.CycleOfForm -/
def spec_CycleOfForm_sh : List SkD := [.agg [.int .i64, .int .i64, .int .i64]]
def spec_CycleOfForm_runG {α : Type} (F : Nat → Int → Int → Int → (Int → Option α) → ((List (Int × Int × Int)) → Int → Option α) → Option α) (n : Nat) (p : List P1) (κ : Res → Option α) : Option α := match p with
  | [.int x, .int x1, .int x2] => F n x x1 x2 (fun v1 => κ ⟨[.nilsl, .int .i64 v1], []⟩) (fun v1 v2 => κ ⟨[.sl 26 .tr v1, .int .i64 v2], []⟩)
  | _ => none
def spec_CycleOfForm_run {α : Type} (n : Nat) (p : List P1) (κ : Res → Option α) : Option α := spec_CycleOfForm_runG spec_CycleOfForm n p κ
def spec_CycleOfForm_CG {α : Type} (F0 : Nat → Int → Int → Int → (Bool → Option α) → Option α) (F1 : Nat → Int → Int → Int → ((List (Int × Int × Int)) → Option α) → Option α) (n : Nat) : FuncId → List D → (Res → Option α) → Option α := tabC [(51, (byShape spec_l06Is_sh (spec_l06Is_runG F0 n))), (54, (byShape spec_l06Cycle_sh (spec_l06Cycle_runG F1 n)))]
def spec_CycleOfForm_C {α : Type} (n : Nat) : FuncId → List D → (Res → Option α) → Option α := spec_CycleOfForm_CG spec_l06Is spec_l06Cycle n
def spec_CycleOfForm_M : FuncId → List Nat := tabM []
def spec_CycleOfForm_lpsG {α : Type}  : List (LoopT α) := []
def spec_CycleOfForm_lps {α : Type} : List (LoopT α) := spec_CycleOfForm_lpsG
def spec_CycleOfForm_XG {α : Type} (F0 : Nat → Int → Int → Int → (Bool → Option α) → Option α) (F1 : Nat → Int → Int → Int → ((List (Int × Int × Int)) → Option α) → Option α)  (n : Nat) : Ctx α := ⟨spec_CycleOfForm_CG F0 F1 n, spec_CycleOfForm_M, eqs, lpOf (spec_CycleOfForm_lpsG) n⟩
def spec_CycleOfForm_X {α : Type} (n : Nat) : Ctx α := spec_CycleOfForm_XG spec_l06Is spec_l06Cycle n
def spec_CycleOfForm_Lt (np : Nat) (lent : List (Bool × Nat × Blk)) : Prop := np = 1 ∧ lent = []
def spec_CycleOfForm_body {α : Type} (F0 : Nat → Int → Int → Int → (Bool → Option α) → Option α) (F1 : Nat → Int → Int → Int → ((List (Int × Int × Int)) → Option α) → Option α)  (k : Nat) (x : Int) (x1 : Int) (x2 : Int) (r0 : Int → Option α) (r1 : (List (Int × Int × Int)) → Int → Option α) : Option α :=
  F0 k x x1 x2 fun v =>
  bif (!v) then
    r0 1
  else
    F1 k x x1 x2 fun v1 =>
    r1 v1 0
theorem spec_CycleOfForm_gen {α : Type} (F0 : Nat → Int → Int → Int → (Bool → Option α) → Option α) (F1 : Nat → Int → Int → Int → ((List (Int × Int × Int)) → Option α) → Option α)  (n : Nat) (x : Int) (x1 : Int) (x2 : Int) (κ : Res → Option α) : evFn Try.prog (spec_CycleOfForm_XG F0 F1 n) Try.f34 (((buildDs spec_CycleOfForm_sh [.int x, .int x1, .int x2]).map Prod.fst).getD []) κ = spec_CycleOfForm_body F0 F1 n x x1 x2 (fun v1 => κ ⟨[.nilsl, .int .i64 v1], []⟩) (fun v1 v2 => κ ⟨[.sl 26 .tr v1, .int .i64 v2], []⟩) := by kernel_rfl
theorem spec_CycleOfForm_ev {α : Type} (n : Nat) (x : Int) (x1 : Int) (x2 : Int) (κ : Res → Option α) : evFn Try.prog (spec_CycleOfForm_X n) Try.f34 (((buildDs spec_CycleOfForm_sh [.int x, .int x1, .int x2]).map Prod.fst).getD []) κ = spec_CycleOfForm_run n [.int x, .int x1, .int x2] κ := (spec_CycleOfForm_gen spec_l06Is spec_l06Cycle n x x1 x2 κ).trans (by kernel_rfl)
theorem spec_CycleOfForm_en (x : Int) (x1 : Int) (x2 : Int) : (entry 0 (((buildDs spec_CycleOfForm_sh [.int x, .int x1, .int x2]).map Prod.fst).getD [])).map (fun x => (x.1.length, x.2.lent)) = some (1, []) := by kernel_rfl
theorem spec_CycleOfForm_good {α : Type} : ∀ n, GoodFn (α := α) Try.prog 34 (byShape spec_CycleOfForm_sh (spec_CycleOfForm_run n)) := by
  refine fn_good' Try.func34 (c := (Try.f34.body.getD .skip)) (by kernel_rfl) (by kernel_rfl) (by kernel_rfl) spec_CycleOfForm_C spec_CycleOfForm_M eqs spec_CycleOfForm_lps (fun n => tabC_good (List.forall_mem_cons.2 ⟨(spec_l06Is_good n), (List.forall_mem_cons.2 ⟨(spec_l06Cycle_good n), (fun _ h => absurd h List.not_mem_nil)⟩)⟩)) eqs_ok spec_CycleOfForm_Lt ?_ ?_ spec_CycleOfForm_sh spec_CycleOfForm_run ?_
  · exact (fun _ h => absurd h List.not_mem_nil)
  · exact (fun _ h => absurd h List.not_mem_nil)
  · intro n p κ r ds hd hr
    have hr0 := hr
    unfold spec_CycleOfForm_run spec_CycleOfForm_runG at hr
    split at hr
    · rw [← ds_of hd]
      exact ⟨en_of (spec_CycleOfForm_en _ _ _) ⟨rfl, rfl⟩, (spec_CycleOfForm_ev n _ _ _ κ).trans hr0⟩
    · cases hr

/-! loop.example/g01297/impl.in -/
def impl_in_sh : List SkD := [.int .i64, .int .i64, .int .i64]
def impl_in_runG {α : Type} (F : Nat → Int → Int → Int → (Bool → Option α) → Option α) (n : Nat) (p : List P1) (κ : Res → Option α) : Option α := match p with
  | [.int n_, .int low, .int high] => F n n_ low high (fun v1 => κ ⟨[.bool v1], []⟩)
  | _ => none
def impl_in_run {α : Type} (n : Nat) (p : List P1) (κ : Res → Option α) : Option α := impl_in_runG impl_in n p κ
def impl_in_CG {α : Type}  (n : Nat) : FuncId → List D → (Res → Option α) → Option α := tabC []
def impl_in_C {α : Type} (n : Nat) : FuncId → List D → (Res → Option α) → Option α := impl_in_CG n
def impl_in_M : FuncId → List Nat := tabM []
def impl_in_lpsG {α : Type}  : List (LoopT α) := []
def impl_in_lps {α : Type} : List (LoopT α) := impl_in_lpsG
def impl_in_XG {α : Type}   (n : Nat) : Ctx α := ⟨impl_in_CG n, impl_in_M, eqs, lpOf (impl_in_lpsG) n⟩
def impl_in_X {α : Type} (n : Nat) : Ctx α := impl_in_XG n
def impl_in_Lt (np : Nat) (lent : List (Bool × Nat × Blk)) : Prop := np = 3 ∧ lent = []
def impl_in_body {α : Type}   (k : Nat) (n_ : Int) (low : Int) (high : Int) (r0 : Bool → Option α) : Option α :=
  bif decide (low ≤ n_) then
    r0 (decide (n_ ≤ high))
  else
    r0 false
theorem impl_in_gen {α : Type}   (n : Nat) (n_ : Int) (low : Int) (high : Int) (κ : Res → Option α) : evFn Try.prog (impl_in_XG n) Try.f76 (((buildDs impl_in_sh [.int n_, .int low, .int high]).map Prod.fst).getD []) κ = impl_in_body n n_ low high (fun v1 => κ ⟨[.bool v1], []⟩) := by kernel_rfl
theorem impl_in_ev {α : Type} (n : Nat) (n_ : Int) (low : Int) (high : Int) (κ : Res → Option α) : evFn Try.prog (impl_in_X n) Try.f76 (((buildDs impl_in_sh [.int n_, .int low, .int high]).map Prod.fst).getD []) κ = impl_in_run n [.int n_, .int low, .int high] κ := (impl_in_gen n n_ low high κ).trans (by kernel_rfl)
theorem impl_in_en (n_ : Int) (low : Int) (high : Int) : (entry 0 (((buildDs impl_in_sh [.int n_, .int low, .int high]).map Prod.fst).getD [])).map (fun x => (x.1.length, x.2.lent)) = some (3, []) := by kernel_rfl
theorem impl_in_good {α : Type} : ∀ n, GoodFn (α := α) Try.prog 76 (byShape impl_in_sh (impl_in_run n)) := by
  refine fn_good' Try.func76 (c := (Try.f76.body.getD .skip)) (by kernel_rfl) (by kernel_rfl) (by kernel_rfl) impl_in_C impl_in_M eqs impl_in_lps (fun n => tabC_good (fun _ h => absurd h List.not_mem_nil)) eqs_ok impl_in_Lt ?_ ?_ impl_in_sh impl_in_run ?_
  · exact (fun _ h => absurd h List.not_mem_nil)
  · exact (fun _ h => absurd h List.not_mem_nil)
  · intro n p κ r ds hd hr
    have hr0 := hr
    unfold impl_in_run impl_in_runG at hr
    split at hr
    · rw [← ds_of hd]
      exact ⟨en_of (impl_in_en _ _ _) ⟨rfl, rfl⟩, (impl_in_ev n _ _ _ κ).trans hr0⟩
    · cases hr

/-! loop.example/g01297/impl.isCoord -/
def impl_isCoord_sh : List SkD := [.int .i64]
def impl_isCoord_runG {α : Type} (F : Nat → Int → (Bool → Option α) → Option α) (n : Nat) (p : List P1) (κ : Res → Option α) : Option α := match p with
  | [.int n_] => F n n_ (fun v1 => κ ⟨[.bool v1], []⟩)
  | _ => none
def impl_isCoord_run {α : Type} (n : Nat) (p : List P1) (κ : Res → Option α) : Option α := impl_isCoord_runG impl_isCoord n p κ
def impl_isCoord_CG {α : Type} (F0 : Nat → Int → Int → Int → (Bool → Option α) → Option α) (n : Nat) : FuncId → List D → (Res → Option α) → Option α := tabC [(76, (byShape impl_in_sh (impl_in_runG F0 n)))]
def impl_isCoord_C {α : Type} (n : Nat) : FuncId → List D → (Res → Option α) → Option α := impl_isCoord_CG impl_in n
def impl_isCoord_M : FuncId → List Nat := tabM []
def impl_isCoord_lpsG {α : Type}  : List (LoopT α) := []
def impl_isCoord_lps {α : Type} : List (LoopT α) := impl_isCoord_lpsG
def impl_isCoord_XG {α : Type} (F0 : Nat → Int → Int → Int → (Bool → Option α) → Option α)  (n : Nat) : Ctx α := ⟨impl_isCoord_CG F0 n, impl_isCoord_M, eqs, lpOf (impl_isCoord_lpsG) n⟩
def impl_isCoord_X {α : Type} (n : Nat) : Ctx α := impl_isCoord_XG impl_in n
def impl_isCoord_Lt (np : Nat) (lent : List (Bool × Nat × Blk)) : Prop := np = 1 ∧ lent = []
def impl_isCoord_body {α : Type} (F0 : Nat → Int → Int → Int → (Bool → Option α) → Option α)  (k : Nat) (n_ : Int) (r0 : Bool → Option α) : Option α :=
  F0 k n_ (-1000000) 1000000 fun v =>
  r0 v
theorem impl_isCoord_gen {α : Type} (F0 : Nat → Int → Int → Int → (Bool → Option α) → Option α)  (n : Nat) (n_ : Int) (κ : Res → Option α) : evFn Try.prog (impl_isCoord_XG F0 n) Try.f104 (((buildDs impl_isCoord_sh [.int n_]).map Prod.fst).getD []) κ = impl_isCoord_body F0 n n_ (fun v1 => κ ⟨[.bool v1], []⟩) := by kernel_rfl
theorem impl_isCoord_ev {α : Type} (n : Nat) (n_ : Int) (κ : Res → Option α) : evFn Try.prog (impl_isCoord_X n) Try.f104 (((buildDs impl_isCoord_sh [.int n_]).map Prod.fst).getD []) κ = impl_isCoord_run n [.int n_] κ := (impl_isCoord_gen impl_in n n_ κ).trans (by kernel_rfl)
theorem impl_isCoord_en (n_ : Int) : (entry 0 (((buildDs impl_isCoord_sh [.int n_]).map Prod.fst).getD [])).map (fun x => (x.1.length, x.2.lent)) = some (1, []) := by kernel_rfl
theorem impl_isCoord_good {α : Type} : ∀ n, GoodFn (α := α) Try.prog 104 (byShape impl_isCoord_sh (impl_isCoord_run n)) := by
  refine fn_good' Try.func104 (c := (Try.f104.body.getD .skip)) (by kernel_rfl) (by kernel_rfl) (by kernel_rfl) impl_isCoord_C impl_isCoord_M eqs impl_isCoord_lps (fun n => tabC_good (List.forall_mem_cons.2 ⟨(impl_in_good n), (fun _ h => absurd h List.not_mem_nil)⟩)) eqs_ok impl_isCoord_Lt ?_ ?_ impl_isCoord_sh impl_isCoord_run ?_
  · exact (fun _ h => absurd h List.not_mem_nil)
  · exact (fun _ h => absurd h List.not_mem_nil)
  · intro n p κ r ds hd hr
    have hr0 := hr
    unfold impl_isCoord_run impl_isCoord_runG at hr
    split at hr
    · rw [← ds_of hd]
      exact ⟨en_of (impl_isCoord_en _) ⟨rfl, rfl⟩, (impl_isCoord_ev n _ κ).trans hr0⟩
    · cases hr

/-! (loop.example/g01297/impl.Form).disc -/
def impl_Form_disc_sh : List SkD := [.agg [.int .i64, .int .i64, .int .i64]]
def impl_Form_disc_runG {α : Type} (F : Nat → Int → Int → Int → (Int → Option α) → Option α) (n : Nat) (p : List P1) (κ : Res → Option α) : Option α := match p with
  | [.int x, .int x1, .int x2] => F n x x1 x2 (fun v1 => κ ⟨[.int .i64 v1], []⟩)
  | _ => none
def impl_Form_disc_run {α : Type} (n : Nat) (p : List P1) (κ : Res → Option α) : Option α := impl_Form_disc_runG impl_Form_disc n p κ
def impl_Form_disc_CG {α : Type}  (n : Nat) : FuncId → List D → (Res → Option α) → Option α := tabC []
def impl_Form_disc_C {α : Type} (n : Nat) : FuncId → List D → (Res → Option α) → Option α := impl_Form_disc_CG n
def impl_Form_disc_M : FuncId → List Nat := tabM []
def impl_Form_disc_lpsG {α : Type}  : List (LoopT α) := []
def impl_Form_disc_lps {α : Type} : List (LoopT α) := impl_Form_disc_lpsG
def impl_Form_disc_XG {α : Type}   (n : Nat) : Ctx α := ⟨impl_Form_disc_CG n, impl_Form_disc_M, eqs, lpOf (impl_Form_disc_lpsG) n⟩
def impl_Form_disc_X {α : Type} (n : Nat) : Ctx α := impl_Form_disc_XG n
def impl_Form_disc_Lt (np : Nat) (lent : List (Bool × Nat × Blk)) : Prop := np = 1 ∧ lent = []
def impl_Form_disc_body {α : Type}   (k : Nat) (x : Int) (x1 : Int) (x2 : Int) (r0 : Int → Option α) : Option α :=
  r0 (w64 ((w64 (x1 * x1)) - (w64 ((w64 (4 * x)) * x2))))
theorem impl_Form_disc_gen {α : Type}   (n : Nat) (x : Int) (x1 : Int) (x2 : Int) (κ : Res → Option α) : evFn Try.prog (impl_Form_disc_XG n) Try.f56 (((buildDs impl_Form_disc_sh [.int x, .int x1, .int x2]).map Prod.fst).getD []) κ = impl_Form_disc_body n x x1 x2 (fun v1 => κ ⟨[.int .i64 v1], []⟩) := by kernel_rfl
theorem impl_Form_disc_ev {α : Type} (n : Nat) (x : Int) (x1 : Int) (x2 : Int) (κ : Res → Option α) : evFn Try.prog (impl_Form_disc_X n) Try.f56 (((buildDs impl_Form_disc_sh [.int x, .int x1, .int x2]).map Prod.fst).getD []) κ = impl_Form_disc_run n [.int x, .int x1, .int x2] κ := (impl_Form_disc_gen n x x1 x2 κ).trans (by kernel_rfl)
theorem impl_Form_disc_en (x : Int) (x1 : Int) (x2 : Int) : (entry 0 (((buildDs impl_Form_disc_sh [.int x, .int x1, .int x2]).map Prod.fst).getD [])).map (fun x => (x.1.length, x.2.lent)) = some (1, []) := by kernel_rfl
theorem impl_Form_disc_good {α : Type} : ∀ n, GoodFn (α := α) Try.prog 56 (byShape impl_Form_disc_sh (impl_Form_disc_run n)) := by
  refine fn_good' Try.func56 (c := (Try.f56.body.getD .skip)) (by kernel_rfl) (by kernel_rfl) (by kernel_rfl) impl_Form_disc_C impl_Form_disc_M eqs impl_Form_disc_lps (fun n => tabC_good (fun _ h => absurd h List.not_mem_nil)) eqs_ok impl_Form_disc_Lt ?_ ?_ impl_Form_disc_sh impl_Form_disc_run ?_
  · exact (fun _ h => absurd h List.not_mem_nil)
  · exact (fun _ h => absurd h List.not_mem_nil)
  · intro n p κ r ds hd hr
    have hr0 := hr
    unfold impl_Form_disc_run impl_Form_disc_runG at hr
    split at hr
    · rw [← ds_of hd]
      exact ⟨en_of (impl_Form_disc_en _ _ _) ⟨rfl, rfl⟩, (impl_Form_disc_ev n _ _ _ κ).trans hr0⟩
    · cases hr

/-! loop.example/g01297/impl.root -/
def impl_root_sh : List SkD := [.int .i64]
def impl_root_runG {α : Type} (F : Nat → Int → (Int → Option α) → Option α) (n : Nat) (p : List P1) (κ : Res → Option α) : Option α := match p with
  | [.int d] => F n d (fun v1 => κ ⟨[.int .i64 v1], []⟩)
  | _ => none
def impl_root_run {α : Type} (n : Nat) (p : List P1) (κ : Res → Option α) : Option α := impl_root_runG impl_root n p κ
def impl_root_CG {α : Type}  (n : Nat) : FuncId → List D → (Res → Option α) → Option α := tabC []
def impl_root_C {α : Type} (n : Nat) : FuncId → List D → (Res → Option α) → Option α := impl_root_CG n
def impl_root_M : FuncId → List Nat := tabM []
def impl_root_t2 : Tpl := ⟨[.int .i64, .any, .any, .int .i64, .any, .any, .any, .any, .any, .any, .any, .any, .any, .any], [], []⟩
def impl_root_uG2 {α : Type} (G : Nat → Int → Int → (Int → Int → Option α) → (Int → Option α) → Option α) (n : Nat) (p : List P1) (brk : Nat → List P1 → Option α) (ret : Res → Option α) : Option α := match p with
  | [.int d1, .int w] => G n d1 w (fun d1 w => brk 0 [.int d1, .int w]) (fun v1 => ret ⟨[.int .i64 v1], []⟩)
  | _ => none
def impl_root_u2 {α : Type} (n : Nat) (p : List P1) (brk : Nat → List P1 → Option α) (ret : Res → Option α) : Option α := impl_root_uG2 impl_root_l2 n p brk ret
def impl_root_lpsG {α : Type} (G2 : Nat → Int → Int → (Int → Int → Option α) → (Int → Option α) → Option α) : List (LoopT α) := [⟨2, impl_root_t2, impl_root_uG2 G2⟩]
def impl_root_lps {α : Type} : List (LoopT α) := impl_root_lpsG impl_root_l2
def impl_root_XG {α : Type}  (G2 : Nat → Int → Int → (Int → Int → Option α) → (Int → Option α) → Option α) (n : Nat) : Ctx α := ⟨impl_root_CG n, impl_root_M, eqs, lpOf (impl_root_lpsG G2) n⟩
def impl_root_X {α : Type} (n : Nat) : Ctx α := impl_root_XG impl_root_l2 n
def impl_root_Lt (np : Nat) (lent : List (Bool × Nat × Blk)) : Prop := np = 1 ∧ lent = []
def impl_root_lb2 {α : Type}  (G2 : Nat → Int → Int → (Int → Int → Option α) → (Int → Option α) → Option α) (k : Nat) (d1 : Int) (w : Int) (b0 : Int → Int → Option α) (r0 : Int → Option α) : Option α :=
  bif decide ((w64 ((w64 (w + 1)) * (w64 (w + 1)))) ≤ d1) then
    G2 k d1 (w64 (w + 1)) b0 r0
  else
    b0 d1 w
theorem impl_root_l2_gen {α : Type}  (G2 : Nat → Int → Int → (Int → Int → Option α) → (Int → Option α) → Option α) (n : Nat) (d1 : Int) (w : Int) (brk : Nat → List P1 → Option α) (ret : Res → Option α) : ev ((impl_root_XG G2 n).env Try.prog Try.f132 1 []) (findLoop (loopsIn (Try.f132.body.getD .skip)) 2) ((impl_root_t2.build [.int d1, .int w]).getD ⟨[], []⟩) (roundK (1 * 64) impl_root_t2 (fun q => impl_root_uG2 G2 n q brk ret) brk ret) = impl_root_lb2 G2 n d1 w (fun d1 w => brk 0 [.int d1, .int w]) (fun v1 => ret ⟨[.int .i64 v1], []⟩) := by kernel_rfl
theorem impl_root_l2_ev {α : Type} (n : Nat) (d1 : Int) (w : Int) (brk : Nat → List P1 → Option α) (ret : Res → Option α) : ev ((impl_root_X n).env Try.prog Try.f132 1 []) (findLoop (loopsIn (Try.f132.body.getD .skip)) 2) ((impl_root_t2.build [.int d1, .int w]).getD ⟨[], []⟩) (roundK (1 * 64) impl_root_t2 (fun q => impl_root_u2 n q brk ret) brk ret) = impl_root_u2 (n + 1) [.int d1, .int w] brk ret := (impl_root_l2_gen impl_root_l2 n d1 w brk ret).trans (by kernel_rfl)
def impl_root_body {α : Type}  (G2 : Nat → Int → Int → (Int → Int → Option α) → (Int → Option α) → Option α) (k : Nat) (d : Int) (r0 : Int → Option α) : Option α :=
  G2 k d 0
    (fun d2 w1 =>
      r0 w1)
    r0
theorem impl_root_gen {α : Type}  (G2 : Nat → Int → Int → (Int → Int → Option α) → (Int → Option α) → Option α) (n : Nat) (d : Int) (κ : Res → Option α) : evFn Try.prog (impl_root_XG G2 n) Try.f132 (((buildDs impl_root_sh [.int d]).map Prod.fst).getD []) κ = impl_root_body G2 n d (fun v1 => κ ⟨[.int .i64 v1], []⟩) := by kernel_rfl
theorem impl_root_ev {α : Type} (n : Nat) (d : Int) (κ : Res → Option α) : evFn Try.prog (impl_root_X n) Try.f132 (((buildDs impl_root_sh [.int d]).map Prod.fst).getD []) κ = impl_root_run n [.int d] κ := (impl_root_gen impl_root_l2 n d κ).trans (by kernel_rfl)
theorem impl_root_en (d : Int) : (entry 0 (((buildDs impl_root_sh [.int d]).map Prod.fst).getD [])).map (fun x => (x.1.length, x.2.lent)) = some (1, []) := by kernel_rfl
theorem impl_root_good {α : Type} : ∀ n, GoodFn (α := α) Try.prog 132 (byShape impl_root_sh (impl_root_run n)) := by
  refine fn_good' Try.func132 (c := (Try.f132.body.getD .skip)) (by kernel_rfl) (by kernel_rfl) (by kernel_rfl) impl_root_C impl_root_M eqs impl_root_lps (fun n => tabC_good (fun _ h => absurd h List.not_mem_nil)) eqs_ok impl_root_Lt ?_ ?_ impl_root_sh impl_root_run ?_
  · refine List.forall_mem_cons.2 ⟨?_, (fun _ h => absurd h List.not_mem_nil)⟩
    · intro p brk ret; show impl_root_u2 0 p brk ret = none; unfold impl_root_u2 impl_root_uG2; split <;> rfl
  · refine List.forall_mem_cons.2 ⟨?_, (fun _ h => absurd h List.not_mem_nil)⟩
    · intro np lent hL n p brk ret st r hb hr
      obtain ⟨rfl, rfl⟩ := hL
      rw [← tpl_of hb]
      change impl_root_u2 (n + 1) p brk ret = some r at hr
      have hr0 := hr
      unfold impl_root_u2 impl_root_uG2 at hr
      split at hr
      · exact (impl_root_l2_ev n _ _ brk ret).trans hr0
      · cases hr
  · intro n p κ r ds hd hr
    have hr0 := hr
    unfold impl_root_run impl_root_runG at hr
    split at hr
    · rw [← ds_of hd]
      exact ⟨en_of (impl_root_en _) ⟨rfl, rfl⟩, (impl_root_ev n _ κ).trans hr0⟩
    · cases hr

/-! loop.example/g01297/impl.discOk -/
def impl_discOk_sh : List SkD := [.int .i64]
def impl_discOk_runG {α : Type} (F : Nat → Int → (Bool → Option α) → Option α) (n : Nat) (p : List P1) (κ : Res → Option α) : Option α := match p with
  | [.int d] => F n d (fun v1 => κ ⟨[.bool v1], []⟩)
  | _ => none
def impl_discOk_run {α : Type} (n : Nat) (p : List P1) (κ : Res → Option α) : Option α := impl_discOk_runG impl_discOk n p κ
def impl_discOk_CG {α : Type} (F0 : Nat → Int → Int → Int → (Bool → Option α) → Option α) (F1 : Nat → Int → (Int → Option α) → Option α) (n : Nat) : FuncId → List D → (Res → Option α) → Option α := tabC [(76, (byShape impl_in_sh (impl_in_runG F0 n))), (132, (byShape impl_root_sh (impl_root_runG F1 n)))]
def impl_discOk_C {α : Type} (n : Nat) : FuncId → List D → (Res → Option α) → Option α := impl_discOk_CG impl_in impl_root n
def impl_discOk_M : FuncId → List Nat := tabM []
def impl_discOk_lpsG {α : Type}  : List (LoopT α) := []
def impl_discOk_lps {α : Type} : List (LoopT α) := impl_discOk_lpsG
def impl_discOk_XG {α : Type} (F0 : Nat → Int → Int → Int → (Bool → Option α) → Option α) (F1 : Nat → Int → (Int → Option α) → Option α)  (n : Nat) : Ctx α := ⟨impl_discOk_CG F0 F1 n, impl_discOk_M, eqs, lpOf (impl_discOk_lpsG) n⟩
def impl_discOk_X {α : Type} (n : Nat) : Ctx α := impl_discOk_XG impl_in impl_root n
def impl_discOk_Lt (np : Nat) (lent : List (Bool × Nat × Blk)) : Prop := np = 1 ∧ lent = []
def impl_discOk_body {α : Type} (F0 : Nat → Int → Int → Int → (Bool → Option α) → Option α) (F1 : Nat → Int → (Int → Option α) → Option α)  (k : Nat) (d : Int) (r0 : Bool → Option α) : Option α :=
  F0 k d 1 4000 fun v =>
  bif v then
    F1 k d fun v1 =>
    F1 k d fun v2 =>
    r0 (!decide ((w64 (v1 * v2)) = d))
  else
    r0 false
theorem impl_discOk_gen {α : Type} (F0 : Nat → Int → Int → Int → (Bool → Option α) → Option α) (F1 : Nat → Int → (Int → Option α) → Option α)  (n : Nat) (d : Int) (κ : Res → Option α) : evFn Try.prog (impl_discOk_XG F0 F1 n) Try.f105 (((buildDs impl_discOk_sh [.int d]).map Prod.fst).getD []) κ = impl_discOk_body F0 F1 n d (fun v1 => κ ⟨[.bool v1], []⟩) := by kernel_rfl
theorem impl_discOk_ev {α : Type} (n : Nat) (d : Int) (κ : Res → Option α) : evFn Try.prog (impl_discOk_X n) Try.f105 (((buildDs impl_discOk_sh [.int d]).map Prod.fst).getD []) κ = impl_discOk_run n [.int d] κ := (impl_discOk_gen impl_in impl_root n d κ).trans (by kernel_rfl)
theorem impl_discOk_en (d : Int) : (entry 0 (((buildDs impl_discOk_sh [.int d]).map Prod.fst).getD [])).map (fun x => (x.1.length, x.2.lent)) = some (1, []) := by kernel_rfl
theorem impl_discOk_good {α : Type} : ∀ n, GoodFn (α := α) Try.prog 105 (byShape impl_discOk_sh (impl_discOk_run n)) := by
  refine fn_good' Try.func105 (c := (Try.f105.body.getD .skip)) (by kernel_rfl) (by kernel_rfl) (by kernel_rfl) impl_discOk_C impl_discOk_M eqs impl_discOk_lps (fun n => tabC_good (List.forall_mem_cons.2 ⟨(impl_in_good n), (List.forall_mem_cons.2 ⟨(impl_root_good n), (fun _ h => absurd h List.not_mem_nil)⟩)⟩)) eqs_ok impl_discOk_Lt ?_ ?_ impl_discOk_sh impl_discOk_run ?_
  · exact (fun _ h => absurd h List.not_mem_nil)
  · exact (fun _ h => absurd h List.not_mem_nil)
  · intro n p κ r ds hd hr
    have hr0 := hr
    unfold impl_discOk_run impl_discOk_runG at hr
    split at hr
    · rw [← ds_of hd]
      exact ⟨en_of (impl_discOk_en _) ⟨rfl, rfl⟩, (impl_discOk_ev n _ κ).trans hr0⟩
    · cases hr

/-! loop.example/g01297/impl.IsForm -/
def impl_IsForm_sh : List SkD := [.agg [.int .i64, .int .i64, .int .i64]]
def impl_IsForm_runG {α : Type} (F : Nat → Int → Int → Int → (Bool → Option α) → Option α) (n : Nat) (p : List P1) (κ : Res → Option α) : Option α := match p with
  | [.int x, .int x1, .int x2] => F n x x1 x2 (fun v1 => κ ⟨[.bool v1], []⟩)
  | _ => none
def impl_IsForm_run {α : Type} (n : Nat) (p : List P1) (κ : Res → Option α) : Option α := impl_IsForm_runG impl_IsForm n p κ
def impl_IsForm_CG {α : Type} (F0 : Nat → Int → (Bool → Option α) → Option α) (F1 : Nat → Int → Int → Int → (Int → Option α) → Option α) (F2 : Nat → Int → (Bool → Option α) → Option α) (n : Nat) : FuncId → List D → (Res → Option α) → Option α := tabC [(104, (byShape impl_isCoord_sh (impl_isCoord_runG F0 n))), (56, (byShape impl_Form_disc_sh (impl_Form_disc_runG F1 n))), (105, (byShape impl_discOk_sh (impl_discOk_runG F2 n)))]
def impl_IsForm_C {α : Type} (n : Nat) : FuncId → List D → (Res → Option α) → Option α := impl_IsForm_CG impl_isCoord impl_Form_disc impl_discOk n
def impl_IsForm_M : FuncId → List Nat := tabM []
def impl_IsForm_lpsG {α : Type}  : List (LoopT α) := []
def impl_IsForm_lps {α : Type} : List (LoopT α) := impl_IsForm_lpsG
def impl_IsForm_XG {α : Type} (F0 : Nat → Int → (Bool → Option α) → Option α) (F1 : Nat → Int → Int → Int → (Int → Option α) → Option α) (F2 : Nat → Int → (Bool → Option α) → Option α)  (n : Nat) : Ctx α := ⟨impl_IsForm_CG F0 F1 F2 n, impl_IsForm_M, eqs, lpOf (impl_IsForm_lpsG) n⟩
def impl_IsForm_X {α : Type} (n : Nat) : Ctx α := impl_IsForm_XG impl_isCoord impl_Form_disc impl_discOk n
def impl_IsForm_Lt (np : Nat) (lent : List (Bool × Nat × Blk)) : Prop := np = 1 ∧ lent = []
def impl_IsForm_body {α : Type} (F0 : Nat → Int → (Bool → Option α) → Option α) (F1 : Nat → Int → Int → Int → (Int → Option α) → Option α) (F2 : Nat → Int → (Bool → Option α) → Option α)  (k : Nat) (x : Int) (x1 : Int) (x2 : Int) (r0 : Bool → Option α) : Option α :=
  F0 k x fun v =>
  bif v then
    F0 k x1 fun v1 =>
    bif v1 then
      F0 k x2 fun v2 =>
      bif v2 then
        F1 k x x1 x2 fun v3 =>
        F2 k v3 fun v4 =>
        r0 v4
      else
        r0 false
    else
      r0 false
  else
    r0 false
theorem impl_IsForm_gen {α : Type} (F0 : Nat → Int → (Bool → Option α) → Option α) (F1 : Nat → Int → Int → Int → (Int → Option α) → Option α) (F2 : Nat → Int → (Bool → Option α) → Option α)  (n : Nat) (x : Int) (x1 : Int) (x2 : Int) (κ : Res → Option α) : evFn Try.prog (impl_IsForm_XG F0 F1 F2 n) Try.f55 (((buildDs impl_IsForm_sh [.int x, .int x1, .int x2]).map Prod.fst).getD []) κ = impl_IsForm_body F0 F1 F2 n x x1 x2 (fun v1 => κ ⟨[.bool v1], []⟩) := by kernel_rfl
theorem impl_IsForm_ev {α : Type} (n : Nat) (x : Int) (x1 : Int) (x2 : Int) (κ : Res → Option α) : evFn Try.prog (impl_IsForm_X n) Try.f55 (((buildDs impl_IsForm_sh [.int x, .int x1, .int x2]).map Prod.fst).getD []) κ = impl_IsForm_run n [.int x, .int x1, .int x2] κ := (impl_IsForm_gen impl_isCoord impl_Form_disc impl_discOk n x x1 x2 κ).trans (by kernel_rfl)
theorem impl_IsForm_en (x : Int) (x1 : Int) (x2 : Int) : (entry 0 (((buildDs impl_IsForm_sh [.int x, .int x1, .int x2]).map Prod.fst).getD [])).map (fun x => (x.1.length, x.2.lent)) = some (1, []) := by kernel_rfl
theorem impl_IsForm_good {α : Type} : ∀ n, GoodFn (α := α) Try.prog 55 (byShape impl_IsForm_sh (impl_IsForm_run n)) := by
  refine fn_good' Try.func55 (c := (Try.f55.body.getD .skip)) (by kernel_rfl) (by kernel_rfl) (by kernel_rfl) impl_IsForm_C impl_IsForm_M eqs impl_IsForm_lps (fun n => tabC_good (List.forall_mem_cons.2 ⟨(impl_isCoord_good n), (List.forall_mem_cons.2 ⟨(impl_Form_disc_good n), (List.forall_mem_cons.2 ⟨(impl_discOk_good n), (fun _ h => absurd h List.not_mem_nil)⟩)⟩)⟩)) eqs_ok impl_IsForm_Lt ?_ ?_ impl_IsForm_sh impl_IsForm_run ?_
  · exact (fun _ h => absurd h List.not_mem_nil)
  · exact (fun _ h => absurd h List.not_mem_nil)
  · intro n p κ r ds hd hr
    have hr0 := hr
    unfold impl_IsForm_run impl_IsForm_runG at hr
    split at hr
    · rw [← ds_of hd]
      exact ⟨en_of (impl_IsForm_en _ _ _) ⟨rfl, rfl⟩, (impl_IsForm_ev n _ _ _ κ).trans hr0⟩
    · cases hr

/-! loop.example/g01297/impl.size -/
def impl_size_sh : List SkD := [.int .i64]
def impl_size_runG {α : Type} (F : Nat → Int → (Int → Option α) → Option α) (n : Nat) (p : List P1) (κ : Res → Option α) : Option α := match p with
  | [.int n_] => F n n_ (fun v1 => κ ⟨[.int .i64 v1], []⟩)
  | _ => none
def impl_size_run {α : Type} (n : Nat) (p : List P1) (κ : Res → Option α) : Option α := impl_size_runG impl_size n p κ
def impl_size_CG {α : Type}  (n : Nat) : FuncId → List D → (Res → Option α) → Option α := tabC []
def impl_size_C {α : Type} (n : Nat) : FuncId → List D → (Res → Option α) → Option α := impl_size_CG n
def impl_size_M : FuncId → List Nat := tabM []
def impl_size_lpsG {α : Type}  : List (LoopT α) := []
def impl_size_lps {α : Type} : List (LoopT α) := impl_size_lpsG
def impl_size_XG {α : Type}   (n : Nat) : Ctx α := ⟨impl_size_CG n, impl_size_M, eqs, lpOf (impl_size_lpsG) n⟩
def impl_size_X {α : Type} (n : Nat) : Ctx α := impl_size_XG n
def impl_size_Lt (np : Nat) (lent : List (Bool × Nat × Blk)) : Prop := np = 1 ∧ lent = []
def impl_size_body {α : Type}   (k : Nat) (n_ : Int) (r0 : Int → Option α) : Option α :=
  r0 (max n_ (w64 (0 - n_)))
theorem impl_size_gen {α : Type}   (n : Nat) (n_ : Int) (κ : Res → Option α) : evFn Try.prog (impl_size_XG n) Try.f116 (((buildDs impl_size_sh [.int n_]).map Prod.fst).getD []) κ = impl_size_body n n_ (fun v1 => κ ⟨[.int .i64 v1], []⟩) := by kernel_rfl
theorem impl_size_ev {α : Type} (n : Nat) (n_ : Int) (κ : Res → Option α) : evFn Try.prog (impl_size_X n) Try.f116 (((buildDs impl_size_sh [.int n_]).map Prod.fst).getD []) κ = impl_size_run n [.int n_] κ := (impl_size_gen n n_ κ).trans (by kernel_rfl)
theorem impl_size_en (n_ : Int) : (entry 0 (((buildDs impl_size_sh [.int n_]).map Prod.fst).getD [])).map (fun x => (x.1.length, x.2.lent)) = some (1, []) := by kernel_rfl
theorem impl_size_good {α : Type} : ∀ n, GoodFn (α := α) Try.prog 116 (byShape impl_size_sh (impl_size_run n)) := by
  refine fn_good' Try.func116 (c := (Try.f116.body.getD .skip)) (by kernel_rfl) (by kernel_rfl) (by kernel_rfl) impl_size_C impl_size_M eqs impl_size_lps (fun n => tabC_good (fun _ h => absurd h List.not_mem_nil)) eqs_ok impl_size_Lt ?_ ?_ impl_size_sh impl_size_run ?_
  · exact (fun _ h => absurd h List.not_mem_nil)
  · exact (fun _ h => absurd h List.not_mem_nil)
  · intro n p κ r ds hd hr
    have hr0 := hr
    unfold impl_size_run impl_size_runG at hr
    split at hr
    · rw [← ds_of hd]
      exact ⟨en_of (impl_size_en _) ⟨rfl, rfl⟩, (impl_size_ev n _ κ).trans hr0⟩
    · cases hr

/-! (loop.example/g01297/impl.Form).reduced -/
def impl_Form_reduced_sh : List SkD := [.agg [.int .i64, .int .i64, .int .i64]]
def impl_Form_reduced_runG {α : Type} (F : Nat → Int → Int → Int → (Bool → Option α) → Option α) (n : Nat) (p : List P1) (κ : Res → Option α) : Option α := match p with
  | [.int x, .int x1, .int x2] => F n x x1 x2 (fun v1 => κ ⟨[.bool v1], []⟩)
  | _ => none
def impl_Form_reduced_run {α : Type} (n : Nat) (p : List P1) (κ : Res → Option α) : Option α := impl_Form_reduced_runG impl_Form_reduced n p κ
def impl_Form_reduced_CG {α : Type} (F0 : Nat → Int → Int → Int → (Int → Option α) → Option α) (F1 : Nat → Int → (Int → Option α) → Option α) (F2 : Nat → Int → Int → Int → (Bool → Option α) → Option α) (F3 : Nat → Int → (Int → Option α) → Option α) (n : Nat) : FuncId → List D → (Res → Option α) → Option α := tabC [(56, (byShape impl_Form_disc_sh (impl_Form_disc_runG F0 n))), (132, (byShape impl_root_sh (impl_root_runG F1 n))), (76, (byShape impl_in_sh (impl_in_runG F2 n))), (116, (byShape impl_size_sh (impl_size_runG F3 n)))]
def impl_Form_reduced_C {α : Type} (n : Nat) : FuncId → List D → (Res → Option α) → Option α := impl_Form_reduced_CG impl_Form_disc impl_root impl_in impl_size n
def impl_Form_reduced_M : FuncId → List Nat := tabM []
def impl_Form_reduced_lpsG {α : Type}  : List (LoopT α) := []
def impl_Form_reduced_lps {α : Type} : List (LoopT α) := impl_Form_reduced_lpsG
def impl_Form_reduced_XG {α : Type} (F0 : Nat → Int → Int → Int → (Int → Option α) → Option α) (F1 : Nat → Int → (Int → Option α) → Option α) (F2 : Nat → Int → Int → Int → (Bool → Option α) → Option α) (F3 : Nat → Int → (Int → Option α) → Option α)  (n : Nat) : Ctx α := ⟨impl_Form_reduced_CG F0 F1 F2 F3 n, impl_Form_reduced_M, eqs, lpOf (impl_Form_reduced_lpsG) n⟩
def impl_Form_reduced_X {α : Type} (n : Nat) : Ctx α := impl_Form_reduced_XG impl_Form_disc impl_root impl_in impl_size n
def impl_Form_reduced_Lt (np : Nat) (lent : List (Bool × Nat × Blk)) : Prop := np = 1 ∧ lent = []
def impl_Form_reduced_body {α : Type} (F0 : Nat → Int → Int → Int → (Int → Option α) → Option α) (F1 : Nat → Int → (Int → Option α) → Option α) (F2 : Nat → Int → Int → Int → (Bool → Option α) → Option α) (F3 : Nat → Int → (Int → Option α) → Option α)  (k : Nat) (x : Int) (x1 : Int) (x2 : Int) (r0 : Bool → Option α) : Option α :=
  F0 k x x1 x2 fun v =>
  F1 k v fun v1 =>
  F2 k x1 1 v1 fun v2 =>
  bif v2 then
    F3 k x fun v3 =>
    bif decide ((w64 (v1 - x1)) < (w64 (2 * v3))) then
      F3 k x fun v4 =>
      r0 (decide ((w64 (2 * v4)) ≤ (w64 (v1 + x1))))
    else
      r0 false
  else
    r0 false
theorem impl_Form_reduced_gen {α : Type} (F0 : Nat → Int → Int → Int → (Int → Option α) → Option α) (F1 : Nat → Int → (Int → Option α) → Option α) (F2 : Nat → Int → Int → Int → (Bool → Option α) → Option α) (F3 : Nat → Int → (Int → Option α) → Option α)  (n : Nat) (x : Int) (x1 : Int) (x2 : Int) (κ : Res → Option α) : evFn Try.prog (impl_Form_reduced_XG F0 F1 F2 F3 n) Try.f107 (((buildDs impl_Form_reduced_sh [.int x, .int x1, .int x2]).map Prod.fst).getD []) κ = impl_Form_reduced_body F0 F1 F2 F3 n x x1 x2 (fun v1 => κ ⟨[.bool v1], []⟩) := by kernel_rfl
theorem impl_Form_reduced_ev {α : Type} (n : Nat) (x : Int) (x1 : Int) (x2 : Int) (κ : Res → Option α) : evFn Try.prog (impl_Form_reduced_X n) Try.f107 (((buildDs impl_Form_reduced_sh [.int x, .int x1, .int x2]).map Prod.fst).getD []) κ = impl_Form_reduced_run n [.int x, .int x1, .int x2] κ := (impl_Form_reduced_gen impl_Form_disc impl_root impl_in impl_size n x x1 x2 κ).trans (by kernel_rfl)
theorem impl_Form_reduced_en (x : Int) (x1 : Int) (x2 : Int) : (entry 0 (((buildDs impl_Form_reduced_sh [.int x, .int x1, .int x2]).map Prod.fst).getD [])).map (fun x => (x.1.length, x.2.lent)) = some (1, []) := by kernel_rfl
theorem impl_Form_reduced_good {α : Type} : ∀ n, GoodFn (α := α) Try.prog 107 (byShape impl_Form_reduced_sh (impl_Form_reduced_run n)) := by
  refine fn_good' Try.func107 (c := (Try.f107.body.getD .skip)) (by kernel_rfl) (by kernel_rfl) (by kernel_rfl) impl_Form_reduced_C impl_Form_reduced_M eqs impl_Form_reduced_lps (fun n => tabC_good (List.forall_mem_cons.2 ⟨(impl_Form_disc_good n), (List.forall_mem_cons.2 ⟨(impl_root_good n), (List.forall_mem_cons.2 ⟨(impl_in_good n), (List.forall_mem_cons.2 ⟨(impl_size_good n), (fun _ h => absurd h List.not_mem_nil)⟩)⟩)⟩)⟩)) eqs_ok impl_Form_reduced_Lt ?_ ?_ impl_Form_reduced_sh impl_Form_reduced_run ?_
  · exact (fun _ h => absurd h List.not_mem_nil)
  · exact (fun _ h => absurd h List.not_mem_nil)
  · intro n p κ r ds hd hr
    have hr0 := hr
    unfold impl_Form_reduced_run impl_Form_reduced_runG at hr
    split at hr
    · rw [← ds_of hd]
      exact ⟨en_of (impl_Form_reduced_en _ _ _) ⟨rfl, rfl⟩, (impl_Form_reduced_ev n _ _ _ κ).trans hr0⟩
    · cases hr

/-! loop.example/g01297/impl.floor -/
def impl_floor_sh : List SkD := [.int .i64, .int .i64]
def impl_floor_runG {α : Type} (F : Nat → Int → Int → (Int → Option α) → Option α) (n : Nat) (p : List P1) (κ : Res → Option α) : Option α := match p with
  | [.int a, .int b_] => F n a b_ (fun v1 => κ ⟨[.int .i64 v1], []⟩)
  | _ => none
def impl_floor_run {α : Type} (n : Nat) (p : List P1) (κ : Res → Option α) : Option α := impl_floor_runG impl_floor n p κ
def impl_floor_CG {α : Type}  (n : Nat) : FuncId → List D → (Res → Option α) → Option α := tabC []
def impl_floor_C {α : Type} (n : Nat) : FuncId → List D → (Res → Option α) → Option α := impl_floor_CG n
def impl_floor_M : FuncId → List Nat := tabM []
def impl_floor_lpsG {α : Type}  : List (LoopT α) := []
def impl_floor_lps {α : Type} : List (LoopT α) := impl_floor_lpsG
def impl_floor_XG {α : Type}   (n : Nat) : Ctx α := ⟨impl_floor_CG n, impl_floor_M, eqs, lpOf (impl_floor_lpsG) n⟩
def impl_floor_X {α : Type} (n : Nat) : Ctx α := impl_floor_XG n
def impl_floor_Lt (np : Nat) (lent : List (Bool × Nat × Blk)) : Prop := np = 2 ∧ lent = []
def impl_floor_body {α : Type}   (k : Nat) (a : Int) (b_ : Int) (r0 : Int → Option α) : Option α :=
  bif decide (b_ = 0) then
    none
  else
  bif decide (b_ = 0) then
    none
  else
  bif (!decide ((Int.tmod a b_) = 0)) then
    bif (!(decide (a < 0) == decide (b_ < 0))) then
      r0 (w64 ((w64 (Int.tdiv a b_)) - 1))
    else
      r0 (w64 (Int.tdiv a b_))
  else
    r0 (w64 (Int.tdiv a b_))
theorem impl_floor_gen {α : Type}   (n : Nat) (a : Int) (b_ : Int) (κ : Res → Option α) : evFn Try.prog (impl_floor_XG n) Try.f65 (((buildDs impl_floor_sh [.int a, .int b_]).map Prod.fst).getD []) κ = impl_floor_body n a b_ (fun v1 => κ ⟨[.int .i64 v1], []⟩) := by kernel_rfl
theorem impl_floor_ev {α : Type} (n : Nat) (a : Int) (b_ : Int) (κ : Res → Option α) : evFn Try.prog (impl_floor_X n) Try.f65 (((buildDs impl_floor_sh [.int a, .int b_]).map Prod.fst).getD []) κ = impl_floor_run n [.int a, .int b_] κ := (impl_floor_gen n a b_ κ).trans (by kernel_rfl)
theorem impl_floor_en (a : Int) (b_ : Int) : (entry 0 (((buildDs impl_floor_sh [.int a, .int b_]).map Prod.fst).getD [])).map (fun x => (x.1.length, x.2.lent)) = some (2, []) := by kernel_rfl
theorem impl_floor_good {α : Type} : ∀ n, GoodFn (α := α) Try.prog 65 (byShape impl_floor_sh (impl_floor_run n)) := by
  refine fn_good' Try.func65 (c := (Try.f65.body.getD .skip)) (by kernel_rfl) (by kernel_rfl) (by kernel_rfl) impl_floor_C impl_floor_M eqs impl_floor_lps (fun n => tabC_good (fun _ h => absurd h List.not_mem_nil)) eqs_ok impl_floor_Lt ?_ ?_ impl_floor_sh impl_floor_run ?_
  · exact (fun _ h => absurd h List.not_mem_nil)
  · exact (fun _ h => absurd h List.not_mem_nil)
  · intro n p κ r ds hd hr
    have hr0 := hr
    unfold impl_floor_run impl_floor_runG at hr
    split at hr
    · rw [← ds_of hd]
      exact ⟨en_of (impl_floor_en _ _) ⟨rfl, rfl⟩, (impl_floor_ev n _ _ κ).trans hr0⟩
    · cases hr

/-! loop.example/g01297/impl.mod -/
def impl_mod_sh : List SkD := [.int .i64, .int .i64]
def impl_mod_runG {α : Type} (F : Nat → Int → Int → (Int → Option α) → Option α) (n : Nat) (p : List P1) (κ : Res → Option α) : Option α := match p with
  | [.int a, .int b_] => F n a b_ (fun v1 => κ ⟨[.int .i64 v1], []⟩)
  | _ => none
def impl_mod_run {α : Type} (n : Nat) (p : List P1) (κ : Res → Option α) : Option α := impl_mod_runG impl_mod n p κ
def impl_mod_CG {α : Type} (F0 : Nat → Int → Int → (Int → Option α) → Option α) (n : Nat) : FuncId → List D → (Res → Option α) → Option α := tabC [(65, (byShape impl_floor_sh (impl_floor_runG F0 n)))]
def impl_mod_C {α : Type} (n : Nat) : FuncId → List D → (Res → Option α) → Option α := impl_mod_CG impl_floor n
def impl_mod_M : FuncId → List Nat := tabM []
def impl_mod_lpsG {α : Type}  : List (LoopT α) := []
def impl_mod_lps {α : Type} : List (LoopT α) := impl_mod_lpsG
def impl_mod_XG {α : Type} (F0 : Nat → Int → Int → (Int → Option α) → Option α)  (n : Nat) : Ctx α := ⟨impl_mod_CG F0 n, impl_mod_M, eqs, lpOf (impl_mod_lpsG) n⟩
def impl_mod_X {α : Type} (n : Nat) : Ctx α := impl_mod_XG impl_floor n
def impl_mod_Lt (np : Nat) (lent : List (Bool × Nat × Blk)) : Prop := np = 2 ∧ lent = []
def impl_mod_body {α : Type} (F0 : Nat → Int → Int → (Int → Option α) → Option α)  (k : Nat) (a : Int) (b_ : Int) (r0 : Int → Option α) : Option α :=
  F0 k a b_ fun v =>
  r0 (w64 (a - (w64 (b_ * v))))
theorem impl_mod_gen {α : Type} (F0 : Nat → Int → Int → (Int → Option α) → Option α)  (n : Nat) (a : Int) (b_ : Int) (κ : Res → Option α) : evFn Try.prog (impl_mod_XG F0 n) Try.f129 (((buildDs impl_mod_sh [.int a, .int b_]).map Prod.fst).getD []) κ = impl_mod_body F0 n a b_ (fun v1 => κ ⟨[.int .i64 v1], []⟩) := by kernel_rfl
theorem impl_mod_ev {α : Type} (n : Nat) (a : Int) (b_ : Int) (κ : Res → Option α) : evFn Try.prog (impl_mod_X n) Try.f129 (((buildDs impl_mod_sh [.int a, .int b_]).map Prod.fst).getD []) κ = impl_mod_run n [.int a, .int b_] κ := (impl_mod_gen impl_floor n a b_ κ).trans (by kernel_rfl)
theorem impl_mod_en (a : Int) (b_ : Int) : (entry 0 (((buildDs impl_mod_sh [.int a, .int b_]).map Prod.fst).getD [])).map (fun x => (x.1.length, x.2.lent)) = some (2, []) := by kernel_rfl
theorem impl_mod_good {α : Type} : ∀ n, GoodFn (α := α) Try.prog 129 (byShape impl_mod_sh (impl_mod_run n)) := by
  refine fn_good' Try.func129 (c := (Try.f129.body.getD .skip)) (by kernel_rfl) (by kernel_rfl) (by kernel_rfl) impl_mod_C impl_mod_M eqs impl_mod_lps (fun n => tabC_good (List.forall_mem_cons.2 ⟨(impl_floor_good n), (fun _ h => absurd h List.not_mem_nil)⟩)) eqs_ok impl_mod_Lt ?_ ?_ impl_mod_sh impl_mod_run ?_
  · exact (fun _ h => absurd h List.not_mem_nil)
  · exact (fun _ h => absurd h List.not_mem_nil)
  · intro n p κ r ds hd hr
    have hr0 := hr
    unfold impl_mod_run impl_mod_runG at hr
    split at hr
    · rw [← ds_of hd]
      exact ⟨en_of (impl_mod_en _ _) ⟨rfl, rfl⟩, (impl_mod_ev n _ _ κ).trans hr0⟩
    · cases hr

/-! (loop.example/g01297/impl.Form).next -/
def impl_Form_next_sh : List SkD := [.agg [.int .i64, .int .i64, .int .i64]]
def impl_Form_next_runG {α : Type} (F : Nat → Int → Int → Int → (Int → Int → Int → Option α) → Option α) (n : Nat) (p : List P1) (κ : Res → Option α) : Option α := match p with
  | [.int x, .int x1, .int x2] => F n x x1 x2 (fun v1 v2 v3 => κ ⟨[.agg [.int .i64 v1, .int .i64 v2, .int .i64 v3]], []⟩)
  | _ => none
def impl_Form_next_run {α : Type} (n : Nat) (p : List P1) (κ : Res → Option α) : Option α := impl_Form_next_runG impl_Form_next n p κ
def impl_Form_next_CG {α : Type} (F0 : Nat → Int → Int → Int → (Int → Option α) → Option α) (F1 : Nat → Int → (Int → Option α) → Option α) (F2 : Nat → Int → (Int → Option α) → Option α) (F3 : Nat → Int → Int → (Int → Option α) → Option α) (n : Nat) : FuncId → List D → (Res → Option α) → Option α := tabC [(56, (byShape impl_Form_disc_sh (impl_Form_disc_runG F0 n))), (116, (byShape impl_size_sh (impl_size_runG F1 n))), (132, (byShape impl_root_sh (impl_root_runG F2 n))), (129, (byShape impl_mod_sh (impl_mod_runG F3 n)))]
def impl_Form_next_C {α : Type} (n : Nat) : FuncId → List D → (Res → Option α) → Option α := impl_Form_next_CG impl_Form_disc impl_size impl_root impl_mod n
def impl_Form_next_M : FuncId → List Nat := tabM []
def impl_Form_next_lpsG {α : Type}  : List (LoopT α) := []
def impl_Form_next_lps {α : Type} : List (LoopT α) := impl_Form_next_lpsG
def impl_Form_next_XG {α : Type} (F0 : Nat → Int → Int → Int → (Int → Option α) → Option α) (F1 : Nat → Int → (Int → Option α) → Option α) (F2 : Nat → Int → (Int → Option α) → Option α) (F3 : Nat → Int → Int → (Int → Option α) → Option α)  (n : Nat) : Ctx α := ⟨impl_Form_next_CG F0 F1 F2 F3 n, impl_Form_next_M, eqs, lpOf (impl_Form_next_lpsG) n⟩
def impl_Form_next_X {α : Type} (n : Nat) : Ctx α := impl_Form_next_XG impl_Form_disc impl_size impl_root impl_mod n
def impl_Form_next_Lt (np : Nat) (lent : List (Bool × Nat × Blk)) : Prop := np = 1 ∧ lent = []
def impl_Form_next_body {α : Type} (F0 : Nat → Int → Int → Int → (Int → Option α) → Option α) (F1 : Nat → Int → (Int → Option α) → Option α) (F2 : Nat → Int → (Int → Option α) → Option α) (F3 : Nat → Int → Int → (Int → Option α) → Option α)  (k : Nat) (x : Int) (x1 : Int) (x2 : Int) (r0 : Int → Int → Int → Option α) : Option α :=
  F0 k x x1 x2 fun v =>
  F1 k x2 fun v1 =>
  F2 k v fun v2 =>
  bif decide (v2 < v1) then
    F3 k (w64 ((w64 (0 - x1)) - (w64 (1 - v1)))) (w64 (2 * v1)) fun v3 =>
    bif decide ((w64 (4 * x2)) = 0) then
      none
    else
      r0 x2 (w64 ((w64 (1 - v1)) + v3)) (w64 (Int.tdiv (w64 ((w64 ((w64 ((w64 (1 - v1)) + v3)) * (w64 ((w64 (1 - v1)) + v3)))) - v)) (w64 (4 * x2))))
  else
    F3 k (w64 ((w64 (0 - x1)) - (w64 ((w64 (v2 - (w64 (2 * v1)))) + 1)))) (w64 (2 * v1)) fun v4 =>
    bif decide ((w64 (4 * x2)) = 0) then
      none
    else
      r0 x2 (w64 ((w64 ((w64 (v2 - (w64 (2 * v1)))) + 1)) + v4)) (w64 (Int.tdiv (w64 ((w64 ((w64 ((w64 ((w64 (v2 - (w64 (2 * v1)))) + 1)) + v4)) * (w64 ((w64 ((w64 (v2 - (w64 (2 * v1)))) + 1)) + v4)))) - v)) (w64 (4 * x2))))
theorem impl_Form_next_gen {α : Type} (F0 : Nat → Int → Int → Int → (Int → Option α) → Option α) (F1 : Nat → Int → (Int → Option α) → Option α) (F2 : Nat → Int → (Int → Option α) → Option α) (F3 : Nat → Int → Int → (Int → Option α) → Option α)  (n : Nat) (x : Int) (x1 : Int) (x2 : Int) (κ : Res → Option α) : evFn Try.prog (impl_Form_next_XG F0 F1 F2 F3 n) Try.f108 (((buildDs impl_Form_next_sh [.int x, .int x1, .int x2]).map Prod.fst).getD []) κ = impl_Form_next_body F0 F1 F2 F3 n x x1 x2 (fun v1 v2 v3 => κ ⟨[.agg [.int .i64 v1, .int .i64 v2, .int .i64 v3]], []⟩) := by kernel_rfl
theorem impl_Form_next_ev {α : Type} (n : Nat) (x : Int) (x1 : Int) (x2 : Int) (κ : Res → Option α) : evFn Try.prog (impl_Form_next_X n) Try.f108 (((buildDs impl_Form_next_sh [.int x, .int x1, .int x2]).map Prod.fst).getD []) κ = impl_Form_next_run n [.int x, .int x1, .int x2] κ := (impl_Form_next_gen impl_Form_disc impl_size impl_root impl_mod n x x1 x2 κ).trans (by kernel_rfl)
theorem impl_Form_next_en (x : Int) (x1 : Int) (x2 : Int) : (entry 0 (((buildDs impl_Form_next_sh [.int x, .int x1, .int x2]).map Prod.fst).getD [])).map (fun x => (x.1.length, x.2.lent)) = some (1, []) := by kernel_rfl
theorem impl_Form_next_good {α : Type} : ∀ n, GoodFn (α := α) Try.prog 108 (byShape impl_Form_next_sh (impl_Form_next_run n)) := by
  refine fn_good' Try.func108 (c := (Try.f108.body.getD .skip)) (by kernel_rfl) (by kernel_rfl) (by kernel_rfl) impl_Form_next_C impl_Form_next_M eqs impl_Form_next_lps (fun n => tabC_good (List.forall_mem_cons.2 ⟨(impl_Form_disc_good n), (List.forall_mem_cons.2 ⟨(impl_size_good n), (List.forall_mem_cons.2 ⟨(impl_root_good n), (List.forall_mem_cons.2 ⟨(impl_mod_good n), (fun _ h => absurd h List.not_mem_nil)⟩)⟩)⟩)⟩)) eqs_ok impl_Form_next_Lt ?_ ?_ impl_Form_next_sh impl_Form_next_run ?_
  · exact (fun _ h => absurd h List.not_mem_nil)
  · exact (fun _ h => absurd h List.not_mem_nil)
  · intro n p κ r ds hd hr
    have hr0 := hr
    unfold impl_Form_next_run impl_Form_next_runG at hr
    split at hr
    · rw [← ds_of hd]
      exact ⟨en_of (impl_Form_next_en _ _ _) ⟨rfl, rfl⟩, (impl_Form_next_ev n _ _ _ κ).trans hr0⟩
    · cases hr

/-! (loop.example/g01297/impl.Form).cycle -/
def impl_Form_cycle_sh : List SkD := [.agg [.int .i64, .int .i64, .int .i64]]
def impl_Form_cycle_runG {α : Type} (F : Nat → Int → Int → Int → ((List (Int × Int × Int)) → Option α) → Option α) (n : Nat) (p : List P1) (κ : Res → Option α) : Option α := match p with
  | [.int x, .int x1, .int x2] => F n x x1 x2 (fun v1 => κ ⟨[.sl 26 .tr v1], []⟩)
  | _ => none
def impl_Form_cycle_run {α : Type} (n : Nat) (p : List P1) (κ : Res → Option α) : Option α := impl_Form_cycle_runG impl_Form_cycle n p κ
def impl_Form_cycle_CG {α : Type} (F0 : Nat → Int → Int → Int → (Bool → Option α) → Option α) (F1 : Nat → Int → Int → Int → (Int → Int → Int → Option α) → Option α) (n : Nat) : FuncId → List D → (Res → Option α) → Option α := tabC [(107, (byShape impl_Form_reduced_sh (impl_Form_reduced_runG F0 n))), (108, (byShape impl_Form_next_sh (impl_Form_next_runG F1 n)))]
def impl_Form_cycle_C {α : Type} (n : Nat) : FuncId → List D → (Res → Option α) → Option α := impl_Form_cycle_CG impl_Form_reduced impl_Form_next n
def impl_Form_cycle_M : FuncId → List Nat := tabM []
def impl_Form_cycle_t1 : Tpl := ⟨[.any, .ptr 64 0 0, .any, .any, .any, .any, .any, .any, .any, .any, .any, .any, .any, .any, .any, .any, .any, .any, .any, .any, .any, .any, .any, .any, .any], [(64, .ints 2 26 .i64 3)], []⟩
def impl_Form_cycle_uG1 {α : Type} (G : Nat → Int → Int → Int → (Int → Int → Int → Option α) → ((List (Int × Int × Int)) → Option α) → Option α) (n : Nat) (p : List P1) (brk : Nat → List P1 → Option α) (ret : Res → Option α) : Option α := match p with
  | [.int x3, .int x4, .int x5] => G n x3 x4 x5 (fun x3 x4 x5 => brk 0 [.int x3, .int x4, .int x5]) (fun v1 => ret ⟨[.sl 26 .tr v1], []⟩)
  | _ => none
def impl_Form_cycle_u1 {α : Type} (n : Nat) (p : List P1) (brk : Nat → List P1 → Option α) (ret : Res → Option α) : Option α := impl_Form_cycle_uG1 impl_Form_cycle_l1 n p brk ret
def impl_Form_cycle_t5 : Tpl := ⟨[.any, .ptr 64 0 0, .any, .sl 704, .ptr 256 0 0, .any, .any, .any, .any, .any, .any, .any, .any, .any, .any, .any, .any, .any, .any, .any, .any, .any, .any, .any, .any], [(64, .ints 2 26 .i64 3), (704, .rows 2 26 .tr), (256, .ints 2 26 .i64 3)], []⟩
def impl_Form_cycle_uG5 {α : Type} (G : Nat → Int → Int → Int → (List (Int × Int × Int)) → Int → Int → Int → (Int → Int → Int → (List (Int × Int × Int)) → Int → Int → Int → Option α) → ((List (Int × Int × Int)) → Option α) → Option α) (n : Nat) (p : List P1) (brk : Nat → List P1 → Option α) (ret : Res → Option α) : Option α := match p with
  | [.int x9, .int x10, .int x11, .rows .tr out, .int y, .int y1, .int y2] => G n x9 x10 x11 out y y1 y2 (fun x9 x10 x11 out y y1 y2 => brk 2 [.int x9, .int x10, .int x11, .rows .tr out, .int y, .int y1, .int y2]) (fun v1 => ret ⟨[.sl 26 .tr v1], []⟩)
  | _ => none
def impl_Form_cycle_u5 {α : Type} (n : Nat) (p : List P1) (brk : Nat → List P1 → Option α) (ret : Res → Option α) : Option α := impl_Form_cycle_uG5 impl_Form_cycle_l5 n p brk ret
def impl_Form_cycle_lpsG {α : Type} (G1 : Nat → Int → Int → Int → (Int → Int → Int → Option α) → ((List (Int × Int × Int)) → Option α) → Option α) (G5 : Nat → Int → Int → Int → (List (Int × Int × Int)) → Int → Int → Int → (Int → Int → Int → (List (Int × Int × Int)) → Int → Int → Int → Option α) → ((List (Int × Int × Int)) → Option α) → Option α) : List (LoopT α) := [⟨1, impl_Form_cycle_t1, impl_Form_cycle_uG1 G1⟩, ⟨5, impl_Form_cycle_t5, impl_Form_cycle_uG5 G5⟩]
def impl_Form_cycle_lps {α : Type} : List (LoopT α) := impl_Form_cycle_lpsG impl_Form_cycle_l1 impl_Form_cycle_l5
def impl_Form_cycle_XG {α : Type} (F0 : Nat → Int → Int → Int → (Bool → Option α) → Option α) (F1 : Nat → Int → Int → Int → (Int → Int → Int → Option α) → Option α) (G1 : Nat → Int → Int → Int → (Int → Int → Int → Option α) → ((List (Int × Int × Int)) → Option α) → Option α) (G5 : Nat → Int → Int → Int → (List (Int × Int × Int)) → Int → Int → Int → (Int → Int → Int → (List (Int × Int × Int)) → Int → Int → Int → Option α) → ((List (Int × Int × Int)) → Option α) → Option α) (n : Nat) : Ctx α := ⟨impl_Form_cycle_CG F0 F1 n, impl_Form_cycle_M, eqs, lpOf (impl_Form_cycle_lpsG G1 G5) n⟩
def impl_Form_cycle_X {α : Type} (n : Nat) : Ctx α := impl_Form_cycle_XG impl_Form_reduced impl_Form_next impl_Form_cycle_l1 impl_Form_cycle_l5 n
def impl_Form_cycle_Lt (np : Nat) (lent : List (Bool × Nat × Blk)) : Prop := np = 1 ∧ lent = []
def impl_Form_cycle_lb1 {α : Type} (F0 : Nat → Int → Int → Int → (Bool → Option α) → Option α) (F1 : Nat → Int → Int → Int → (Int → Int → Int → Option α) → Option α) (G1 : Nat → Int → Int → Int → (Int → Int → Int → Option α) → ((List (Int × Int × Int)) → Option α) → Option α) (G5 : Nat → Int → Int → Int → (List (Int × Int × Int)) → Int → Int → Int → (Int → Int → Int → (List (Int × Int × Int)) → Int → Int → Int → Option α) → ((List (Int × Int × Int)) → Option α) → Option α) (k : Nat) (x3 : Int) (x4 : Int) (x5 : Int) (b0 : Int → Int → Int → Option α) (r0 : (List (Int × Int × Int)) → Option α) : Option α :=
  F0 k x3 x4 x5 fun v =>
  bif (!v) then
    F1 k x3 x4 x5 fun v1 v2 v3 =>
    G1 k v1 v2 v3 b0 r0
  else
    b0 x3 x4 x5
theorem impl_Form_cycle_l1_gen {α : Type} (F0 : Nat → Int → Int → Int → (Bool → Option α) → Option α) (F1 : Nat → Int → Int → Int → (Int → Int → Int → Option α) → Option α) (G1 : Nat → Int → Int → Int → (Int → Int → Int → Option α) → ((List (Int × Int × Int)) → Option α) → Option α) (G5 : Nat → Int → Int → Int → (List (Int × Int × Int)) → Int → Int → Int → (Int → Int → Int → (List (Int × Int × Int)) → Int → Int → Int → Option α) → ((List (Int × Int × Int)) → Option α) → Option α) (n : Nat) (x3 : Int) (x4 : Int) (x5 : Int) (brk : Nat → List P1 → Option α) (ret : Res → Option α) : ev ((impl_Form_cycle_XG F0 F1 G1 G5 n).env Try.prog Try.f58 1 []) (findLoop (loopsIn (Try.f58.body.getD .skip)) 1) ((impl_Form_cycle_t1.build [.int x3, .int x4, .int x5]).getD ⟨[], []⟩) (roundK (1 * 64) impl_Form_cycle_t1 (fun q => impl_Form_cycle_uG1 G1 n q brk ret) brk ret) = impl_Form_cycle_lb1 F0 F1 G1 G5 n x3 x4 x5 (fun x3 x4 x5 => brk 0 [.int x3, .int x4, .int x5]) (fun v1 => ret ⟨[.sl 26 .tr v1], []⟩) := by kernel_rfl
theorem impl_Form_cycle_l1_ev {α : Type} (n : Nat) (x3 : Int) (x4 : Int) (x5 : Int) (brk : Nat → List P1 → Option α) (ret : Res → Option α) : ev ((impl_Form_cycle_X n).env Try.prog Try.f58 1 []) (findLoop (loopsIn (Try.f58.body.getD .skip)) 1) ((impl_Form_cycle_t1.build [.int x3, .int x4, .int x5]).getD ⟨[], []⟩) (roundK (1 * 64) impl_Form_cycle_t1 (fun q => impl_Form_cycle_u1 n q brk ret) brk ret) = impl_Form_cycle_u1 (n + 1) [.int x3, .int x4, .int x5] brk ret := (impl_Form_cycle_l1_gen impl_Form_reduced impl_Form_next impl_Form_cycle_l1 impl_Form_cycle_l5 n x3 x4 x5 brk ret).trans (by kernel_rfl)
def impl_Form_cycle_lb5 {α : Type} (F0 : Nat → Int → Int → Int → (Bool → Option α) → Option α) (F1 : Nat → Int → Int → Int → (Int → Int → Int → Option α) → Option α) (G1 : Nat → Int → Int → Int → (Int → Int → Int → Option α) → ((List (Int × Int × Int)) → Option α) → Option α) (G5 : Nat → Int → Int → Int → (List (Int × Int × Int)) → Int → Int → Int → (Int → Int → Int → (List (Int × Int × Int)) → Int → Int → Int → Option α) → ((List (Int × Int × Int)) → Option α) → Option α) (k : Nat) (x9 : Int) (x10 : Int) (x11 : Int) (out : List (Int × Int × Int)) (y : Int) (y1 : Int) (y2 : Int) (b2 : Int → Int → Int → (List (Int × Int × Int)) → Int → Int → Int → Option α) (r0 : (List (Int × Int × Int)) → Option α) : Option α :=
  bif (!(decide (y = x9) && (decide (y1 = x10) && decide (y2 = x11)))) then
    bif decide (((List.length out) + 1) ≤ big) then
      F1 k y y1 y2 fun v7 v8 v9 =>
      G5 k x9 x10 x11 (out ++ [(y, y1, y2)]) v7 v8 v9 b2 r0
    else
      none
  else
    b2 x9 x10 x11 out y y1 y2
theorem impl_Form_cycle_l5_gen {α : Type} (F0 : Nat → Int → Int → Int → (Bool → Option α) → Option α) (F1 : Nat → Int → Int → Int → (Int → Int → Int → Option α) → Option α) (G1 : Nat → Int → Int → Int → (Int → Int → Int → Option α) → ((List (Int × Int × Int)) → Option α) → Option α) (G5 : Nat → Int → Int → Int → (List (Int × Int × Int)) → Int → Int → Int → (Int → Int → Int → (List (Int × Int × Int)) → Int → Int → Int → Option α) → ((List (Int × Int × Int)) → Option α) → Option α) (n : Nat) (x9 : Int) (x10 : Int) (x11 : Int) (out : List (Int × Int × Int)) (y : Int) (y1 : Int) (y2 : Int) (brk : Nat → List P1 → Option α) (ret : Res → Option α) : ev ((impl_Form_cycle_XG F0 F1 G1 G5 n).env Try.prog Try.f58 1 []) (findLoop (loopsIn (Try.f58.body.getD .skip)) 5) ((impl_Form_cycle_t5.build [.int x9, .int x10, .int x11, .rows .tr out, .int y, .int y1, .int y2]).getD ⟨[], []⟩) (roundK (1 * 64) impl_Form_cycle_t5 (fun q => impl_Form_cycle_uG5 G5 n q brk ret) brk ret) = impl_Form_cycle_lb5 F0 F1 G1 G5 n x9 x10 x11 out y y1 y2 (fun x9 x10 x11 out y y1 y2 => brk 2 [.int x9, .int x10, .int x11, .rows .tr out, .int y, .int y1, .int y2]) (fun v1 => ret ⟨[.sl 26 .tr v1], []⟩) := by kernel_rfl
theorem impl_Form_cycle_l5_ev {α : Type} (n : Nat) (x9 : Int) (x10 : Int) (x11 : Int) (out : List (Int × Int × Int)) (y : Int) (y1 : Int) (y2 : Int) (brk : Nat → List P1 → Option α) (ret : Res → Option α) : ev ((impl_Form_cycle_X n).env Try.prog Try.f58 1 []) (findLoop (loopsIn (Try.f58.body.getD .skip)) 5) ((impl_Form_cycle_t5.build [.int x9, .int x10, .int x11, .rows .tr out, .int y, .int y1, .int y2]).getD ⟨[], []⟩) (roundK (1 * 64) impl_Form_cycle_t5 (fun q => impl_Form_cycle_u5 n q brk ret) brk ret) = impl_Form_cycle_u5 (n + 1) [.int x9, .int x10, .int x11, .rows .tr out, .int y, .int y1, .int y2] brk ret := (impl_Form_cycle_l5_gen impl_Form_reduced impl_Form_next impl_Form_cycle_l1 impl_Form_cycle_l5 n x9 x10 x11 out y y1 y2 brk ret).trans (by kernel_rfl)
def impl_Form_cycle_body {α : Type} (F0 : Nat → Int → Int → Int → (Bool → Option α) → Option α) (F1 : Nat → Int → Int → Int → (Int → Int → Int → Option α) → Option α) (G1 : Nat → Int → Int → Int → (Int → Int → Int → Option α) → ((List (Int × Int × Int)) → Option α) → Option α) (G5 : Nat → Int → Int → Int → (List (Int × Int × Int)) → Int → Int → Int → (Int → Int → Int → (List (Int × Int × Int)) → Int → Int → Int → Option α) → ((List (Int × Int × Int)) → Option α) → Option α) (k : Nat) (x : Int) (x1 : Int) (x2 : Int) (r0 : (List (Int × Int × Int)) → Option α) : Option α :=
  G1 k x x1 x2
    (fun x6 x7 x8 =>
      F1 k x6 x7 x8 fun v4 v5 v6 =>
      G5 k x6 x7 x8 [(x6, x7, x8)] v4 v5 v6
        (fun x12 x13 x14 out1 y3 y4 y5 =>
          r0 out1)
        r0)
    r0
theorem impl_Form_cycle_gen {α : Type} (F0 : Nat → Int → Int → Int → (Bool → Option α) → Option α) (F1 : Nat → Int → Int → Int → (Int → Int → Int → Option α) → Option α) (G1 : Nat → Int → Int → Int → (Int → Int → Int → Option α) → ((List (Int × Int × Int)) → Option α) → Option α) (G5 : Nat → Int → Int → Int → (List (Int × Int × Int)) → Int → Int → Int → (Int → Int → Int → (List (Int × Int × Int)) → Int → Int → Int → Option α) → ((List (Int × Int × Int)) → Option α) → Option α) (n : Nat) (x : Int) (x1 : Int) (x2 : Int) (κ : Res → Option α) : evFn Try.prog (impl_Form_cycle_XG F0 F1 G1 G5 n) Try.f58 (((buildDs impl_Form_cycle_sh [.int x, .int x1, .int x2]).map Prod.fst).getD []) κ = impl_Form_cycle_body F0 F1 G1 G5 n x x1 x2 (fun v1 => κ ⟨[.sl 26 .tr v1], []⟩) := by kernel_rfl
theorem impl_Form_cycle_ev {α : Type} (n : Nat) (x : Int) (x1 : Int) (x2 : Int) (κ : Res → Option α) : evFn Try.prog (impl_Form_cycle_X n) Try.f58 (((buildDs impl_Form_cycle_sh [.int x, .int x1, .int x2]).map Prod.fst).getD []) κ = impl_Form_cycle_run n [.int x, .int x1, .int x2] κ := (impl_Form_cycle_gen impl_Form_reduced impl_Form_next impl_Form_cycle_l1 impl_Form_cycle_l5 n x x1 x2 κ).trans (by kernel_rfl)
theorem impl_Form_cycle_en (x : Int) (x1 : Int) (x2 : Int) : (entry 0 (((buildDs impl_Form_cycle_sh [.int x, .int x1, .int x2]).map Prod.fst).getD [])).map (fun x => (x.1.length, x.2.lent)) = some (1, []) := by kernel_rfl
theorem impl_Form_cycle_good {α : Type} : ∀ n, GoodFn (α := α) Try.prog 58 (byShape impl_Form_cycle_sh (impl_Form_cycle_run n)) := by
  refine fn_good' Try.func58 (c := (Try.f58.body.getD .skip)) (by kernel_rfl) (by kernel_rfl) (by kernel_rfl) impl_Form_cycle_C impl_Form_cycle_M eqs impl_Form_cycle_lps (fun n => tabC_good (List.forall_mem_cons.2 ⟨(impl_Form_reduced_good n), (List.forall_mem_cons.2 ⟨(impl_Form_next_good n), (fun _ h => absurd h List.not_mem_nil)⟩)⟩)) eqs_ok impl_Form_cycle_Lt ?_ ?_ impl_Form_cycle_sh impl_Form_cycle_run ?_
  · refine List.forall_mem_cons.2 ⟨?_, List.forall_mem_cons.2 ⟨?_, (fun _ h => absurd h List.not_mem_nil)⟩⟩
    · intro p brk ret; show impl_Form_cycle_u1 0 p brk ret = none; unfold impl_Form_cycle_u1 impl_Form_cycle_uG1; split <;> rfl
    · intro p brk ret; show impl_Form_cycle_u5 0 p brk ret = none; unfold impl_Form_cycle_u5 impl_Form_cycle_uG5; split <;> rfl
  · refine List.forall_mem_cons.2 ⟨?_, List.forall_mem_cons.2 ⟨?_, (fun _ h => absurd h List.not_mem_nil)⟩⟩
    · intro np lent hL n p brk ret st r hb hr
      obtain ⟨rfl, rfl⟩ := hL
      rw [← tpl_of hb]
      change impl_Form_cycle_u1 (n + 1) p brk ret = some r at hr
      have hr0 := hr
      unfold impl_Form_cycle_u1 impl_Form_cycle_uG1 at hr
      split at hr
      · exact (impl_Form_cycle_l1_ev n _ _ _ brk ret).trans hr0
      · cases hr
    · intro np lent hL n p brk ret st r hb hr
      obtain ⟨rfl, rfl⟩ := hL
      rw [← tpl_of hb]
      change impl_Form_cycle_u5 (n + 1) p brk ret = some r at hr
      have hr0 := hr
      unfold impl_Form_cycle_u5 impl_Form_cycle_uG5 at hr
      split at hr
      · exact (impl_Form_cycle_l5_ev n _ _ _ _ _ _ _ brk ret).trans hr0
      · cases hr
  · intro n p κ r ds hd hr
    have hr0 := hr
    unfold impl_Form_cycle_run impl_Form_cycle_runG at hr
    split at hr
    · rw [← ds_of hd]
      exact ⟨en_of (impl_Form_cycle_en _ _ _) ⟨rfl, rfl⟩, (impl_Form_cycle_ev n _ _ _ κ).trans hr0⟩
    · cases hr

/-! loop.example/g01297/impl.CycleOfForm -/
def impl_CycleOfForm_sh : List SkD := [.agg [.int .i64, .int .i64, .int .i64]]
def impl_CycleOfForm_runG {α : Type} (F : Nat → Int → Int → Int → (Int → Option α) → ((List (Int × Int × Int)) → Int → Option α) → Option α) (n : Nat) (p : List P1) (κ : Res → Option α) : Option α := match p with
  | [.int x, .int x1, .int x2] => F n x x1 x2 (fun v1 => κ ⟨[.nilsl, .int .i64 v1], []⟩) (fun v1 v2 => κ ⟨[.sl 26 .tr v1, .int .i64 v2], []⟩)
  | _ => none
def impl_CycleOfForm_run {α : Type} (n : Nat) (p : List P1) (κ : Res → Option α) : Option α := impl_CycleOfForm_runG impl_CycleOfForm n p κ
def impl_CycleOfForm_CG {α : Type} (F0 : Nat → Int → Int → Int → (Bool → Option α) → Option α) (F1 : Nat → Int → Int → Int → ((List (Int × Int × Int)) → Option α) → Option α) (n : Nat) : FuncId → List D → (Res → Option α) → Option α := tabC [(55, (byShape impl_IsForm_sh (impl_IsForm_runG F0 n))), (58, (byShape impl_Form_cycle_sh (impl_Form_cycle_runG F1 n)))]
def impl_CycleOfForm_C {α : Type} (n : Nat) : FuncId → List D → (Res → Option α) → Option α := impl_CycleOfForm_CG impl_IsForm impl_Form_cycle n
def impl_CycleOfForm_M : FuncId → List Nat := tabM []
def impl_CycleOfForm_lpsG {α : Type}  : List (LoopT α) := []
def impl_CycleOfForm_lps {α : Type} : List (LoopT α) := impl_CycleOfForm_lpsG
def impl_CycleOfForm_XG {α : Type} (F0 : Nat → Int → Int → Int → (Bool → Option α) → Option α) (F1 : Nat → Int → Int → Int → ((List (Int × Int × Int)) → Option α) → Option α)  (n : Nat) : Ctx α := ⟨impl_CycleOfForm_CG F0 F1 n, impl_CycleOfForm_M, eqs, lpOf (impl_CycleOfForm_lpsG) n⟩
def impl_CycleOfForm_X {α : Type} (n : Nat) : Ctx α := impl_CycleOfForm_XG impl_IsForm impl_Form_cycle n
def impl_CycleOfForm_Lt (np : Nat) (lent : List (Bool × Nat × Blk)) : Prop := np = 1 ∧ lent = []
def impl_CycleOfForm_body {α : Type} (F0 : Nat → Int → Int → Int → (Bool → Option α) → Option α) (F1 : Nat → Int → Int → Int → ((List (Int × Int × Int)) → Option α) → Option α)  (k : Nat) (x : Int) (x1 : Int) (x2 : Int) (r0 : Int → Option α) (r1 : (List (Int × Int × Int)) → Int → Option α) : Option α :=
  F0 k x x1 x2 fun v =>
  bif (!v) then
    r0 1
  else
    F1 k x x1 x2 fun v1 =>
    r1 v1 0
theorem impl_CycleOfForm_gen {α : Type} (F0 : Nat → Int → Int → Int → (Bool → Option α) → Option α) (F1 : Nat → Int → Int → Int → ((List (Int × Int × Int)) → Option α) → Option α)  (n : Nat) (x : Int) (x1 : Int) (x2 : Int) (κ : Res → Option α) : evFn Try.prog (impl_CycleOfForm_XG F0 F1 n) Try.f35 (((buildDs impl_CycleOfForm_sh [.int x, .int x1, .int x2]).map Prod.fst).getD []) κ = impl_CycleOfForm_body F0 F1 n x x1 x2 (fun v1 => κ ⟨[.nilsl, .int .i64 v1], []⟩) (fun v1 v2 => κ ⟨[.sl 26 .tr v1, .int .i64 v2], []⟩) := by kernel_rfl
theorem impl_CycleOfForm_ev {α : Type} (n : Nat) (x : Int) (x1 : Int) (x2 : Int) (κ : Res → Option α) : evFn Try.prog (impl_CycleOfForm_X n) Try.f35 (((buildDs impl_CycleOfForm_sh [.int x, .int x1, .int x2]).map Prod.fst).getD []) κ = impl_CycleOfForm_run n [.int x, .int x1, .int x2] κ := (impl_CycleOfForm_gen impl_IsForm impl_Form_cycle n x x1 x2 κ).trans (by kernel_rfl)
theorem impl_CycleOfForm_en (x : Int) (x1 : Int) (x2 : Int) : (entry 0 (((buildDs impl_CycleOfForm_sh [.int x, .int x1, .int x2]).map Prod.fst).getD [])).map (fun x => (x.1.length, x.2.lent)) = some (1, []) := by kernel_rfl
theorem impl_CycleOfForm_good {α : Type} : ∀ n, GoodFn (α := α) Try.prog 35 (byShape impl_CycleOfForm_sh (impl_CycleOfForm_run n)) := by
  refine fn_good' Try.func35 (c := (Try.f35.body.getD .skip)) (by kernel_rfl) (by kernel_rfl) (by kernel_rfl) impl_CycleOfForm_C impl_CycleOfForm_M eqs impl_CycleOfForm_lps (fun n => tabC_good (List.forall_mem_cons.2 ⟨(impl_IsForm_good n), (List.forall_mem_cons.2 ⟨(impl_Form_cycle_good n), (fun _ h => absurd h List.not_mem_nil)⟩)⟩)) eqs_ok impl_CycleOfForm_Lt ?_ ?_ impl_CycleOfForm_sh impl_CycleOfForm_run ?_
  · exact (fun _ h => absurd h List.not_mem_nil)
  · exact (fun _ h => absurd h List.not_mem_nil)
  · intro n p κ r ds hd hr
    have hr0 := hr
    unfold impl_CycleOfForm_run impl_CycleOfForm_runG at hr
    split at hr
    · rw [← ds_of hd]
      exact ⟨en_of (impl_CycleOfForm_en _ _ _) ⟨rfl, rfl⟩, (impl_CycleOfForm_ev n _ _ _ κ).trans hr0⟩
    · cases hr

/-! loop.example/g01297/laws.eqFormS -/
def laws_eqFormS_0N_1N_sh : List SkD := [.nilsl, .nilsl]
def laws_eqFormS_0N_1N_runG {α : Type} (F : Nat → (Bool → Option α) → Option α) (n : Nat) (p : List P1) (κ : Res → Option α) : Option α := match p with
  | [] => F n (fun v1 => κ ⟨[.bool v1], []⟩)
  | _ => none
def laws_eqFormS_0N_1N_run {α : Type} (n : Nat) (p : List P1) (κ : Res → Option α) : Option α := laws_eqFormS_0N_1N_runG laws_eqFormS_0N_1N n p κ
def laws_eqFormS_0N_1N_CG {α : Type}  (n : Nat) : FuncId → List D → (Res → Option α) → Option α := tabC []
def laws_eqFormS_0N_1N_C {α : Type} (n : Nat) : FuncId → List D → (Res → Option α) → Option α := laws_eqFormS_0N_1N_CG n
def laws_eqFormS_0N_1N_M : FuncId → List Nat := tabM []
def laws_eqFormS_0N_1N_lpsG {α : Type}  : List (LoopT α) := []
def laws_eqFormS_0N_1N_lps {α : Type} : List (LoopT α) := laws_eqFormS_0N_1N_lpsG
def laws_eqFormS_0N_1N_XG {α : Type}   (n : Nat) : Ctx α := ⟨laws_eqFormS_0N_1N_CG n, laws_eqFormS_0N_1N_M, eqs, lpOf (laws_eqFormS_0N_1N_lpsG) n⟩
def laws_eqFormS_0N_1N_X {α : Type} (n : Nat) : Ctx α := laws_eqFormS_0N_1N_XG n
def laws_eqFormS_0N_1N_Lt (np : Nat) (lent : List (Bool × Nat × Blk)) : Prop := np = 2 ∧ lent = []
def laws_eqFormS_0N_1N_body {α : Type}   (k : Nat)  (r0 : Bool → Option α) : Option α :=
  r0 true
theorem laws_eqFormS_0N_1N_gen {α : Type}   (n : Nat)  (κ : Res → Option α) : evFn Try.prog (laws_eqFormS_0N_1N_XG n) Try.f36 (((buildDs laws_eqFormS_0N_1N_sh []).map Prod.fst).getD []) κ = laws_eqFormS_0N_1N_body n (fun v1 => κ ⟨[.bool v1], []⟩) := by kernel_rfl
theorem laws_eqFormS_0N_1N_ev {α : Type} (n : Nat)  (κ : Res → Option α) : evFn Try.prog (laws_eqFormS_0N_1N_X n) Try.f36 (((buildDs laws_eqFormS_0N_1N_sh []).map Prod.fst).getD []) κ = laws_eqFormS_0N_1N_run n [] κ := (laws_eqFormS_0N_1N_gen n κ).trans (by kernel_rfl)
theorem laws_eqFormS_0N_1N_en  : (entry 0 (((buildDs laws_eqFormS_0N_1N_sh []).map Prod.fst).getD [])).map (fun x => (x.1.length, x.2.lent)) = some (2, []) := by kernel_rfl
theorem laws_eqFormS_0N_1N_good {α : Type} : ∀ n, GoodFn (α := α) Try.prog 36 (byShape laws_eqFormS_0N_1N_sh (laws_eqFormS_0N_1N_run n)) := by
  refine fn_good' Try.func36 (c := (Try.f36.body.getD .skip)) (by kernel_rfl) (by kernel_rfl) (by kernel_rfl) laws_eqFormS_0N_1N_C laws_eqFormS_0N_1N_M eqs laws_eqFormS_0N_1N_lps (fun n => tabC_good (fun _ h => absurd h List.not_mem_nil)) eqs_ok laws_eqFormS_0N_1N_Lt ?_ ?_ laws_eqFormS_0N_1N_sh laws_eqFormS_0N_1N_run ?_
  · exact (fun _ h => absurd h List.not_mem_nil)
  · exact (fun _ h => absurd h List.not_mem_nil)
  · intro n p κ r ds hd hr
    have hr0 := hr
    unfold laws_eqFormS_0N_1N_run laws_eqFormS_0N_1N_runG at hr
    split at hr
    · rw [← ds_of hd]
      exact ⟨en_of (laws_eqFormS_0N_1N_en) ⟨rfl, rfl⟩, (laws_eqFormS_0N_1N_ev n κ).trans hr0⟩
    · cases hr

/-! loop.example/g01297/laws.markFormS -/
def laws_markFormS_0N_sh : List SkD := [.nilsl, .int .i64]
def laws_markFormS_0N_runG {α : Type} (F : Nat → Int → (Int → Option α) → Option α) (n : Nat) (p : List P1) (κ : Res → Option α) : Option α := match p with
  | [.int k_] => F n k_ (fun v1 => κ ⟨[.int .i64 v1], []⟩)
  | _ => none
def laws_markFormS_0N_run {α : Type} (n : Nat) (p : List P1) (κ : Res → Option α) : Option α := laws_markFormS_0N_runG laws_markFormS_0N n p κ
def laws_markFormS_0N_CG {α : Type}  (n : Nat) : FuncId → List D → (Res → Option α) → Option α := tabC []
def laws_markFormS_0N_C {α : Type} (n : Nat) : FuncId → List D → (Res → Option α) → Option α := laws_markFormS_0N_CG n
def laws_markFormS_0N_M : FuncId → List Nat := tabM []
def laws_markFormS_0N_lpsG {α : Type}  : List (LoopT α) := []
def laws_markFormS_0N_lps {α : Type} : List (LoopT α) := laws_markFormS_0N_lpsG
def laws_markFormS_0N_XG {α : Type}   (n : Nat) : Ctx α := ⟨laws_markFormS_0N_CG n, laws_markFormS_0N_M, eqs, lpOf (laws_markFormS_0N_lpsG) n⟩
def laws_markFormS_0N_X {α : Type} (n : Nat) : Ctx α := laws_markFormS_0N_XG n
def laws_markFormS_0N_Lt (np : Nat) (lent : List (Bool × Nat × Blk)) : Prop := np = 2 ∧ lent = []
def laws_markFormS_0N_body {α : Type}   (k : Nat) (k_ : Int) (r0 : Int → Option α) : Option α :=
  r0 k_
theorem laws_markFormS_0N_gen {α : Type}   (n : Nat) (k_ : Int) (κ : Res → Option α) : evFn Try.prog (laws_markFormS_0N_XG n) Try.f37 (((buildDs laws_markFormS_0N_sh [.int k_]).map Prod.fst).getD []) κ = laws_markFormS_0N_body n k_ (fun v1 => κ ⟨[.int .i64 v1], []⟩) := by kernel_rfl
theorem laws_markFormS_0N_ev {α : Type} (n : Nat) (k_ : Int) (κ : Res → Option α) : evFn Try.prog (laws_markFormS_0N_X n) Try.f37 (((buildDs laws_markFormS_0N_sh [.int k_]).map Prod.fst).getD []) κ = laws_markFormS_0N_run n [.int k_] κ := (laws_markFormS_0N_gen n k_ κ).trans (by kernel_rfl)
theorem laws_markFormS_0N_en (k_ : Int) : (entry 0 (((buildDs laws_markFormS_0N_sh [.int k_]).map Prod.fst).getD [])).map (fun x => (x.1.length, x.2.lent)) = some (2, []) := by kernel_rfl
theorem laws_markFormS_0N_good {α : Type} : ∀ n, GoodFn (α := α) Try.prog 37 (byShape laws_markFormS_0N_sh (laws_markFormS_0N_run n)) := by
  refine fn_good' Try.func37 (c := (Try.f37.body.getD .skip)) (by kernel_rfl) (by kernel_rfl) (by kernel_rfl) laws_markFormS_0N_C laws_markFormS_0N_M eqs laws_markFormS_0N_lps (fun n => tabC_good (fun _ h => absurd h List.not_mem_nil)) eqs_ok laws_markFormS_0N_Lt ?_ ?_ laws_markFormS_0N_sh laws_markFormS_0N_run ?_
  · exact (fun _ h => absurd h List.not_mem_nil)
  · exact (fun _ h => absurd h List.not_mem_nil)
  · intro n p κ r ds hd hr
    have hr0 := hr
    unfold laws_markFormS_0N_run laws_markFormS_0N_runG at hr
    split at hr
    · rw [← ds_of hd]
      exact ⟨en_of (laws_markFormS_0N_en _) ⟨rfl, rfl⟩, (laws_markFormS_0N_ev n _ κ).trans hr0⟩
    · cases hr

/-! loop.example/g01297/laws.heldFormS -/
def laws_heldFormS_0N_sh : List SkD := [.nilsl, .int .i64]
def laws_heldFormS_0N_runG {α : Type} (F : Nat → Int → (Int → Option α) → Option α) (n : Nat) (p : List P1) (κ : Res → Option α) : Option α := match p with
  | [.int k_] => F n k_ (fun v1 => κ ⟨[.int .i64 v1], []⟩)
  | _ => none
def laws_heldFormS_0N_run {α : Type} (n : Nat) (p : List P1) (κ : Res → Option α) : Option α := laws_heldFormS_0N_runG laws_heldFormS_0N n p κ
def laws_heldFormS_0N_CG {α : Type}  (n : Nat) : FuncId → List D → (Res → Option α) → Option α := tabC []
def laws_heldFormS_0N_C {α : Type} (n : Nat) : FuncId → List D → (Res → Option α) → Option α := laws_heldFormS_0N_CG n
def laws_heldFormS_0N_M : FuncId → List Nat := tabM []
def laws_heldFormS_0N_lpsG {α : Type}  : List (LoopT α) := []
def laws_heldFormS_0N_lps {α : Type} : List (LoopT α) := laws_heldFormS_0N_lpsG
def laws_heldFormS_0N_XG {α : Type}   (n : Nat) : Ctx α := ⟨laws_heldFormS_0N_CG n, laws_heldFormS_0N_M, eqs, lpOf (laws_heldFormS_0N_lpsG) n⟩
def laws_heldFormS_0N_X {α : Type} (n : Nat) : Ctx α := laws_heldFormS_0N_XG n
def laws_heldFormS_0N_Lt (np : Nat) (lent : List (Bool × Nat × Blk)) : Prop := np = 2 ∧ lent = []
def laws_heldFormS_0N_body {α : Type}   (k : Nat) (k_ : Int) (r0 : Int → Option α) : Option α :=
  r0 k_
theorem laws_heldFormS_0N_gen {α : Type}   (n : Nat) (k_ : Int) (κ : Res → Option α) : evFn Try.prog (laws_heldFormS_0N_XG n) Try.f38 (((buildDs laws_heldFormS_0N_sh [.int k_]).map Prod.fst).getD []) κ = laws_heldFormS_0N_body n k_ (fun v1 => κ ⟨[.int .i64 v1], []⟩) := by kernel_rfl
theorem laws_heldFormS_0N_ev {α : Type} (n : Nat) (k_ : Int) (κ : Res → Option α) : evFn Try.prog (laws_heldFormS_0N_X n) Try.f38 (((buildDs laws_heldFormS_0N_sh [.int k_]).map Prod.fst).getD []) κ = laws_heldFormS_0N_run n [.int k_] κ := (laws_heldFormS_0N_gen n k_ κ).trans (by kernel_rfl)
theorem laws_heldFormS_0N_en (k_ : Int) : (entry 0 (((buildDs laws_heldFormS_0N_sh [.int k_]).map Prod.fst).getD [])).map (fun x => (x.1.length, x.2.lent)) = some (2, []) := by kernel_rfl
theorem laws_heldFormS_0N_good {α : Type} : ∀ n, GoodFn (α := α) Try.prog 38 (byShape laws_heldFormS_0N_sh (laws_heldFormS_0N_run n)) := by
  refine fn_good' Try.func38 (c := (Try.f38.body.getD .skip)) (by kernel_rfl) (by kernel_rfl) (by kernel_rfl) laws_heldFormS_0N_C laws_heldFormS_0N_M eqs laws_heldFormS_0N_lps (fun n => tabC_good (fun _ h => absurd h List.not_mem_nil)) eqs_ok laws_heldFormS_0N_Lt ?_ ?_ laws_heldFormS_0N_sh laws_heldFormS_0N_run ?_
  · exact (fun _ h => absurd h List.not_mem_nil)
  · exact (fun _ h => absurd h List.not_mem_nil)
  · intro n p κ r ds hd hr
    have hr0 := hr
    unfold laws_heldFormS_0N_run laws_heldFormS_0N_runG at hr
    split at hr
    · rw [← ds_of hd]
      exact ⟨en_of (laws_heldFormS_0N_en _) ⟨rfl, rfl⟩, (laws_heldFormS_0N_ev n _ κ).trans hr0⟩
    · cases hr

/-! loop.example/g01297/laws.eqFormS -/
def laws_eqFormS_1N_sh : List SkD := [.sl 26 .tr, .nilsl]
def laws_eqFormS_1N_runG {α : Type} (F : Nat → (List (Int × Int × Int)) → (Bool → Option α) → Option α) (n : Nat) (p : List P1) (κ : Res → Option α) : Option α := match p with
  | [.rows .tr a] => F n a (fun v1 => κ ⟨[.bool v1], []⟩)
  | _ => none
def laws_eqFormS_1N_run {α : Type} (n : Nat) (p : List P1) (κ : Res → Option α) : Option α := laws_eqFormS_1N_runG laws_eqFormS_1N n p κ
def laws_eqFormS_1N_CG {α : Type}  (n : Nat) : FuncId → List D → (Res → Option α) → Option α := tabC []
def laws_eqFormS_1N_C {α : Type} (n : Nat) : FuncId → List D → (Res → Option α) → Option α := laws_eqFormS_1N_CG n
def laws_eqFormS_1N_M : FuncId → List Nat := tabM []
def laws_eqFormS_1N_t4 : Tpl := ⟨[.sl 0, .nilsl, .any, .any, .any, .int .i64, .any, .any, .any, .any, .any, .any, .any, .any, .any, .any, .any, .any, .any, .any, .any, .any, .any, .any, .any, .any, .any], [(0, .rows 0 26 .tr)], []⟩
def laws_eqFormS_1N_uG4 {α : Type} (G : Nat → Int → (List (Int × Int × Int)) → (Int → (List (Int × Int × Int)) → Option α) → (Bool → Option α) → Option α) (n : Nat) (p : List P1) (brk : Nat → List P1 → Option α) (ret : Res → Option α) : Option α := match p with
  | [.int i, .rows .tr a1] => G n i a1 (fun i a1 => brk 0 [.int i, .rows .tr a1]) (fun v1 => ret ⟨[.bool v1], []⟩)
  | _ => none
def laws_eqFormS_1N_u4 {α : Type} (n : Nat) (p : List P1) (brk : Nat → List P1 → Option α) (ret : Res → Option α) : Option α := laws_eqFormS_1N_uG4 laws_eqFormS_1N_l4 n p brk ret
def laws_eqFormS_1N_lpsG {α : Type} (G4 : Nat → Int → (List (Int × Int × Int)) → (Int → (List (Int × Int × Int)) → Option α) → (Bool → Option α) → Option α) : List (LoopT α) := [⟨4, laws_eqFormS_1N_t4, laws_eqFormS_1N_uG4 G4⟩]
def laws_eqFormS_1N_lps {α : Type} : List (LoopT α) := laws_eqFormS_1N_lpsG laws_eqFormS_1N_l4
def laws_eqFormS_1N_XG {α : Type}  (G4 : Nat → Int → (List (Int × Int × Int)) → (Int → (List (Int × Int × Int)) → Option α) → (Bool → Option α) → Option α) (n : Nat) : Ctx α := ⟨laws_eqFormS_1N_CG n, laws_eqFormS_1N_M, eqs, lpOf (laws_eqFormS_1N_lpsG G4) n⟩
def laws_eqFormS_1N_X {α : Type} (n : Nat) : Ctx α := laws_eqFormS_1N_XG laws_eqFormS_1N_l4 n
def laws_eqFormS_1N_Lt (np : Nat) (lent : List (Bool × Nat × Blk)) : Prop := np = 2 ∧ lent = []
def laws_eqFormS_1N_lb4 {α : Type}  (G4 : Nat → Int → (List (Int × Int × Int)) → (Int → (List (Int × Int × Int)) → Option α) → (Bool → Option α) → Option α) (k : Nat) (i : Int) (a1 : List (Int × Int × Int)) (b0 : Int → (List (Int × Int × Int)) → Option α) (r0 : Bool → Option α) : Option α :=
  bif decide (i < (((List.length a1) : Nat) : Int)) then
    bif (decide (0 ≤ i) && decide (i < (((List.length a1) : Nat) : Int))) then
      (a1[i.toNat]?).bind fun e_ =>
      none
    else
      none
  else
    b0 i a1
theorem laws_eqFormS_1N_l4_gen {α : Type}  (G4 : Nat → Int → (List (Int × Int × Int)) → (Int → (List (Int × Int × Int)) → Option α) → (Bool → Option α) → Option α) (n : Nat) (i : Int) (a1 : List (Int × Int × Int)) (brk : Nat → List P1 → Option α) (ret : Res → Option α) : ev ((laws_eqFormS_1N_XG G4 n).env Try.prog Try.f36 2 []) (findLoop (loopsIn (Try.f36.body.getD .skip)) 4) ((laws_eqFormS_1N_t4.build [.int i, .rows .tr a1]).getD ⟨[], []⟩) (roundK (2 * 64) laws_eqFormS_1N_t4 (fun q => laws_eqFormS_1N_uG4 G4 n q brk ret) brk ret) = laws_eqFormS_1N_lb4 G4 n i a1 (fun i a1 => brk 0 [.int i, .rows .tr a1]) (fun v1 => ret ⟨[.bool v1], []⟩) := by kernel_rfl
theorem laws_eqFormS_1N_l4_ev {α : Type} (n : Nat) (i : Int) (a1 : List (Int × Int × Int)) (brk : Nat → List P1 → Option α) (ret : Res → Option α) : ev ((laws_eqFormS_1N_X n).env Try.prog Try.f36 2 []) (findLoop (loopsIn (Try.f36.body.getD .skip)) 4) ((laws_eqFormS_1N_t4.build [.int i, .rows .tr a1]).getD ⟨[], []⟩) (roundK (2 * 64) laws_eqFormS_1N_t4 (fun q => laws_eqFormS_1N_u4 n q brk ret) brk ret) = laws_eqFormS_1N_u4 (n + 1) [.int i, .rows .tr a1] brk ret := (laws_eqFormS_1N_l4_gen laws_eqFormS_1N_l4 n i a1 brk ret).trans (by kernel_rfl)
def laws_eqFormS_1N_body {α : Type}  (G4 : Nat → Int → (List (Int × Int × Int)) → (Int → (List (Int × Int × Int)) → Option α) → (Bool → Option α) → Option α) (k : Nat) (a : List (Int × Int × Int)) (r0 : Bool → Option α) : Option α :=
  bif (!decide ((((List.length a) : Nat) : Int) = 0)) then
    r0 false
  else
    G4 k 0 a
      (fun i1 a2 =>
        r0 true)
      r0
theorem laws_eqFormS_1N_gen {α : Type}  (G4 : Nat → Int → (List (Int × Int × Int)) → (Int → (List (Int × Int × Int)) → Option α) → (Bool → Option α) → Option α) (n : Nat) (a : List (Int × Int × Int)) (κ : Res → Option α) : evFn Try.prog (laws_eqFormS_1N_XG G4 n) Try.f36 (((buildDs laws_eqFormS_1N_sh [.rows .tr a]).map Prod.fst).getD []) κ = laws_eqFormS_1N_body G4 n a (fun v1 => κ ⟨[.bool v1], []⟩) := by kernel_rfl
theorem laws_eqFormS_1N_ev {α : Type} (n : Nat) (a : List (Int × Int × Int)) (κ : Res → Option α) : evFn Try.prog (laws_eqFormS_1N_X n) Try.f36 (((buildDs laws_eqFormS_1N_sh [.rows .tr a]).map Prod.fst).getD []) κ = laws_eqFormS_1N_run n [.rows .tr a] κ := (laws_eqFormS_1N_gen laws_eqFormS_1N_l4 n a κ).trans (by kernel_rfl)
theorem laws_eqFormS_1N_en (a : List (Int × Int × Int)) : (entry 0 (((buildDs laws_eqFormS_1N_sh [.rows .tr a]).map Prod.fst).getD [])).map (fun x => (x.1.length, x.2.lent)) = some (2, []) := by kernel_rfl
theorem laws_eqFormS_1N_good {α : Type} : ∀ n, GoodFn (α := α) Try.prog 36 (byShape laws_eqFormS_1N_sh (laws_eqFormS_1N_run n)) := by
  refine fn_good' Try.func36 (c := (Try.f36.body.getD .skip)) (by kernel_rfl) (by kernel_rfl) (by kernel_rfl) laws_eqFormS_1N_C laws_eqFormS_1N_M eqs laws_eqFormS_1N_lps (fun n => tabC_good (fun _ h => absurd h List.not_mem_nil)) eqs_ok laws_eqFormS_1N_Lt ?_ ?_ laws_eqFormS_1N_sh laws_eqFormS_1N_run ?_
  · refine List.forall_mem_cons.2 ⟨?_, (fun _ h => absurd h List.not_mem_nil)⟩
    · intro p brk ret; show laws_eqFormS_1N_u4 0 p brk ret = none; unfold laws_eqFormS_1N_u4 laws_eqFormS_1N_uG4; split <;> rfl
  · refine List.forall_mem_cons.2 ⟨?_, (fun _ h => absurd h List.not_mem_nil)⟩
    · intro np lent hL n p brk ret st r hb hr
      obtain ⟨rfl, rfl⟩ := hL
      rw [← tpl_of hb]
      change laws_eqFormS_1N_u4 (n + 1) p brk ret = some r at hr
      have hr0 := hr
      unfold laws_eqFormS_1N_u4 laws_eqFormS_1N_uG4 at hr
      split at hr
      · exact (laws_eqFormS_1N_l4_ev n _ _ brk ret).trans hr0
      · cases hr
  · intro n p κ r ds hd hr
    have hr0 := hr
    unfold laws_eqFormS_1N_run laws_eqFormS_1N_runG at hr
    split at hr
    · rw [← ds_of hd]
      exact ⟨en_of (laws_eqFormS_1N_en _) ⟨rfl, rfl⟩, (laws_eqFormS_1N_ev n _ κ).trans hr0⟩
    · cases hr

/-! loop.example/g01297/laws.markFormS -/
def laws_markFormS_sh : List SkD := [.msl 26 .tr, .int .i64]
def laws_markFormS_runG {α : Type} (F : Nat → (List (Int × Int × Int)) → Int → (Int → (List (Int × Int × Int)) → Option α) → Option α) (n : Nat) (p : List P1) (κ : Res → Option α) : Option α := match p with
  | [.rows .tr a, .int k_] => F n a k_ (fun v1 v2 => κ ⟨[.int .i64 v1], [.sl 26 .tr v2]⟩)
  | _ => none
def laws_markFormS_run {α : Type} (n : Nat) (p : List P1) (κ : Res → Option α) : Option α := laws_markFormS_runG laws_markFormS n p κ
def laws_markFormS_CG {α : Type}  (n : Nat) : FuncId → List D → (Res → Option α) → Option α := tabC []
def laws_markFormS_C {α : Type} (n : Nat) : FuncId → List D → (Res → Option α) → Option α := laws_markFormS_CG n
def laws_markFormS_M : FuncId → List Nat := tabM []
def laws_markFormS_t2 : Tpl := ⟨[.sl 0, .int .i64, .any, .any, .any, .int .i64, .any, .any, .any, .any, .any, .any, .any, .any, .any, .any, .any, .any, .any, .any, .any, .any, .any, .any, .any, .any, .any, .any, .any, .any, .any, .any, .any, .any], [(0, .rows 1 26 .tr)], []⟩
def laws_markFormS_uG2 {α : Type} (G : Nat → Int → Int → (List (Int × Int × Int)) → (Int → Int → (List (Int × Int × Int)) → Option α) → (Int → (List (Int × Int × Int)) → Option α) → Option α) (n : Nat) (p : List P1) (brk : Nat → List P1 → Option α) (ret : Res → Option α) : Option α := match p with
  | [.int k_1, .int i, .rows .tr a1] => G n k_1 i a1 (fun k_1 i a1 => brk 0 [.int k_1, .int i, .rows .tr a1]) (fun v1 v2 => ret ⟨[.int .i64 v1], [.sl 26 .tr v2]⟩)
  | _ => none
def laws_markFormS_u2 {α : Type} (n : Nat) (p : List P1) (brk : Nat → List P1 → Option α) (ret : Res → Option α) : Option α := laws_markFormS_uG2 laws_markFormS_l2 n p brk ret
def laws_markFormS_lpsG {α : Type} (G2 : Nat → Int → Int → (List (Int × Int × Int)) → (Int → Int → (List (Int × Int × Int)) → Option α) → (Int → (List (Int × Int × Int)) → Option α) → Option α) : List (LoopT α) := [⟨2, laws_markFormS_t2, laws_markFormS_uG2 G2⟩]
def laws_markFormS_lps {α : Type} : List (LoopT α) := laws_markFormS_lpsG laws_markFormS_l2
def laws_markFormS_XG {α : Type}  (G2 : Nat → Int → Int → (List (Int × Int × Int)) → (Int → Int → (List (Int × Int × Int)) → Option α) → (Int → (List (Int × Int × Int)) → Option α) → Option α) (n : Nat) : Ctx α := ⟨laws_markFormS_CG n, laws_markFormS_M, eqs, lpOf (laws_markFormS_lpsG G2) n⟩
def laws_markFormS_X {α : Type} (n : Nat) : Ctx α := laws_markFormS_XG laws_markFormS_l2 n
def laws_markFormS_Lt (np : Nat) (lent : List (Bool × Nat × Blk)) : Prop := np = 2 ∧ ∃ (a : List (Int × Int × Int)), lent = [(true, 0, .rows 1 26 .tr a)]
def laws_markFormS_lb2 {α : Type}  (G2 : Nat → Int → Int → (List (Int × Int × Int)) → (Int → Int → (List (Int × Int × Int)) → Option α) → (Int → (List (Int × Int × Int)) → Option α) → Option α) (k : Nat) (k_1 : Int) (i : Int) (a1 : List (Int × Int × Int)) (b0 : Int → Int → (List (Int × Int × Int)) → Option α) (r0 : Int → (List (Int × Int × Int)) → Option α) : Option α :=
  bif decide (i < (((List.length a1) : Nat) : Int)) then
    bif (decide (0 ≤ i) && decide (i < (((List.length a1) : Nat) : Int))) then
      (a1[i.toNat]?).bind fun e_ =>
      bif (decide (0 ≤ i) && decide (i < (((List.length (List.set a1 i.toNat (k_1, e_.2.1, e_.2.2))) : Nat) : Int))) then
        ((List.set a1 i.toNat (k_1, e_.2.1, e_.2.2))[i.toNat]?).bind fun e_1 =>
        bif (decide (0 ≤ i) && decide (i < (((List.length (List.set (List.set a1 i.toNat (k_1, e_.2.1, e_.2.2)) i.toNat (e_1.1, (w64 (k_1 + 1)), e_1.2.2))) : Nat) : Int))) then
          ((List.set (List.set a1 i.toNat (k_1, e_.2.1, e_.2.2)) i.toNat (e_1.1, (w64 (k_1 + 1)), e_1.2.2))[i.toNat]?).bind fun e_2 =>
          G2 k (w64 ((w64 ((w64 (k_1 + 1)) + 1)) + 1)) (w64 (i + 1)) (List.set (List.set (List.set a1 i.toNat (k_1, e_.2.1, e_.2.2)) i.toNat (e_1.1, (w64 (k_1 + 1)), e_1.2.2)) i.toNat (e_2.1, e_2.2.1, (w64 ((w64 (k_1 + 1)) + 1)))) b0 r0
        else
          none
      else
        none
    else
      none
  else
    b0 k_1 i a1
theorem laws_markFormS_l2_gen {α : Type}  (G2 : Nat → Int → Int → (List (Int × Int × Int)) → (Int → Int → (List (Int × Int × Int)) → Option α) → (Int → (List (Int × Int × Int)) → Option α) → Option α) (n : Nat) (a_0 : List (Int × Int × Int)) (k_1 : Int) (i : Int) (a1 : List (Int × Int × Int)) (brk : Nat → List P1 → Option α) (ret : Res → Option α) : ev ((laws_markFormS_XG G2 n).env Try.prog Try.f37 2 [(true, 0, .rows 1 26 .tr a_0)]) (findLoop (loopsIn (Try.f37.body.getD .skip)) 2) ((laws_markFormS_t2.build [.int k_1, .int i, .rows .tr a1]).getD ⟨[], []⟩) (roundK (2 * 64) laws_markFormS_t2 (fun q => laws_markFormS_uG2 G2 n q brk ret) brk ret) = laws_markFormS_lb2 G2 n k_1 i a1 (fun k_1 i a1 => brk 0 [.int k_1, .int i, .rows .tr a1]) (fun v1 v2 => ret ⟨[.int .i64 v1], [.sl 26 .tr v2]⟩) := by kernel_rfl
theorem laws_markFormS_l2_ev {α : Type} (n : Nat) (a_0 : List (Int × Int × Int)) (k_1 : Int) (i : Int) (a1 : List (Int × Int × Int)) (brk : Nat → List P1 → Option α) (ret : Res → Option α) : ev ((laws_markFormS_X n).env Try.prog Try.f37 2 [(true, 0, .rows 1 26 .tr a_0)]) (findLoop (loopsIn (Try.f37.body.getD .skip)) 2) ((laws_markFormS_t2.build [.int k_1, .int i, .rows .tr a1]).getD ⟨[], []⟩) (roundK (2 * 64) laws_markFormS_t2 (fun q => laws_markFormS_u2 n q brk ret) brk ret) = laws_markFormS_u2 (n + 1) [.int k_1, .int i, .rows .tr a1] brk ret := (laws_markFormS_l2_gen laws_markFormS_l2 n a_0 k_1 i a1 brk ret).trans (by kernel_rfl)
def laws_markFormS_body {α : Type}  (G2 : Nat → Int → Int → (List (Int × Int × Int)) → (Int → Int → (List (Int × Int × Int)) → Option α) → (Int → (List (Int × Int × Int)) → Option α) → Option α) (k : Nat) (a : List (Int × Int × Int)) (k_ : Int) (r0 : Int → (List (Int × Int × Int)) → Option α) : Option α :=
  G2 k k_ 0 a
    (fun k_2 i1 a2 =>
      r0 k_2 a2)
    r0
theorem laws_markFormS_gen {α : Type}  (G2 : Nat → Int → Int → (List (Int × Int × Int)) → (Int → Int → (List (Int × Int × Int)) → Option α) → (Int → (List (Int × Int × Int)) → Option α) → Option α) (n : Nat) (a : List (Int × Int × Int)) (k_ : Int) (κ : Res → Option α) : evFn Try.prog (laws_markFormS_XG G2 n) Try.f37 (((buildDs laws_markFormS_sh [.rows .tr a, .int k_]).map Prod.fst).getD []) κ = laws_markFormS_body G2 n a k_ (fun v1 v2 => κ ⟨[.int .i64 v1], [.sl 26 .tr v2]⟩) := by kernel_rfl
theorem laws_markFormS_ev {α : Type} (n : Nat) (a : List (Int × Int × Int)) (k_ : Int) (κ : Res → Option α) : evFn Try.prog (laws_markFormS_X n) Try.f37 (((buildDs laws_markFormS_sh [.rows .tr a, .int k_]).map Prod.fst).getD []) κ = laws_markFormS_run n [.rows .tr a, .int k_] κ := (laws_markFormS_gen laws_markFormS_l2 n a k_ κ).trans (by kernel_rfl)
theorem laws_markFormS_en (a : List (Int × Int × Int)) (k_ : Int) : (entry 0 (((buildDs laws_markFormS_sh [.rows .tr a, .int k_]).map Prod.fst).getD [])).map (fun x => (x.1.length, x.2.lent)) = some (2, [(true, 0, .rows 1 26 .tr a)]) := by kernel_rfl
theorem laws_markFormS_good {α : Type} : ∀ n, GoodFn (α := α) Try.prog 37 (byShape laws_markFormS_sh (laws_markFormS_run n)) := by
  refine fn_good' Try.func37 (c := (Try.f37.body.getD .skip)) (by kernel_rfl) (by kernel_rfl) (by kernel_rfl) laws_markFormS_C laws_markFormS_M eqs laws_markFormS_lps (fun n => tabC_good (fun _ h => absurd h List.not_mem_nil)) eqs_ok laws_markFormS_Lt ?_ ?_ laws_markFormS_sh laws_markFormS_run ?_
  · refine List.forall_mem_cons.2 ⟨?_, (fun _ h => absurd h List.not_mem_nil)⟩
    · intro p brk ret; show laws_markFormS_u2 0 p brk ret = none; unfold laws_markFormS_u2 laws_markFormS_uG2; split <;> rfl
  · refine List.forall_mem_cons.2 ⟨?_, (fun _ h => absurd h List.not_mem_nil)⟩
    · intro np lent hL n p brk ret st r hb hr
      obtain ⟨rfl, a_0, rfl⟩ := hL
      rw [← tpl_of hb]
      change laws_markFormS_u2 (n + 1) p brk ret = some r at hr
      have hr0 := hr
      unfold laws_markFormS_u2 laws_markFormS_uG2 at hr
      split at hr
      · exact (laws_markFormS_l2_ev n _ _ _ _ brk ret).trans hr0
      · cases hr
  · intro n p κ r ds hd hr
    have hr0 := hr
    unfold laws_markFormS_run laws_markFormS_runG at hr
    split at hr
    · rw [← ds_of hd]
      exact ⟨en_of (laws_markFormS_en _ _) ⟨rfl, _, rfl⟩, (laws_markFormS_ev n _ _ κ).trans hr0⟩
    · cases hr

/-! loop.example/g01297/laws.heldFormS -/
def laws_heldFormS_sh : List SkD := [.sl 26 .tr, .int .i64]
def laws_heldFormS_runG {α : Type} (F : Nat → (List (Int × Int × Int)) → Int → (Int → Option α) → Option α) (n : Nat) (p : List P1) (κ : Res → Option α) : Option α := match p with
  | [.rows .tr a, .int k_] => F n a k_ (fun v1 => κ ⟨[.int .i64 v1], []⟩)
  | _ => none
def laws_heldFormS_run {α : Type} (n : Nat) (p : List P1) (κ : Res → Option α) : Option α := laws_heldFormS_runG laws_heldFormS n p κ
def laws_heldFormS_CG {α : Type}  (n : Nat) : FuncId → List D → (Res → Option α) → Option α := tabC []
def laws_heldFormS_C {α : Type} (n : Nat) : FuncId → List D → (Res → Option α) → Option α := laws_heldFormS_CG n
def laws_heldFormS_M : FuncId → List Nat := tabM []
def laws_heldFormS_t2 : Tpl := ⟨[.sl 0, .int .i64, .any, .any, .any, .int .i64, .any, .any, .any, .any, .any, .any, .any, .any, .any, .any, .any, .any, .any, .any, .any, .any, .any, .any, .any, .any, .any, .any, .any, .any, .any, .any, .any, .any, .any, .any, .any, .any, .any, .any], [(0, .rows 0 26 .tr)], []⟩
def laws_heldFormS_uG2 {α : Type} (G : Nat → Int → Int → (List (Int × Int × Int)) → (Int → Int → (List (Int × Int × Int)) → Option α) → (Int → Option α) → Option α) (n : Nat) (p : List P1) (brk : Nat → List P1 → Option α) (ret : Res → Option α) : Option α := match p with
  | [.int k_1, .int i, .rows .tr a1] => G n k_1 i a1 (fun k_1 i a1 => brk 0 [.int k_1, .int i, .rows .tr a1]) (fun v1 => ret ⟨[.int .i64 v1], []⟩)
  | _ => none
def laws_heldFormS_u2 {α : Type} (n : Nat) (p : List P1) (brk : Nat → List P1 → Option α) (ret : Res → Option α) : Option α := laws_heldFormS_uG2 laws_heldFormS_l2 n p brk ret
def laws_heldFormS_lpsG {α : Type} (G2 : Nat → Int → Int → (List (Int × Int × Int)) → (Int → Int → (List (Int × Int × Int)) → Option α) → (Int → Option α) → Option α) : List (LoopT α) := [⟨2, laws_heldFormS_t2, laws_heldFormS_uG2 G2⟩]
def laws_heldFormS_lps {α : Type} : List (LoopT α) := laws_heldFormS_lpsG laws_heldFormS_l2
def laws_heldFormS_XG {α : Type}  (G2 : Nat → Int → Int → (List (Int × Int × Int)) → (Int → Int → (List (Int × Int × Int)) → Option α) → (Int → Option α) → Option α) (n : Nat) : Ctx α := ⟨laws_heldFormS_CG n, laws_heldFormS_M, eqs, lpOf (laws_heldFormS_lpsG G2) n⟩
def laws_heldFormS_X {α : Type} (n : Nat) : Ctx α := laws_heldFormS_XG laws_heldFormS_l2 n
def laws_heldFormS_Lt (np : Nat) (lent : List (Bool × Nat × Blk)) : Prop := np = 2 ∧ lent = []
def laws_heldFormS_lb2 {α : Type}  (G2 : Nat → Int → Int → (List (Int × Int × Int)) → (Int → Int → (List (Int × Int × Int)) → Option α) → (Int → Option α) → Option α) (k : Nat) (k_1 : Int) (i : Int) (a1 : List (Int × Int × Int)) (b0 : Int → Int → (List (Int × Int × Int)) → Option α) (r0 : Int → Option α) : Option α :=
  bif decide (i < (((List.length a1) : Nat) : Int)) then
    bif (decide (0 ≤ i) && decide (i < (((List.length a1) : Nat) : Int))) then
      (a1[i.toNat]?).bind fun e_ =>
      bif (!decide (e_.1 = k_1)) then
        r0 (-1)
      else
      bif (decide (0 ≤ i) && decide (i < (((List.length a1) : Nat) : Int))) then
        (a1[i.toNat]?).bind fun e_1 =>
        bif (!decide (e_1.2.1 = (w64 (k_1 + 1)))) then
          r0 (-1)
        else
        bif (decide (0 ≤ i) && decide (i < (((List.length a1) : Nat) : Int))) then
          (a1[i.toNat]?).bind fun e_2 =>
          bif (!decide (e_2.2.2 = (w64 ((w64 (k_1 + 1)) + 1)))) then
            r0 (-1)
          else
            G2 k (w64 ((w64 ((w64 (k_1 + 1)) + 1)) + 1)) (w64 (i + 1)) a1 b0 r0
        else
          none
      else
        none
    else
      none
  else
    b0 k_1 i a1
theorem laws_heldFormS_l2_gen {α : Type}  (G2 : Nat → Int → Int → (List (Int × Int × Int)) → (Int → Int → (List (Int × Int × Int)) → Option α) → (Int → Option α) → Option α) (n : Nat) (k_1 : Int) (i : Int) (a1 : List (Int × Int × Int)) (brk : Nat → List P1 → Option α) (ret : Res → Option α) : ev ((laws_heldFormS_XG G2 n).env Try.prog Try.f38 2 []) (findLoop (loopsIn (Try.f38.body.getD .skip)) 2) ((laws_heldFormS_t2.build [.int k_1, .int i, .rows .tr a1]).getD ⟨[], []⟩) (roundK (2 * 64) laws_heldFormS_t2 (fun q => laws_heldFormS_uG2 G2 n q brk ret) brk ret) = laws_heldFormS_lb2 G2 n k_1 i a1 (fun k_1 i a1 => brk 0 [.int k_1, .int i, .rows .tr a1]) (fun v1 => ret ⟨[.int .i64 v1], []⟩) := by kernel_rfl
theorem laws_heldFormS_l2_ev {α : Type} (n : Nat) (k_1 : Int) (i : Int) (a1 : List (Int × Int × Int)) (brk : Nat → List P1 → Option α) (ret : Res → Option α) : ev ((laws_heldFormS_X n).env Try.prog Try.f38 2 []) (findLoop (loopsIn (Try.f38.body.getD .skip)) 2) ((laws_heldFormS_t2.build [.int k_1, .int i, .rows .tr a1]).getD ⟨[], []⟩) (roundK (2 * 64) laws_heldFormS_t2 (fun q => laws_heldFormS_u2 n q brk ret) brk ret) = laws_heldFormS_u2 (n + 1) [.int k_1, .int i, .rows .tr a1] brk ret := (laws_heldFormS_l2_gen laws_heldFormS_l2 n k_1 i a1 brk ret).trans (by kernel_rfl)
def laws_heldFormS_body {α : Type}  (G2 : Nat → Int → Int → (List (Int × Int × Int)) → (Int → Int → (List (Int × Int × Int)) → Option α) → (Int → Option α) → Option α) (k : Nat) (a : List (Int × Int × Int)) (k_ : Int) (r0 : Int → Option α) : Option α :=
  G2 k k_ 0 a
    (fun k_2 i1 a2 =>
      r0 k_2)
    r0
theorem laws_heldFormS_gen {α : Type}  (G2 : Nat → Int → Int → (List (Int × Int × Int)) → (Int → Int → (List (Int × Int × Int)) → Option α) → (Int → Option α) → Option α) (n : Nat) (a : List (Int × Int × Int)) (k_ : Int) (κ : Res → Option α) : evFn Try.prog (laws_heldFormS_XG G2 n) Try.f38 (((buildDs laws_heldFormS_sh [.rows .tr a, .int k_]).map Prod.fst).getD []) κ = laws_heldFormS_body G2 n a k_ (fun v1 => κ ⟨[.int .i64 v1], []⟩) := by kernel_rfl
theorem laws_heldFormS_ev {α : Type} (n : Nat) (a : List (Int × Int × Int)) (k_ : Int) (κ : Res → Option α) : evFn Try.prog (laws_heldFormS_X n) Try.f38 (((buildDs laws_heldFormS_sh [.rows .tr a, .int k_]).map Prod.fst).getD []) κ = laws_heldFormS_run n [.rows .tr a, .int k_] κ := (laws_heldFormS_gen laws_heldFormS_l2 n a k_ κ).trans (by kernel_rfl)
theorem laws_heldFormS_en (a : List (Int × Int × Int)) (k_ : Int) : (entry 0 (((buildDs laws_heldFormS_sh [.rows .tr a, .int k_]).map Prod.fst).getD [])).map (fun x => (x.1.length, x.2.lent)) = some (2, []) := by kernel_rfl
theorem laws_heldFormS_good {α : Type} : ∀ n, GoodFn (α := α) Try.prog 38 (byShape laws_heldFormS_sh (laws_heldFormS_run n)) := by
  refine fn_good' Try.func38 (c := (Try.f38.body.getD .skip)) (by kernel_rfl) (by kernel_rfl) (by kernel_rfl) laws_heldFormS_C laws_heldFormS_M eqs laws_heldFormS_lps (fun n => tabC_good (fun _ h => absurd h List.not_mem_nil)) eqs_ok laws_heldFormS_Lt ?_ ?_ laws_heldFormS_sh laws_heldFormS_run ?_
  · refine List.forall_mem_cons.2 ⟨?_, (fun _ h => absurd h List.not_mem_nil)⟩
    · intro p brk ret; show laws_heldFormS_u2 0 p brk ret = none; unfold laws_heldFormS_u2 laws_heldFormS_uG2; split <;> rfl
  · refine List.forall_mem_cons.2 ⟨?_, (fun _ h => absurd h List.not_mem_nil)⟩
    · intro np lent hL n p brk ret st r hb hr
      obtain ⟨rfl, rfl⟩ := hL
      rw [← tpl_of hb]
      change laws_heldFormS_u2 (n + 1) p brk ret = some r at hr
      have hr0 := hr
      unfold laws_heldFormS_u2 laws_heldFormS_uG2 at hr
      split at hr
      · exact (laws_heldFormS_l2_ev n _ _ _ brk ret).trans hr0
      · cases hr
  · intro n p κ r ds hd hr
    have hr0 := hr
    unfold laws_heldFormS_run laws_heldFormS_runG at hr
    split at hr
    · rw [← ds_of hd]
      exact ⟨en_of (laws_heldFormS_en _ _) ⟨rfl, rfl⟩, (laws_heldFormS_ev n _ _ κ).trans hr0⟩
    · cases hr

/-! loop.example/g01297/laws.eqFormS -/
def laws_eqFormS_0N_sh : List SkD := [.nilsl, .sl 26 .tr]
def laws_eqFormS_0N_runG {α : Type} (F : Nat → (List (Int × Int × Int)) → (Bool → Option α) → Option α) (n : Nat) (p : List P1) (κ : Res → Option α) : Option α := match p with
  | [.rows .tr b_] => F n b_ (fun v1 => κ ⟨[.bool v1], []⟩)
  | _ => none
def laws_eqFormS_0N_run {α : Type} (n : Nat) (p : List P1) (κ : Res → Option α) : Option α := laws_eqFormS_0N_runG laws_eqFormS_0N n p κ
def laws_eqFormS_0N_CG {α : Type}  (n : Nat) : FuncId → List D → (Res → Option α) → Option α := tabC []
def laws_eqFormS_0N_C {α : Type} (n : Nat) : FuncId → List D → (Res → Option α) → Option α := laws_eqFormS_0N_CG n
def laws_eqFormS_0N_M : FuncId → List Nat := tabM []
def laws_eqFormS_0N_lpsG {α : Type}  : List (LoopT α) := []
def laws_eqFormS_0N_lps {α : Type} : List (LoopT α) := laws_eqFormS_0N_lpsG
def laws_eqFormS_0N_XG {α : Type}   (n : Nat) : Ctx α := ⟨laws_eqFormS_0N_CG n, laws_eqFormS_0N_M, eqs, lpOf (laws_eqFormS_0N_lpsG) n⟩
def laws_eqFormS_0N_X {α : Type} (n : Nat) : Ctx α := laws_eqFormS_0N_XG n
def laws_eqFormS_0N_Lt (np : Nat) (lent : List (Bool × Nat × Blk)) : Prop := np = 2 ∧ lent = []
def laws_eqFormS_0N_body {α : Type}   (k : Nat) (b_ : List (Int × Int × Int)) (r0 : Bool → Option α) : Option α :=
  bif (!decide (0 = (((List.length b_) : Nat) : Int))) then
    r0 false
  else
    r0 true
theorem laws_eqFormS_0N_gen {α : Type}   (n : Nat) (b_ : List (Int × Int × Int)) (κ : Res → Option α) : evFn Try.prog (laws_eqFormS_0N_XG n) Try.f36 (((buildDs laws_eqFormS_0N_sh [.rows .tr b_]).map Prod.fst).getD []) κ = laws_eqFormS_0N_body n b_ (fun v1 => κ ⟨[.bool v1], []⟩) := by kernel_rfl
theorem laws_eqFormS_0N_ev {α : Type} (n : Nat) (b_ : List (Int × Int × Int)) (κ : Res → Option α) : evFn Try.prog (laws_eqFormS_0N_X n) Try.f36 (((buildDs laws_eqFormS_0N_sh [.rows .tr b_]).map Prod.fst).getD []) κ = laws_eqFormS_0N_run n [.rows .tr b_] κ := (laws_eqFormS_0N_gen n b_ κ).trans (by kernel_rfl)
theorem laws_eqFormS_0N_en (b_ : List (Int × Int × Int)) : (entry 0 (((buildDs laws_eqFormS_0N_sh [.rows .tr b_]).map Prod.fst).getD [])).map (fun x => (x.1.length, x.2.lent)) = some (2, []) := by kernel_rfl
theorem laws_eqFormS_0N_good {α : Type} : ∀ n, GoodFn (α := α) Try.prog 36 (byShape laws_eqFormS_0N_sh (laws_eqFormS_0N_run n)) := by
  refine fn_good' Try.func36 (c := (Try.f36.body.getD .skip)) (by kernel_rfl) (by kernel_rfl) (by kernel_rfl) laws_eqFormS_0N_C laws_eqFormS_0N_M eqs laws_eqFormS_0N_lps (fun n => tabC_good (fun _ h => absurd h List.not_mem_nil)) eqs_ok laws_eqFormS_0N_Lt ?_ ?_ laws_eqFormS_0N_sh laws_eqFormS_0N_run ?_
  · exact (fun _ h => absurd h List.not_mem_nil)
  · exact (fun _ h => absurd h List.not_mem_nil)
  · intro n p κ r ds hd hr
    have hr0 := hr
    unfold laws_eqFormS_0N_run laws_eqFormS_0N_runG at hr
    split at hr
    · rw [← ds_of hd]
      exact ⟨en_of (laws_eqFormS_0N_en _) ⟨rfl, rfl⟩, (laws_eqFormS_0N_ev n _ κ).trans hr0⟩
    · cases hr

/-! loop.example/g01297/laws.eqForm -/
def laws_eqForm_sh : List SkD := [.agg [.int .i64, .int .i64, .int .i64], .agg [.int .i64, .int .i64, .int .i64]]
def laws_eqForm_runG {α : Type} (F : Nat → Int → Int → Int → Int → Int → Int → (Bool → Option α) → Option α) (n : Nat) (p : List P1) (κ : Res → Option α) : Option α := match p with
  | [.int a, .int a1, .int a2, .int b_, .int b_1, .int b_2] => F n a a1 a2 b_ b_1 b_2 (fun v1 => κ ⟨[.bool v1], []⟩)
  | _ => none
def laws_eqForm_run {α : Type} (n : Nat) (p : List P1) (κ : Res → Option α) : Option α := laws_eqForm_runG laws_eqForm n p κ
def laws_eqForm_CG {α : Type}  (n : Nat) : FuncId → List D → (Res → Option α) → Option α := tabC []
def laws_eqForm_C {α : Type} (n : Nat) : FuncId → List D → (Res → Option α) → Option α := laws_eqForm_CG n
def laws_eqForm_M : FuncId → List Nat := tabM []
def laws_eqForm_lpsG {α : Type}  : List (LoopT α) := []
def laws_eqForm_lps {α : Type} : List (LoopT α) := laws_eqForm_lpsG
def laws_eqForm_XG {α : Type}   (n : Nat) : Ctx α := ⟨laws_eqForm_CG n, laws_eqForm_M, eqs, lpOf (laws_eqForm_lpsG) n⟩
def laws_eqForm_X {α : Type} (n : Nat) : Ctx α := laws_eqForm_XG n
def laws_eqForm_Lt (np : Nat) (lent : List (Bool × Nat × Blk)) : Prop := np = 2 ∧ lent = []
def laws_eqForm_body {α : Type}   (k : Nat) (a : Int) (a1 : Int) (a2 : Int) (b_ : Int) (b_1 : Int) (b_2 : Int) (r0 : Bool → Option α) : Option α :=
  bif (!decide (a = b_)) then
    r0 false
  else
  bif (!decide (a1 = b_1)) then
    r0 false
  else
  bif (!decide (a2 = b_2)) then
    r0 false
  else
    r0 true
theorem laws_eqForm_gen {α : Type}   (n : Nat) (a : Int) (a1 : Int) (a2 : Int) (b_ : Int) (b_1 : Int) (b_2 : Int) (κ : Res → Option α) : evFn Try.prog (laws_eqForm_XG n) Try.f81 (((buildDs laws_eqForm_sh [.int a, .int a1, .int a2, .int b_, .int b_1, .int b_2]).map Prod.fst).getD []) κ = laws_eqForm_body n a a1 a2 b_ b_1 b_2 (fun v1 => κ ⟨[.bool v1], []⟩) := by kernel_rfl
theorem laws_eqForm_ev {α : Type} (n : Nat) (a : Int) (a1 : Int) (a2 : Int) (b_ : Int) (b_1 : Int) (b_2 : Int) (κ : Res → Option α) : evFn Try.prog (laws_eqForm_X n) Try.f81 (((buildDs laws_eqForm_sh [.int a, .int a1, .int a2, .int b_, .int b_1, .int b_2]).map Prod.fst).getD []) κ = laws_eqForm_run n [.int a, .int a1, .int a2, .int b_, .int b_1, .int b_2] κ := (laws_eqForm_gen n a a1 a2 b_ b_1 b_2 κ).trans (by kernel_rfl)
theorem laws_eqForm_en (a : Int) (a1 : Int) (a2 : Int) (b_ : Int) (b_1 : Int) (b_2 : Int) : (entry 0 (((buildDs laws_eqForm_sh [.int a, .int a1, .int a2, .int b_, .int b_1, .int b_2]).map Prod.fst).getD [])).map (fun x => (x.1.length, x.2.lent)) = some (2, []) := by kernel_rfl
theorem laws_eqForm_good {α : Type} : ∀ n, GoodFn (α := α) Try.prog 81 (byShape laws_eqForm_sh (laws_eqForm_run n)) := by
  refine fn_good' Try.func81 (c := (Try.f81.body.getD .skip)) (by kernel_rfl) (by kernel_rfl) (by kernel_rfl) laws_eqForm_C laws_eqForm_M eqs laws_eqForm_lps (fun n => tabC_good (fun _ h => absurd h List.not_mem_nil)) eqs_ok laws_eqForm_Lt ?_ ?_ laws_eqForm_sh laws_eqForm_run ?_
  · exact (fun _ h => absurd h List.not_mem_nil)
  · exact (fun _ h => absurd h List.not_mem_nil)
  · intro n p κ r ds hd hr
    have hr0 := hr
    unfold laws_eqForm_run laws_eqForm_runG at hr
    split at hr
    · rw [← ds_of hd]
      exact ⟨en_of (laws_eqForm_en _ _ _ _ _ _) ⟨rfl, rfl⟩, (laws_eqForm_ev n _ _ _ _ _ _ κ).trans hr0⟩
    · cases hr

end Go.Proofs.Ytnfpidnnmgedfaa
