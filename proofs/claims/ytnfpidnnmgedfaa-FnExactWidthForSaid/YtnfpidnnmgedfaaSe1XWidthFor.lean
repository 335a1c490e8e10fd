/- The program's functions hold to their readings without memory: printed by a program of ours. -/
import Derived.Test.YtnfpidnnmgedfaaSeXWidthFor
namespace Go.Proofs.Ytnfpidnnmgedfaa
open Go Go.Ev Go.Sh Go.Proofs

/-! loop.example/g01297/laws.szPointS -/
def laws_szPointS_sh : List SkD := [.sl 29 .pt, .int .i64]
def laws_szPointS_runG {α : Type} (F : Nat → (List (Int × Int)) → Int → (Int → Option α) → Option α) (n : Nat) (p : List P1) (κ : Res → Option α) : Option α := match p with
  | [.rows .pt a, .int left] => F n a left (fun v1 => κ ⟨[.int .i64 v1], []⟩)
  | _ => none
def laws_szPointS_run {α : Type} (n : Nat) (p : List P1) (κ : Res → Option α) : Option α := laws_szPointS_runG laws_szPointS n p κ
def laws_szPointS_CG {α : Type}  (n : Nat) : FuncId → List D → (Res → Option α) → Option α := tabC []
def laws_szPointS_C {α : Type} (n : Nat) : FuncId → List D → (Res → Option α) → Option α := laws_szPointS_CG n
def laws_szPointS_M : FuncId → List Nat := tabM []
def laws_szPointS_lpsG {α : Type}  : List (LoopT α) := []
def laws_szPointS_lps {α : Type} : List (LoopT α) := laws_szPointS_lpsG
def laws_szPointS_XG {α : Type}   (n : Nat) : Ctx α := ⟨laws_szPointS_CG n, laws_szPointS_M, eqs, lpOf (laws_szPointS_lpsG) n⟩
def laws_szPointS_X {α : Type} (n : Nat) : Ctx α := laws_szPointS_XG n
def laws_szPointS_Lt (np : Nat) (lent : List (Bool × Nat × Blk)) : Prop := np = 2 ∧ lent = []
def laws_szPointS_body {α : Type}   (k : Nat) (a : List (Int × Int)) (left : Int) (r0 : Int → Option α) : Option α :=
  bif decide ((w64 (left - (((List.length a) : Nat) : Int))) < 0) then
    r0 (-1)
  else
    r0 (w64 (left - (((List.length a) : Nat) : Int)))
theorem laws_szPointS_gen {α : Type}   (n : Nat) (a : List (Int × Int)) (left : Int) (κ : Res → Option α) : evFn Try.prog (laws_szPointS_XG n) Try.f24 (((buildDs laws_szPointS_sh [.rows .pt a, .int left]).map Prod.fst).getD []) κ = laws_szPointS_body n a left (fun v1 => κ ⟨[.int .i64 v1], []⟩) := by kernel_rfl
theorem laws_szPointS_ev {α : Type} (n : Nat) (a : List (Int × Int)) (left : Int) (κ : Res → Option α) : evFn Try.prog (laws_szPointS_X n) Try.f24 (((buildDs laws_szPointS_sh [.rows .pt a, .int left]).map Prod.fst).getD []) κ = laws_szPointS_run n [.rows .pt a, .int left] κ := (laws_szPointS_gen n a left κ).trans (by kernel_rfl)
theorem laws_szPointS_en (a : List (Int × Int)) (left : Int) : (entry 0 (((buildDs laws_szPointS_sh [.rows .pt a, .int left]).map Prod.fst).getD [])).map (fun x => (x.1.length, x.2.lent)) = some (2, []) := by kernel_rfl
theorem laws_szPointS_good {α : Type} : ∀ n, GoodFn (α := α) Try.prog 24 (byShape laws_szPointS_sh (laws_szPointS_run n)) := by
  refine fn_good' Try.func24 (c := (Try.f24.body.getD .skip)) (by kernel_rfl) (by kernel_rfl) (by kernel_rfl) laws_szPointS_C laws_szPointS_M eqs laws_szPointS_lps (fun n => tabC_good (fun _ h => absurd h List.not_mem_nil)) eqs_ok laws_szPointS_Lt ?_ ?_ laws_szPointS_sh laws_szPointS_run ?_
  · exact (fun _ h => absurd h List.not_mem_nil)
  · exact (fun _ h => absurd h List.not_mem_nil)
  · intro n p κ r ds hd hr
    have hr0 := hr
    unfold laws_szPointS_run laws_szPointS_runG at hr
    split at hr
    · rw [← ds_of hd]
      exact ⟨en_of (laws_szPointS_en _ _) ⟨rfl, rfl⟩, (laws_szPointS_ev n _ _ κ).trans hr0⟩
    · cases hr

/-! loop.example/g01297/laws.toPoint -/
def laws_toPoint_sh : List SkD := [.agg [.int .i64, .int .i64]]
def laws_toPoint_runG {α : Type} (F : Nat → Int → Int → (Int → Int → Option α) → Option α) (n : Nat) (p : List P1) (κ : Res → Option α) : Option α := match p with
  | [.int a, .int a1] => F n a a1 (fun v1 v2 => κ ⟨[.agg [.int .i64 v1, .int .i64 v2]], []⟩)
  | _ => none
def laws_toPoint_run {α : Type} (n : Nat) (p : List P1) (κ : Res → Option α) : Option α := laws_toPoint_runG laws_toPoint n p κ
def laws_toPoint_CG {α : Type}  (n : Nat) : FuncId → List D → (Res → Option α) → Option α := tabC []
def laws_toPoint_C {α : Type} (n : Nat) : FuncId → List D → (Res → Option α) → Option α := laws_toPoint_CG n
def laws_toPoint_M : FuncId → List Nat := tabM []
def laws_toPoint_lpsG {α : Type}  : List (LoopT α) := []
def laws_toPoint_lps {α : Type} : List (LoopT α) := laws_toPoint_lpsG
def laws_toPoint_XG {α : Type}   (n : Nat) : Ctx α := ⟨laws_toPoint_CG n, laws_toPoint_M, eqs, lpOf (laws_toPoint_lpsG) n⟩
def laws_toPoint_X {α : Type} (n : Nat) : Ctx α := laws_toPoint_XG n
def laws_toPoint_Lt (np : Nat) (lent : List (Bool × Nat × Blk)) : Prop := np = 1 ∧ lent = []
def laws_toPoint_body {α : Type}   (k : Nat) (a : Int) (a1 : Int) (r0 : Int → Int → Option α) : Option α :=
  r0 a a1
theorem laws_toPoint_gen {α : Type}   (n : Nat) (a : Int) (a1 : Int) (κ : Res → Option α) : evFn Try.prog (laws_toPoint_XG n) Try.f19 (((buildDs laws_toPoint_sh [.int a, .int a1]).map Prod.fst).getD []) κ = laws_toPoint_body n a a1 (fun v1 v2 => κ ⟨[.agg [.int .i64 v1, .int .i64 v2]], []⟩) := by kernel_rfl
theorem laws_toPoint_ev {α : Type} (n : Nat) (a : Int) (a1 : Int) (κ : Res → Option α) : evFn Try.prog (laws_toPoint_X n) Try.f19 (((buildDs laws_toPoint_sh [.int a, .int a1]).map Prod.fst).getD []) κ = laws_toPoint_run n [.int a, .int a1] κ := (laws_toPoint_gen n a a1 κ).trans (by kernel_rfl)
theorem laws_toPoint_en (a : Int) (a1 : Int) : (entry 0 (((buildDs laws_toPoint_sh [.int a, .int a1]).map Prod.fst).getD [])).map (fun x => (x.1.length, x.2.lent)) = some (1, []) := by kernel_rfl
theorem laws_toPoint_good {α : Type} : ∀ n, GoodFn (α := α) Try.prog 19 (byShape laws_toPoint_sh (laws_toPoint_run n)) := by
  refine fn_good' Try.func19 (c := (Try.f19.body.getD .skip)) (by kernel_rfl) (by kernel_rfl) (by kernel_rfl) laws_toPoint_C laws_toPoint_M eqs laws_toPoint_lps (fun n => tabC_good (fun _ h => absurd h List.not_mem_nil)) eqs_ok laws_toPoint_Lt ?_ ?_ laws_toPoint_sh laws_toPoint_run ?_
  · exact (fun _ h => absurd h List.not_mem_nil)
  · exact (fun _ h => absurd h List.not_mem_nil)
  · intro n p κ r ds hd hr
    have hr0 := hr
    unfold laws_toPoint_run laws_toPoint_runG at hr
    split at hr
    · rw [← ds_of hd]
      exact ⟨en_of (laws_toPoint_en _ _) ⟨rfl, rfl⟩, (laws_toPoint_ev n _ _ κ).trans hr0⟩
    · cases hr

/-! loop.example/g01297/laws.toPointS -/
def laws_toPointS_sh : List SkD := [.sl 29 .pt]
def laws_toPointS_runG {α : Type} (F : Nat → (List (Int × Int)) → ((List (Int × Int)) → Option α) → Option α) (n : Nat) (p : List P1) (κ : Res → Option α) : Option α := match p with
  | [.rows .pt a] => F n a (fun v1 => κ ⟨[.sl 33 .pt v1], []⟩)
  | _ => none
def laws_toPointS_run {α : Type} (n : Nat) (p : List P1) (κ : Res → Option α) : Option α := laws_toPointS_runG laws_toPointS n p κ
def laws_toPointS_CG {α : Type} (F0 : Nat → Int → Int → (Int → Int → Option α) → Option α) (n : Nat) : FuncId → List D → (Res → Option α) → Option α := tabC [(19, (byShape laws_toPoint_sh (laws_toPoint_runG F0 n)))]
def laws_toPointS_C {α : Type} (n : Nat) : FuncId → List D → (Res → Option α) → Option α := laws_toPointS_CG laws_toPoint n
def laws_toPointS_M : FuncId → List Nat := tabM []
def laws_toPointS_t3 : Tpl := ⟨[.sl 0, .any, .any, .sl 448, .int .i64, .any, .any, .any, .any, .any, .any, .any, .any, .any, .any, .any, .any, .any, .any, .any, .any, .any, .any], [(0, .rows 0 29 .pt), (448, .rows 2 33 .pt)], []⟩
def laws_toPointS_uG3 {α : Type} (G : Nat → Int → (List (Int × Int)) → (List (Int × Int)) → (Int → (List (Int × Int)) → (List (Int × Int)) → Option α) → ((List (Int × Int)) → Option α) → Option α) (n : Nat) (p : List P1) (brk : Nat → List P1 → Option α) (ret : Res → Option α) : Option α := match p with
  | [.int i, .rows .pt a1, .rows .pt out] => G n i a1 out (fun i a1 out => brk 0 [.int i, .rows .pt a1, .rows .pt out]) (fun v1 => ret ⟨[.sl 33 .pt v1], []⟩)
  | _ => none
def laws_toPointS_u3 {α : Type} (n : Nat) (p : List P1) (brk : Nat → List P1 → Option α) (ret : Res → Option α) : Option α := laws_toPointS_uG3 laws_toPointS_l3 n p brk ret
def laws_toPointS_lpsG {α : Type} (G3 : Nat → Int → (List (Int × Int)) → (List (Int × Int)) → (Int → (List (Int × Int)) → (List (Int × Int)) → Option α) → ((List (Int × Int)) → Option α) → Option α) : List (LoopT α) := [⟨3, laws_toPointS_t3, laws_toPointS_uG3 G3⟩]
def laws_toPointS_lps {α : Type} : List (LoopT α) := laws_toPointS_lpsG laws_toPointS_l3
def laws_toPointS_XG {α : Type} (F0 : Nat → Int → Int → (Int → Int → Option α) → Option α) (G3 : Nat → Int → (List (Int × Int)) → (List (Int × Int)) → (Int → (List (Int × Int)) → (List (Int × Int)) → Option α) → ((List (Int × Int)) → Option α) → Option α) (n : Nat) : Ctx α := ⟨laws_toPointS_CG F0 n, laws_toPointS_M, eqs, lpOf (laws_toPointS_lpsG G3) n⟩
def laws_toPointS_X {α : Type} (n : Nat) : Ctx α := laws_toPointS_XG laws_toPoint laws_toPointS_l3 n
def laws_toPointS_Lt (np : Nat) (lent : List (Bool × Nat × Blk)) : Prop := np = 1 ∧ lent = []
def laws_toPointS_lb3 {α : Type} (F0 : Nat → Int → Int → (Int → Int → Option α) → Option α) (G3 : Nat → Int → (List (Int × Int)) → (List (Int × Int)) → (Int → (List (Int × Int)) → (List (Int × Int)) → Option α) → ((List (Int × Int)) → Option α) → Option α) (k : Nat) (i : Int) (a1 : List (Int × Int)) (out : List (Int × Int)) (b0 : Int → (List (Int × Int)) → (List (Int × Int)) → Option α) (r0 : (List (Int × Int)) → Option α) : Option α :=
  bif decide (i < (((List.length a1) : Nat) : Int)) then
    bif (decide (0 ≤ i) && decide (i < (((List.length a1) : Nat) : Int))) then
      (a1[i.toNat]?).bind fun e_ =>
      F0 k e_.1 e_.2 fun v v1 =>
      bif (decide (0 ≤ i) && decide (i < (((List.length out) : Nat) : Int))) then
        (out[i.toNat]?).bind fun e_1 =>
        G3 k (w64 (i + 1)) a1 (List.set out i.toNat (v, v1)) b0 r0
      else
        none
    else
      none
  else
    b0 i a1 out
theorem laws_toPointS_l3_gen {α : Type} (F0 : Nat → Int → Int → (Int → Int → Option α) → Option α) (G3 : Nat → Int → (List (Int × Int)) → (List (Int × Int)) → (Int → (List (Int × Int)) → (List (Int × Int)) → Option α) → ((List (Int × Int)) → Option α) → Option α) (n : Nat) (i : Int) (a1 : List (Int × Int)) (out : List (Int × Int)) (brk : Nat → List P1 → Option α) (ret : Res → Option α) : ev ((laws_toPointS_XG F0 G3 n).env Try.prog Try.f26 1 []) (findLoop (loopsIn (Try.f26.body.getD .skip)) 3) ((laws_toPointS_t3.build [.int i, .rows .pt a1, .rows .pt out]).getD ⟨[], []⟩) (roundK (1 * 64) laws_toPointS_t3 (fun q => laws_toPointS_uG3 G3 n q brk ret) brk ret) = laws_toPointS_lb3 F0 G3 n i a1 out (fun i a1 out => brk 0 [.int i, .rows .pt a1, .rows .pt out]) (fun v1 => ret ⟨[.sl 33 .pt v1], []⟩) := by kernel_rfl
theorem laws_toPointS_l3_ev {α : Type} (n : Nat) (i : Int) (a1 : List (Int × Int)) (out : List (Int × Int)) (brk : Nat → List P1 → Option α) (ret : Res → Option α) : ev ((laws_toPointS_X n).env Try.prog Try.f26 1 []) (findLoop (loopsIn (Try.f26.body.getD .skip)) 3) ((laws_toPointS_t3.build [.int i, .rows .pt a1, .rows .pt out]).getD ⟨[], []⟩) (roundK (1 * 64) laws_toPointS_t3 (fun q => laws_toPointS_u3 n q brk ret) brk ret) = laws_toPointS_u3 (n + 1) [.int i, .rows .pt a1, .rows .pt out] brk ret := (laws_toPointS_l3_gen laws_toPoint laws_toPointS_l3 n i a1 out brk ret).trans (by kernel_rfl)
def laws_toPointS_body {α : Type} (F0 : Nat → Int → Int → (Int → Int → Option α) → Option α) (G3 : Nat → Int → (List (Int × Int)) → (List (Int × Int)) → (Int → (List (Int × Int)) → (List (Int × Int)) → Option α) → ((List (Int × Int)) → Option α) → Option α) (k : Nat) (a : List (Int × Int)) (r0 : (List (Int × Int)) → Option α) : Option α :=
  bif (decide (0 ≤ (((List.length a) : Nat) : Int)) && decide ((((List.length a) : Nat) : Int) ≤ (big : Int))) then
    G3 k 0 a (List.replicate (((List.length a) : Nat) : Int).toNat (0, 0))
      (fun i1 a2 out1 =>
        r0 out1)
      r0
  else
    none
theorem laws_toPointS_gen {α : Type} (F0 : Nat → Int → Int → (Int → Int → Option α) → Option α) (G3 : Nat → Int → (List (Int × Int)) → (List (Int × Int)) → (Int → (List (Int × Int)) → (List (Int × Int)) → Option α) → ((List (Int × Int)) → Option α) → Option α) (n : Nat) (a : List (Int × Int)) (κ : Res → Option α) : evFn Try.prog (laws_toPointS_XG F0 G3 n) Try.f26 (((buildDs laws_toPointS_sh [.rows .pt a]).map Prod.fst).getD []) κ = laws_toPointS_body F0 G3 n a (fun v1 => κ ⟨[.sl 33 .pt v1], []⟩) := by kernel_rfl
theorem laws_toPointS_ev {α : Type} (n : Nat) (a : List (Int × Int)) (κ : Res → Option α) : evFn Try.prog (laws_toPointS_X n) Try.f26 (((buildDs laws_toPointS_sh [.rows .pt a]).map Prod.fst).getD []) κ = laws_toPointS_run n [.rows .pt a] κ := (laws_toPointS_gen laws_toPoint laws_toPointS_l3 n a κ).trans (by kernel_rfl)
theorem laws_toPointS_en (a : List (Int × Int)) : (entry 0 (((buildDs laws_toPointS_sh [.rows .pt a]).map Prod.fst).getD [])).map (fun x => (x.1.length, x.2.lent)) = some (1, []) := by kernel_rfl
theorem laws_toPointS_good {α : Type} : ∀ n, GoodFn (α := α) Try.prog 26 (byShape laws_toPointS_sh (laws_toPointS_run n)) := by
  refine fn_good' Try.func26 (c := (Try.f26.body.getD .skip)) (by kernel_rfl) (by kernel_rfl) (by kernel_rfl) laws_toPointS_C laws_toPointS_M eqs laws_toPointS_lps (fun n => tabC_good (List.forall_mem_cons.2 ⟨(laws_toPoint_good n), (fun _ h => absurd h List.not_mem_nil)⟩)) eqs_ok laws_toPointS_Lt ?_ ?_ laws_toPointS_sh laws_toPointS_run ?_
  · refine List.forall_mem_cons.2 ⟨?_, (fun _ h => absurd h List.not_mem_nil)⟩
    · intro p brk ret; show laws_toPointS_u3 0 p brk ret = none; unfold laws_toPointS_u3 laws_toPointS_uG3; split <;> rfl
  · refine List.forall_mem_cons.2 ⟨?_, (fun _ h => absurd h List.not_mem_nil)⟩
    · intro np lent hL n p brk ret st r hb hr
      obtain ⟨rfl, rfl⟩ := hL
      rw [← tpl_of hb]
      change laws_toPointS_u3 (n + 1) p brk ret = some r at hr
      have hr0 := hr
      unfold laws_toPointS_u3 laws_toPointS_uG3 at hr
      split at hr
      · exact (laws_toPointS_l3_ev n _ _ _ brk ret).trans hr0
      · cases hr
  · intro n p κ r ds hd hr
    have hr0 := hr
    unfold laws_toPointS_run laws_toPointS_runG at hr
    split at hr
    · rw [← ds_of hd]
      exact ⟨en_of (laws_toPointS_en _) ⟨rfl, rfl⟩, (laws_toPointS_ev n _ κ).trans hr0⟩
    · cases hr

/-! loop.example/g01297/spec.l01In -/
def spec_l01In_sh : List SkD := [.int .i64, .int .i64, .int .i64]
def spec_l01In_runG {α : Type} (F : Nat → Int → Int → Int → (Bool → Option α) → Option α) (n : Nat) (p : List P1) (κ : Res → Option α) : Option α := match p with
  | [.int n_, .int low, .int high] => F n n_ low high (fun v1 => κ ⟨[.bool v1], []⟩)
  | _ => none
def spec_l01In_run {α : Type} (n : Nat) (p : List P1) (κ : Res → Option α) : Option α := spec_l01In_runG spec_l01In n p κ
def spec_l01In_CG {α : Type}  (n : Nat) : FuncId → List D → (Res → Option α) → Option α := tabC []
def spec_l01In_C {α : Type} (n : Nat) : FuncId → List D → (Res → Option α) → Option α := spec_l01In_CG n
def spec_l01In_M : FuncId → List Nat := tabM []
def spec_l01In_lpsG {α : Type}  : List (LoopT α) := []
def spec_l01In_lps {α : Type} : List (LoopT α) := spec_l01In_lpsG
def spec_l01In_XG {α : Type}   (n : Nat) : Ctx α := ⟨spec_l01In_CG n, spec_l01In_M, eqs, lpOf (spec_l01In_lpsG) n⟩
def spec_l01In_X {α : Type} (n : Nat) : Ctx α := spec_l01In_XG n
def spec_l01In_Lt (np : Nat) (lent : List (Bool × Nat × Blk)) : Prop := np = 3 ∧ lent = []
def spec_l01In_body {α : Type}   (k : Nat) (n_ : Int) (low : Int) (high : Int) (r0 : Bool → Option α) : Option α :=
  bif decide (low ≤ n_) then
    r0 (decide (n_ ≤ high))
  else
    r0 false
theorem spec_l01In_gen {α : Type}   (n : Nat) (n_ : Int) (low : Int) (high : Int) (κ : Res → Option α) : evFn Try.prog (spec_l01In_XG n) Try.f73 (((buildDs spec_l01In_sh [.int n_, .int low, .int high]).map Prod.fst).getD []) κ = spec_l01In_body n n_ low high (fun v1 => κ ⟨[.bool v1], []⟩) := by kernel_rfl
theorem spec_l01In_ev {α : Type} (n : Nat) (n_ : Int) (low : Int) (high : Int) (κ : Res → Option α) : evFn Try.prog (spec_l01In_X n) Try.f73 (((buildDs spec_l01In_sh [.int n_, .int low, .int high]).map Prod.fst).getD []) κ = spec_l01In_run n [.int n_, .int low, .int high] κ := (spec_l01In_gen n n_ low high κ).trans (by kernel_rfl)
theorem spec_l01In_en (n_ : Int) (low : Int) (high : Int) : (entry 0 (((buildDs spec_l01In_sh [.int n_, .int low, .int high]).map Prod.fst).getD [])).map (fun x => (x.1.length, x.2.lent)) = some (3, []) := by kernel_rfl
theorem spec_l01In_good {α : Type} : ∀ n, GoodFn (α := α) Try.prog 73 (byShape spec_l01In_sh (spec_l01In_run n)) := by
  refine fn_good' Try.func73 (c := (Try.f73.body.getD .skip)) (by kernel_rfl) (by kernel_rfl) (by kernel_rfl) spec_l01In_C spec_l01In_M eqs spec_l01In_lps (fun n => tabC_good (fun _ h => absurd h List.not_mem_nil)) eqs_ok spec_l01In_Lt ?_ ?_ spec_l01In_sh spec_l01In_run ?_
  · exact (fun _ h => absurd h List.not_mem_nil)
  · exact (fun _ h => absurd h List.not_mem_nil)
  · intro n p κ r ds hd hr
    have hr0 := hr
    unfold spec_l01In_run spec_l01In_runG at hr
    split at hr
    · rw [← ds_of hd]
      exact ⟨en_of (spec_l01In_en _ _ _) ⟨rfl, rfl⟩, (spec_l01In_ev n _ _ _ κ).trans hr0⟩
    · cases hr

/-! loop.example/g01297/spec.l01Fits -/
def spec_l01Fits_sh : List SkD := [.int .i64]
def spec_l01Fits_runG {α : Type} (F : Nat → Int → (Bool → Option α) → Option α) (n : Nat) (p : List P1) (κ : Res → Option α) : Option α := match p with
  | [.int x] => F n x (fun v1 => κ ⟨[.bool v1], []⟩)
  | _ => none
def spec_l01Fits_run {α : Type} (n : Nat) (p : List P1) (κ : Res → Option α) : Option α := spec_l01Fits_runG spec_l01Fits n p κ
def spec_l01Fits_CG {α : Type} (F0 : Nat → Int → Int → Int → (Bool → Option α) → Option α) (n : Nat) : FuncId → List D → (Res → Option α) → Option α := tabC [(73, (byShape spec_l01In_sh (spec_l01In_runG F0 n)))]
def spec_l01Fits_C {α : Type} (n : Nat) : FuncId → List D → (Res → Option α) → Option α := spec_l01Fits_CG spec_l01In n
def spec_l01Fits_M : FuncId → List Nat := tabM []
def spec_l01Fits_lpsG {α : Type}  : List (LoopT α) := []
def spec_l01Fits_lps {α : Type} : List (LoopT α) := spec_l01Fits_lpsG
def spec_l01Fits_XG {α : Type} (F0 : Nat → Int → Int → Int → (Bool → Option α) → Option α)  (n : Nat) : Ctx α := ⟨spec_l01Fits_CG F0 n, spec_l01Fits_M, eqs, lpOf (spec_l01Fits_lpsG) n⟩
def spec_l01Fits_X {α : Type} (n : Nat) : Ctx α := spec_l01Fits_XG spec_l01In n
def spec_l01Fits_Lt (np : Nat) (lent : List (Bool × Nat × Blk)) : Prop := np = 1 ∧ lent = []
def spec_l01Fits_body {α : Type} (F0 : Nat → Int → Int → Int → (Bool → Option α) → Option α)  (k : Nat) (x : Int) (r0 : Bool → Option α) : Option α :=
  F0 k x (-1000000) 1000000 fun v =>
  r0 v
theorem spec_l01Fits_gen {α : Type} (F0 : Nat → Int → Int → Int → (Bool → Option α) → Option α)  (n : Nat) (x : Int) (κ : Res → Option α) : evFn Try.prog (spec_l01Fits_XG F0 n) Try.f100 (((buildDs spec_l01Fits_sh [.int x]).map Prod.fst).getD []) κ = spec_l01Fits_body F0 n x (fun v1 => κ ⟨[.bool v1], []⟩) := by kernel_rfl
theorem spec_l01Fits_ev {α : Type} (n : Nat) (x : Int) (κ : Res → Option α) : evFn Try.prog (spec_l01Fits_X n) Try.f100 (((buildDs spec_l01Fits_sh [.int x]).map Prod.fst).getD []) κ = spec_l01Fits_run n [.int x] κ := (spec_l01Fits_gen spec_l01In n x κ).trans (by kernel_rfl)
theorem spec_l01Fits_en (x : Int) : (entry 0 (((buildDs spec_l01Fits_sh [.int x]).map Prod.fst).getD [])).map (fun x => (x.1.length, x.2.lent)) = some (1, []) := by kernel_rfl
theorem spec_l01Fits_good {α : Type} : ∀ n, GoodFn (α := α) Try.prog 100 (byShape spec_l01Fits_sh (spec_l01Fits_run n)) := by
  refine fn_good' Try.func100 (c := (Try.f100.body.getD .skip)) (by kernel_rfl) (by kernel_rfl) (by kernel_rfl) spec_l01Fits_C spec_l01Fits_M eqs spec_l01Fits_lps (fun n => tabC_good (List.forall_mem_cons.2 ⟨(spec_l01In_good n), (fun _ h => absurd h List.not_mem_nil)⟩)) eqs_ok spec_l01Fits_Lt ?_ ?_ spec_l01Fits_sh spec_l01Fits_run ?_
  · exact (fun _ h => absurd h List.not_mem_nil)
  · exact (fun _ h => absurd h List.not_mem_nil)
  · intro n p κ r ds hd hr
    have hr0 := hr
    unfold spec_l01Fits_run spec_l01Fits_runG at hr
    split at hr
    · rw [← ds_of hd]
      exact ⟨en_of (spec_l01Fits_en _) ⟨rfl, rfl⟩, (spec_l01Fits_ev n _ κ).trans hr0⟩
    · cases hr

/-! loop.example/g01297/spec.l01Is -/
def spec_l01Is_sh : List SkD := [.agg [.int .i64, .int .i64]]
def spec_l01Is_runG {α : Type} (F : Nat → Int → Int → (Bool → Option α) → Option α) (n : Nat) (p : List P1) (κ : Res → Option α) : Option α := match p with
  | [.int a, .int a1] => F n a a1 (fun v1 => κ ⟨[.bool v1], []⟩)
  | _ => none
def spec_l01Is_run {α : Type} (n : Nat) (p : List P1) (κ : Res → Option α) : Option α := spec_l01Is_runG spec_l01Is n p κ
def spec_l01Is_CG {α : Type} (F0 : Nat → Int → (Bool → Option α) → Option α) (n : Nat) : FuncId → List D → (Res → Option α) → Option α := tabC [(100, (byShape spec_l01Fits_sh (spec_l01Fits_runG F0 n)))]
def spec_l01Is_C {α : Type} (n : Nat) : FuncId → List D → (Res → Option α) → Option α := spec_l01Is_CG spec_l01Fits n
def spec_l01Is_M : FuncId → List Nat := tabM []
def spec_l01Is_lpsG {α : Type}  : List (LoopT α) := []
def spec_l01Is_lps {α : Type} : List (LoopT α) := spec_l01Is_lpsG
def spec_l01Is_XG {α : Type} (F0 : Nat → Int → (Bool → Option α) → Option α)  (n : Nat) : Ctx α := ⟨spec_l01Is_CG F0 n, spec_l01Is_M, eqs, lpOf (spec_l01Is_lpsG) n⟩
def spec_l01Is_X {α : Type} (n : Nat) : Ctx α := spec_l01Is_XG spec_l01Fits n
def spec_l01Is_Lt (np : Nat) (lent : List (Bool × Nat × Blk)) : Prop := np = 1 ∧ lent = []
def spec_l01Is_body {α : Type} (F0 : Nat → Int → (Bool → Option α) → Option α)  (k : Nat) (a : Int) (a1 : Int) (r0 : Bool → Option α) : Option α :=
  F0 k a fun v =>
  bif v then
    F0 k a1 fun v1 =>
    r0 v1
  else
    r0 false
theorem spec_l01Is_gen {α : Type} (F0 : Nat → Int → (Bool → Option α) → Option α)  (n : Nat) (a : Int) (a1 : Int) (κ : Res → Option α) : evFn Try.prog (spec_l01Is_XG F0 n) Try.f85 (((buildDs spec_l01Is_sh [.int a, .int a1]).map Prod.fst).getD []) κ = spec_l01Is_body F0 n a a1 (fun v1 => κ ⟨[.bool v1], []⟩) := by kernel_rfl
theorem spec_l01Is_ev {α : Type} (n : Nat) (a : Int) (a1 : Int) (κ : Res → Option α) : evFn Try.prog (spec_l01Is_X n) Try.f85 (((buildDs spec_l01Is_sh [.int a, .int a1]).map Prod.fst).getD []) κ = spec_l01Is_run n [.int a, .int a1] κ := (spec_l01Is_gen spec_l01Fits n a a1 κ).trans (by kernel_rfl)
theorem spec_l01Is_en (a : Int) (a1 : Int) : (entry 0 (((buildDs spec_l01Is_sh [.int a, .int a1]).map Prod.fst).getD [])).map (fun x => (x.1.length, x.2.lent)) = some (1, []) := by kernel_rfl
theorem spec_l01Is_good {α : Type} : ∀ n, GoodFn (α := α) Try.prog 85 (byShape spec_l01Is_sh (spec_l01Is_run n)) := by
  refine fn_good' Try.func85 (c := (Try.f85.body.getD .skip)) (by kernel_rfl) (by kernel_rfl) (by kernel_rfl) spec_l01Is_C spec_l01Is_M eqs spec_l01Is_lps (fun n => tabC_good (List.forall_mem_cons.2 ⟨(spec_l01Fits_good n), (fun _ h => absurd h List.not_mem_nil)⟩)) eqs_ok spec_l01Is_Lt ?_ ?_ spec_l01Is_sh spec_l01Is_run ?_
  · exact (fun _ h => absurd h List.not_mem_nil)
  · exact (fun _ h => absurd h List.not_mem_nil)
  · intro n p κ r ds hd hr
    have hr0 := hr
    unfold spec_l01Is_run spec_l01Is_runG at hr
    split at hr
    · rw [← ds_of hd]
      exact ⟨en_of (spec_l01Is_en _ _) ⟨rfl, rfl⟩, (spec_l01Is_ev n _ _ κ).trans hr0⟩
    · cases hr

/-! loop.example/g01297/spec.l01Plus -/
def spec_l01Plus_sh : List SkD := [.agg [.int .i64, .int .i64], .agg [.int .i64, .int .i64], .int .i64]
def spec_l01Plus_runG {α : Type} (F : Nat → Int → Int → Int → Int → Int → (Int → Int → Option α) → Option α) (n : Nat) (p : List P1) (κ : Res → Option α) : Option α := match p with
  | [.int a, .int a1, .int b_, .int b_1, .int k_] => F n a a1 b_ b_1 k_ (fun v1 v2 => κ ⟨[.agg [.int .i64 v1, .int .i64 v2]], []⟩)
  | _ => none
def spec_l01Plus_run {α : Type} (n : Nat) (p : List P1) (κ : Res → Option α) : Option α := spec_l01Plus_runG spec_l01Plus n p κ
def spec_l01Plus_CG {α : Type}  (n : Nat) : FuncId → List D → (Res → Option α) → Option α := tabC []
def spec_l01Plus_C {α : Type} (n : Nat) : FuncId → List D → (Res → Option α) → Option α := spec_l01Plus_CG n
def spec_l01Plus_M : FuncId → List Nat := tabM []
def spec_l01Plus_lpsG {α : Type}  : List (LoopT α) := []
def spec_l01Plus_lps {α : Type} : List (LoopT α) := spec_l01Plus_lpsG
def spec_l01Plus_XG {α : Type}   (n : Nat) : Ctx α := ⟨spec_l01Plus_CG n, spec_l01Plus_M, eqs, lpOf (spec_l01Plus_lpsG) n⟩
def spec_l01Plus_X {α : Type} (n : Nat) : Ctx α := spec_l01Plus_XG n
def spec_l01Plus_Lt (np : Nat) (lent : List (Bool × Nat × Blk)) : Prop := np = 3 ∧ lent = []
def spec_l01Plus_body {α : Type}   (k : Nat) (a : Int) (a1 : Int) (b_ : Int) (b_1 : Int) (k_ : Int) (r0 : Int → Int → Option α) : Option α :=
  r0 (w64 (a + (w64 (k_ * b_)))) (w64 (a1 + (w64 (k_ * b_1))))
theorem spec_l01Plus_gen {α : Type}   (n : Nat) (a : Int) (a1 : Int) (b_ : Int) (b_1 : Int) (k_ : Int) (κ : Res → Option α) : evFn Try.prog (spec_l01Plus_XG n) Try.f112 (((buildDs spec_l01Plus_sh [.int a, .int a1, .int b_, .int b_1, .int k_]).map Prod.fst).getD []) κ = spec_l01Plus_body n a a1 b_ b_1 k_ (fun v1 v2 => κ ⟨[.agg [.int .i64 v1, .int .i64 v2]], []⟩) := by kernel_rfl
theorem spec_l01Plus_ev {α : Type} (n : Nat) (a : Int) (a1 : Int) (b_ : Int) (b_1 : Int) (k_ : Int) (κ : Res → Option α) : evFn Try.prog (spec_l01Plus_X n) Try.f112 (((buildDs spec_l01Plus_sh [.int a, .int a1, .int b_, .int b_1, .int k_]).map Prod.fst).getD []) κ = spec_l01Plus_run n [.int a, .int a1, .int b_, .int b_1, .int k_] κ := (spec_l01Plus_gen n a a1 b_ b_1 k_ κ).trans (by kernel_rfl)
theorem spec_l01Plus_en (a : Int) (a1 : Int) (b_ : Int) (b_1 : Int) (k_ : Int) : (entry 0 (((buildDs spec_l01Plus_sh [.int a, .int a1, .int b_, .int b_1, .int k_]).map Prod.fst).getD [])).map (fun x => (x.1.length, x.2.lent)) = some (3, []) := by kernel_rfl
theorem spec_l01Plus_good {α : Type} : ∀ n, GoodFn (α := α) Try.prog 112 (byShape spec_l01Plus_sh (spec_l01Plus_run n)) := by
  refine fn_good' Try.func112 (c := (Try.f112.body.getD .skip)) (by kernel_rfl) (by kernel_rfl) (by kernel_rfl) spec_l01Plus_C spec_l01Plus_M eqs spec_l01Plus_lps (fun n => tabC_good (fun _ h => absurd h List.not_mem_nil)) eqs_ok spec_l01Plus_Lt ?_ ?_ spec_l01Plus_sh spec_l01Plus_run ?_
  · exact (fun _ h => absurd h List.not_mem_nil)
  · exact (fun _ h => absurd h List.not_mem_nil)
  · intro n p κ r ds hd hr
    have hr0 := hr
    unfold spec_l01Plus_run spec_l01Plus_runG at hr
    split at hr
    · rw [← ds_of hd]
      exact ⟨en_of (spec_l01Plus_en _ _ _ _ _) ⟨rfl, rfl⟩, (spec_l01Plus_ev n _ _ _ _ _ κ).trans hr0⟩
    · cases hr

/-! loop.example/g01297/spec.l01Det -/
def spec_l01Det_sh : List SkD := [.agg [.int .i64, .int .i64], .agg [.int .i64, .int .i64]]
def spec_l01Det_runG {α : Type} (F : Nat → Int → Int → Int → Int → (Int → Option α) → Option α) (n : Nat) (p : List P1) (κ : Res → Option α) : Option α := match p with
  | [.int a, .int a1, .int b_, .int b_1] => F n a a1 b_ b_1 (fun v1 => κ ⟨[.int .i64 v1], []⟩)
  | _ => none
def spec_l01Det_run {α : Type} (n : Nat) (p : List P1) (κ : Res → Option α) : Option α := spec_l01Det_runG spec_l01Det n p κ
def spec_l01Det_CG {α : Type}  (n : Nat) : FuncId → List D → (Res → Option α) → Option α := tabC []
def spec_l01Det_C {α : Type} (n : Nat) : FuncId → List D → (Res → Option α) → Option α := spec_l01Det_CG n
def spec_l01Det_M : FuncId → List Nat := tabM []
def spec_l01Det_lpsG {α : Type}  : List (LoopT α) := []
def spec_l01Det_lps {α : Type} : List (LoopT α) := spec_l01Det_lpsG
def spec_l01Det_XG {α : Type}   (n : Nat) : Ctx α := ⟨spec_l01Det_CG n, spec_l01Det_M, eqs, lpOf (spec_l01Det_lpsG) n⟩
def spec_l01Det_X {α : Type} (n : Nat) : Ctx α := spec_l01Det_XG n
def spec_l01Det_Lt (np : Nat) (lent : List (Bool × Nat × Blk)) : Prop := np = 2 ∧ lent = []
def spec_l01Det_body {α : Type}   (k : Nat) (a : Int) (a1 : Int) (b_ : Int) (b_1 : Int) (r0 : Int → Option α) : Option α :=
  r0 (w64 ((w64 (a * b_1)) - (w64 (a1 * b_))))
theorem spec_l01Det_gen {α : Type}   (n : Nat) (a : Int) (a1 : Int) (b_ : Int) (b_1 : Int) (κ : Res → Option α) : evFn Try.prog (spec_l01Det_XG n) Try.f109 (((buildDs spec_l01Det_sh [.int a, .int a1, .int b_, .int b_1]).map Prod.fst).getD []) κ = spec_l01Det_body n a a1 b_ b_1 (fun v1 => κ ⟨[.int .i64 v1], []⟩) := by kernel_rfl
theorem spec_l01Det_ev {α : Type} (n : Nat) (a : Int) (a1 : Int) (b_ : Int) (b_1 : Int) (κ : Res → Option α) : evFn Try.prog (spec_l01Det_X n) Try.f109 (((buildDs spec_l01Det_sh [.int a, .int a1, .int b_, .int b_1]).map Prod.fst).getD []) κ = spec_l01Det_run n [.int a, .int a1, .int b_, .int b_1] κ := (spec_l01Det_gen n a a1 b_ b_1 κ).trans (by kernel_rfl)
theorem spec_l01Det_en (a : Int) (a1 : Int) (b_ : Int) (b_1 : Int) : (entry 0 (((buildDs spec_l01Det_sh [.int a, .int a1, .int b_, .int b_1]).map Prod.fst).getD [])).map (fun x => (x.1.length, x.2.lent)) = some (2, []) := by kernel_rfl
theorem spec_l01Det_good {α : Type} : ∀ n, GoodFn (α := α) Try.prog 109 (byShape spec_l01Det_sh (spec_l01Det_run n)) := by
  refine fn_good' Try.func109 (c := (Try.f109.body.getD .skip)) (by kernel_rfl) (by kernel_rfl) (by kernel_rfl) spec_l01Det_C spec_l01Det_M eqs spec_l01Det_lps (fun n => tabC_good (fun _ h => absurd h List.not_mem_nil)) eqs_ok spec_l01Det_Lt ?_ ?_ spec_l01Det_sh spec_l01Det_run ?_
  · exact (fun _ h => absurd h List.not_mem_nil)
  · exact (fun _ h => absurd h List.not_mem_nil)
  · intro n p κ r ds hd hr
    have hr0 := hr
    unfold spec_l01Det_run spec_l01Det_runG at hr
    split at hr
    · rw [← ds_of hd]
      exact ⟨en_of (spec_l01Det_en _ _ _ _) ⟨rfl, rfl⟩, (spec_l01Det_ev n _ _ _ _ κ).trans hr0⟩
    · cases hr

/-! loop.example/g01297/spec.l09Side -/
def spec_l09Side_sh : List SkD := [.agg [.int .i64, .int .i64], .agg [.int .i64, .int .i64], .agg [.int .i64, .int .i64]]
def spec_l09Side_runG {α : Type} (F : Nat → Int → Int → Int → Int → Int → Int → (Int → Option α) → Option α) (n : Nat) (p : List P1) (κ : Res → Option α) : Option α := match p with
  | [.int a, .int a1, .int b_, .int b_1, .int c, .int c1] => F n a a1 b_ b_1 c c1 (fun v1 => κ ⟨[.int .i64 v1], []⟩)
  | _ => none
def spec_l09Side_run {α : Type} (n : Nat) (p : List P1) (κ : Res → Option α) : Option α := spec_l09Side_runG spec_l09Side n p κ
def spec_l09Side_CG {α : Type} (F0 : Nat → Int → Int → Int → Int → Int → (Int → Int → Option α) → Option α) (F1 : Nat → Int → Int → Int → Int → (Int → Option α) → Option α) (n : Nat) : FuncId → List D → (Res → Option α) → Option α := tabC [(112, (byShape spec_l01Plus_sh (spec_l01Plus_runG F0 n))), (109, (byShape spec_l01Det_sh (spec_l01Det_runG F1 n)))]
def spec_l09Side_C {α : Type} (n : Nat) : FuncId → List D → (Res → Option α) → Option α := spec_l09Side_CG spec_l01Plus spec_l01Det n
def spec_l09Side_M : FuncId → List Nat := tabM []
def spec_l09Side_lpsG {α : Type}  : List (LoopT α) := []
def spec_l09Side_lps {α : Type} : List (LoopT α) := spec_l09Side_lpsG
def spec_l09Side_XG {α : Type} (F0 : Nat → Int → Int → Int → Int → Int → (Int → Int → Option α) → Option α) (F1 : Nat → Int → Int → Int → Int → (Int → Option α) → Option α)  (n : Nat) : Ctx α := ⟨spec_l09Side_CG F0 F1 n, spec_l09Side_M, eqs, lpOf (spec_l09Side_lpsG) n⟩
def spec_l09Side_X {α : Type} (n : Nat) : Ctx α := spec_l09Side_XG spec_l01Plus spec_l01Det n
def spec_l09Side_Lt (np : Nat) (lent : List (Bool × Nat × Blk)) : Prop := np = 3 ∧ lent = []
def spec_l09Side_body {α : Type} (F0 : Nat → Int → Int → Int → Int → Int → (Int → Int → Option α) → Option α) (F1 : Nat → Int → Int → Int → Int → (Int → Option α) → Option α)  (k : Nat) (a : Int) (a1 : Int) (b_ : Int) (b_1 : Int) (c : Int) (c1 : Int) (r0 : Int → Option α) : Option α :=
  F0 k b_ b_1 a a1 (-1) fun v v1 =>
  F0 k c c1 b_ b_1 (-1) fun v2 v3 =>
  F1 k v v1 v2 v3 fun v4 =>
  r0 v4
theorem spec_l09Side_gen {α : Type} (F0 : Nat → Int → Int → Int → Int → Int → (Int → Int → Option α) → Option α) (F1 : Nat → Int → Int → Int → Int → (Int → Option α) → Option α)  (n : Nat) (a : Int) (a1 : Int) (b_ : Int) (b_1 : Int) (c : Int) (c1 : Int) (κ : Res → Option α) : evFn Try.prog (spec_l09Side_XG F0 F1 n) Try.f135 (((buildDs spec_l09Side_sh [.int a, .int a1, .int b_, .int b_1, .int c, .int c1]).map Prod.fst).getD []) κ = spec_l09Side_body F0 F1 n a a1 b_ b_1 c c1 (fun v1 => κ ⟨[.int .i64 v1], []⟩) := by kernel_rfl
theorem spec_l09Side_ev {α : Type} (n : Nat) (a : Int) (a1 : Int) (b_ : Int) (b_1 : Int) (c : Int) (c1 : Int) (κ : Res → Option α) : evFn Try.prog (spec_l09Side_X n) Try.f135 (((buildDs spec_l09Side_sh [.int a, .int a1, .int b_, .int b_1, .int c, .int c1]).map Prod.fst).getD []) κ = spec_l09Side_run n [.int a, .int a1, .int b_, .int b_1, .int c, .int c1] κ := (spec_l09Side_gen spec_l01Plus spec_l01Det n a a1 b_ b_1 c c1 κ).trans (by kernel_rfl)
theorem spec_l09Side_en (a : Int) (a1 : Int) (b_ : Int) (b_1 : Int) (c : Int) (c1 : Int) : (entry 0 (((buildDs spec_l09Side_sh [.int a, .int a1, .int b_, .int b_1, .int c, .int c1]).map Prod.fst).getD [])).map (fun x => (x.1.length, x.2.lent)) = some (3, []) := by kernel_rfl
theorem spec_l09Side_good {α : Type} : ∀ n, GoodFn (α := α) Try.prog 135 (byShape spec_l09Side_sh (spec_l09Side_run n)) := by
  refine fn_good' Try.func135 (c := (Try.f135.body.getD .skip)) (by kernel_rfl) (by kernel_rfl) (by kernel_rfl) spec_l09Side_C spec_l09Side_M eqs spec_l09Side_lps (fun n => tabC_good (List.forall_mem_cons.2 ⟨(spec_l01Plus_good n), (List.forall_mem_cons.2 ⟨(spec_l01Det_good n), (fun _ h => absurd h List.not_mem_nil)⟩)⟩)) eqs_ok spec_l09Side_Lt ?_ ?_ spec_l09Side_sh spec_l09Side_run ?_
  · exact (fun _ h => absurd h List.not_mem_nil)
  · exact (fun _ h => absurd h List.not_mem_nil)
  · intro n p κ r ds hd hr
    have hr0 := hr
    unfold spec_l09Side_run spec_l09Side_runG at hr
    split at hr
    · rw [← ds_of hd]
      exact ⟨en_of (spec_l09Side_en _ _ _ _ _ _) ⟨rfl, rfl⟩, (spec_l09Side_ev n _ _ _ _ _ _ κ).trans hr0⟩
    · cases hr

/-! loop.example/g01297/spec.l09Half -/
def spec_l09Half_sh : List SkD := [.agg [.int .i64, .int .i64]]
def spec_l09Half_runG {α : Type} (F : Nat → Int → Int → (Int → Option α) → Option α) (n : Nat) (p : List P1) (κ : Res → Option α) : Option α := match p with
  | [.int a, .int a1] => F n a a1 (fun v1 => κ ⟨[.int .i64 v1], []⟩)
  | _ => none
def spec_l09Half_run {α : Type} (n : Nat) (p : List P1) (κ : Res → Option α) : Option α := spec_l09Half_runG spec_l09Half n p κ
def spec_l09Half_CG {α : Type}  (n : Nat) : FuncId → List D → (Res → Option α) → Option α := tabC []
def spec_l09Half_C {α : Type} (n : Nat) : FuncId → List D → (Res → Option α) → Option α := spec_l09Half_CG n
def spec_l09Half_M : FuncId → List Nat := tabM []
def spec_l09Half_lpsG {α : Type}  : List (LoopT α) := []
def spec_l09Half_lps {α : Type} : List (LoopT α) := spec_l09Half_lpsG
def spec_l09Half_XG {α : Type}   (n : Nat) : Ctx α := ⟨spec_l09Half_CG n, spec_l09Half_M, eqs, lpOf (spec_l09Half_lpsG) n⟩
def spec_l09Half_X {α : Type} (n : Nat) : Ctx α := spec_l09Half_XG n
def spec_l09Half_Lt (np : Nat) (lent : List (Bool × Nat × Blk)) : Prop := np = 1 ∧ lent = []
def spec_l09Half_body {α : Type}   (k : Nat) (a : Int) (a1 : Int) (r0 : Int → Option α) : Option α :=
  bif decide (0 < a1) then
    r0 0
  else
  bif decide (a1 = 0) then
    bif decide (0 < a) then
      r0 0
    else
      r0 1
  else
    r0 1
theorem spec_l09Half_gen {α : Type}   (n : Nat) (a : Int) (a1 : Int) (κ : Res → Option α) : evFn Try.prog (spec_l09Half_XG n) Try.f136 (((buildDs spec_l09Half_sh [.int a, .int a1]).map Prod.fst).getD []) κ = spec_l09Half_body n a a1 (fun v1 => κ ⟨[.int .i64 v1], []⟩) := by kernel_rfl
theorem spec_l09Half_ev {α : Type} (n : Nat) (a : Int) (a1 : Int) (κ : Res → Option α) : evFn Try.prog (spec_l09Half_X n) Try.f136 (((buildDs spec_l09Half_sh [.int a, .int a1]).map Prod.fst).getD []) κ = spec_l09Half_run n [.int a, .int a1] κ := (spec_l09Half_gen n a a1 κ).trans (by kernel_rfl)
theorem spec_l09Half_en (a : Int) (a1 : Int) : (entry 0 (((buildDs spec_l09Half_sh [.int a, .int a1]).map Prod.fst).getD [])).map (fun x => (x.1.length, x.2.lent)) = some (1, []) := by kernel_rfl
theorem spec_l09Half_good {α : Type} : ∀ n, GoodFn (α := α) Try.prog 136 (byShape spec_l09Half_sh (spec_l09Half_run n)) := by
  refine fn_good' Try.func136 (c := (Try.f136.body.getD .skip)) (by kernel_rfl) (by kernel_rfl) (by kernel_rfl) spec_l09Half_C spec_l09Half_M eqs spec_l09Half_lps (fun n => tabC_good (fun _ h => absurd h List.not_mem_nil)) eqs_ok spec_l09Half_Lt ?_ ?_ spec_l09Half_sh spec_l09Half_run ?_
  · exact (fun _ h => absurd h List.not_mem_nil)
  · exact (fun _ h => absurd h List.not_mem_nil)
  · intro n p κ r ds hd hr
    have hr0 := hr
    unfold spec_l09Half_run spec_l09Half_runG at hr
    split at hr
    · rw [← ds_of hd]
      exact ⟨en_of (spec_l09Half_en _ _) ⟨rfl, rfl⟩, (spec_l09Half_ev n _ _ κ).trans hr0⟩
    · cases hr

/-! loop.example/g01297/spec.l09Is -/
def spec_l09Is_sh : List SkD := [.sl 33 .pt]
def spec_l09Is_runG {α : Type} (F : Nat → (List (Int × Int)) → (Bool → Option α) → Option α) (n : Nat) (p : List P1) (κ : Res → Option α) : Option α := match p with
  | [.rows .pt list] => F n list (fun v1 => κ ⟨[.bool v1], []⟩)
  | _ => none
def spec_l09Is_run {α : Type} (n : Nat) (p : List P1) (κ : Res → Option α) : Option α := spec_l09Is_runG spec_l09Is n p κ
def spec_l09Is_CG {α : Type} (F0 : Nat → Int → Int → Int → (Bool → Option α) → Option α) (F1 : Nat → Int → Int → (Bool → Option α) → Option α) (F2 : Nat → Int → Int → Int → Int → Int → Int → (Int → Option α) → Option α) (F3 : Nat → Int → Int → Int → Int → Int → (Int → Int → Option α) → Option α) (F4 : Nat → Int → Int → (Int → Option α) → Option α) (n : Nat) : FuncId → List D → (Res → Option α) → Option α := tabC [(73, (byShape spec_l01In_sh (spec_l01In_runG F0 n))), (85, (byShape spec_l01Is_sh (spec_l01Is_runG F1 n))), (135, (byShape spec_l09Side_sh (spec_l09Side_runG F2 n))), (112, (byShape spec_l01Plus_sh (spec_l01Plus_runG F3 n))), (136, (byShape spec_l09Half_sh (spec_l09Half_runG F4 n)))]
def spec_l09Is_C {α : Type} (n : Nat) : FuncId → List D → (Res → Option α) → Option α := spec_l09Is_CG spec_l01In spec_l01Is spec_l09Side spec_l01Plus spec_l09Half n
def spec_l09Is_M : FuncId → List Nat := tabM []
def spec_l09Is_t6 : Tpl := ⟨[.sl 0, .any, .any, .int .i64, .int .i64, .int .i64, .any, .any, .any, .any, .any, .any, .any, .any, .any, .any, .any, .any, .any, .any, .any, .any, .any, .any, .any, .any, .any, .any, .any, .any, .any, .any, .any, .any, .any, .any, .any, .any, .any, .any, .any, .any, .any, .any, .any, .any, .any, .any, .any, .any, .any, .any, .any, .any, .any, .any, .any, .any, .any, .any, .any, .any, .any, .any, .any, .any, .any, .any, .any, .any, .any, .any, .any, .any, .any, .any, .any, .any, .any, .any, .any], [(0, .rows 0 33 .pt)], []⟩
def spec_l09Is_uG6 {α : Type} (G : Nat → Int → Int → Int → (List (Int × Int)) → (Int → Int → Int → (List (Int × Int)) → Option α) → (Bool → Option α) → Option α) (n : Nat) (p : List P1) (brk : Nat → List P1 → Option α) (ret : Res → Option α) : Option α := match p with
  | [.int n_, .int turns, .int i, .rows .pt list1] => G n n_ turns i list1 (fun n_ turns i list1 => brk 0 [.int n_, .int turns, .int i, .rows .pt list1]) (fun v1 => ret ⟨[.bool v1], []⟩)
  | _ => none
def spec_l09Is_u6 {α : Type} (n : Nat) (p : List P1) (brk : Nat → List P1 → Option α) (ret : Res → Option α) : Option α := spec_l09Is_uG6 spec_l09Is_l6 n p brk ret
def spec_l09Is_lpsG {α : Type} (G6 : Nat → Int → Int → Int → (List (Int × Int)) → (Int → Int → Int → (List (Int × Int)) → Option α) → (Bool → Option α) → Option α) : List (LoopT α) := [⟨6, spec_l09Is_t6, spec_l09Is_uG6 G6⟩]
def spec_l09Is_lps {α : Type} : List (LoopT α) := spec_l09Is_lpsG spec_l09Is_l6
def spec_l09Is_XG {α : Type} (F0 : Nat → Int → Int → Int → (Bool → Option α) → Option α) (F1 : Nat → Int → Int → (Bool → Option α) → Option α) (F2 : Nat → Int → Int → Int → Int → Int → Int → (Int → Option α) → Option α) (F3 : Nat → Int → Int → Int → Int → Int → (Int → Int → Option α) → Option α) (F4 : Nat → Int → Int → (Int → Option α) → Option α) (G6 : Nat → Int → Int → Int → (List (Int × Int)) → (Int → Int → Int → (List (Int × Int)) → Option α) → (Bool → Option α) → Option α) (n : Nat) : Ctx α := ⟨spec_l09Is_CG F0 F1 F2 F3 F4 n, spec_l09Is_M, eqs, lpOf (spec_l09Is_lpsG G6) n⟩
def spec_l09Is_X {α : Type} (n : Nat) : Ctx α := spec_l09Is_XG spec_l01In spec_l01Is spec_l09Side spec_l01Plus spec_l09Half spec_l09Is_l6 n
def spec_l09Is_Lt (np : Nat) (lent : List (Bool × Nat × Blk)) : Prop := np = 1 ∧ lent = []
def spec_l09Is_lb6 {α : Type} (F0 : Nat → Int → Int → Int → (Bool → Option α) → Option α) (F1 : Nat → Int → Int → (Bool → Option α) → Option α) (F2 : Nat → Int → Int → Int → Int → Int → Int → (Int → Option α) → Option α) (F3 : Nat → Int → Int → Int → Int → Int → (Int → Int → Option α) → Option α) (F4 : Nat → Int → Int → (Int → Option α) → Option α) (G6 : Nat → Int → Int → Int → (List (Int × Int)) → (Int → Int → Int → (List (Int × Int)) → Option α) → (Bool → Option α) → Option α) (k : Nat) (n_ : Int) (turns : Int) (i : Int) (list1 : List (Int × Int)) (b0 : Int → Int → Int → (List (Int × Int)) → Option α) (r0 : Bool → Option α) : Option α :=
  bif decide (i < n_) then
    bif (decide (0 ≤ i) && decide (i < (((List.length list1) : Nat) : Int))) then
      (list1[i.toNat]?).bind fun e_ =>
      bif decide (n_ = 0) then
        none
      else
      bif (decide (0 ≤ (Int.tmod (w64 (i + 1)) n_)) && decide ((Int.tmod (w64 (i + 1)) n_) < (((List.length list1) : Nat) : Int))) then
        (list1[(Int.tmod (w64 (i + 1)) n_).toNat]?).bind fun e_1 =>
        bif decide (n_ = 0) then
          none
        else
        bif (decide (0 ≤ (Int.tmod (w64 (i + 2)) n_)) && decide ((Int.tmod (w64 (i + 2)) n_) < (((List.length list1) : Nat) : Int))) then
          (list1[(Int.tmod (w64 (i + 2)) n_).toNat]?).bind fun e_2 =>
          F0 k e_.1 (-1000) 1000 fun v =>
          bif (!v) then
            r0 false
          else
            F0 k e_.2 (-1000) 1000 fun v1 =>
            bif (!v1) then
              r0 false
            else
              F1 k e_1.1 e_1.2 fun v2 =>
              bif (!v2) then
                r0 false
              else
                F1 k e_2.1 e_2.2 fun v3 =>
                bif (!v3) then
                  r0 false
                else
                  F2 k e_.1 e_.2 e_1.1 e_1.2 e_2.1 e_2.2 fun v4 =>
                  bif decide (v4 ≤ 0) then
                    r0 false
                  else
                    F3 k e_1.1 e_1.2 e_.1 e_.2 (-1) fun v5 v6 =>
                    F4 k v5 v6 fun v7 =>
                    bif decide (v7 = 1) then
                      F3 k e_2.1 e_2.2 e_1.1 e_1.2 (-1) fun v8 v9 =>
                      F4 k v8 v9 fun v10 =>
                      bif decide (v10 = 0) then
                        G6 k n_ (w64 (turns + 1)) (w64 (i + 1)) list1 b0 r0
                      else
                        G6 k n_ turns (w64 (i + 1)) list1 b0 r0
                    else
                      G6 k n_ turns (w64 (i + 1)) list1 b0 r0
        else
          none
      else
        none
    else
      none
  else
    b0 n_ turns i list1
theorem spec_l09Is_l6_gen {α : Type} (F0 : Nat → Int → Int → Int → (Bool → Option α) → Option α) (F1 : Nat → Int → Int → (Bool → Option α) → Option α) (F2 : Nat → Int → Int → Int → Int → Int → Int → (Int → Option α) → Option α) (F3 : Nat → Int → Int → Int → Int → Int → (Int → Int → Option α) → Option α) (F4 : Nat → Int → Int → (Int → Option α) → Option α) (G6 : Nat → Int → Int → Int → (List (Int × Int)) → (Int → Int → Int → (List (Int × Int)) → Option α) → (Bool → Option α) → Option α) (n : Nat) (n_ : Int) (turns : Int) (i : Int) (list1 : List (Int × Int)) (brk : Nat → List P1 → Option α) (ret : Res → Option α) : ev ((spec_l09Is_XG F0 F1 F2 F3 F4 G6 n).env Try.prog Try.f84 1 []) (findLoop (loopsIn (Try.f84.body.getD .skip)) 6) ((spec_l09Is_t6.build [.int n_, .int turns, .int i, .rows .pt list1]).getD ⟨[], []⟩) (roundK (1 * 64) spec_l09Is_t6 (fun q => spec_l09Is_uG6 G6 n q brk ret) brk ret) = spec_l09Is_lb6 F0 F1 F2 F3 F4 G6 n n_ turns i list1 (fun n_ turns i list1 => brk 0 [.int n_, .int turns, .int i, .rows .pt list1]) (fun v1 => ret ⟨[.bool v1], []⟩) := by kernel_rfl
theorem spec_l09Is_l6_ev {α : Type} (n : Nat) (n_ : Int) (turns : Int) (i : Int) (list1 : List (Int × Int)) (brk : Nat → List P1 → Option α) (ret : Res → Option α) : ev ((spec_l09Is_X n).env Try.prog Try.f84 1 []) (findLoop (loopsIn (Try.f84.body.getD .skip)) 6) ((spec_l09Is_t6.build [.int n_, .int turns, .int i, .rows .pt list1]).getD ⟨[], []⟩) (roundK (1 * 64) spec_l09Is_t6 (fun q => spec_l09Is_u6 n q brk ret) brk ret) = spec_l09Is_u6 (n + 1) [.int n_, .int turns, .int i, .rows .pt list1] brk ret := (spec_l09Is_l6_gen spec_l01In spec_l01Is spec_l09Side spec_l01Plus spec_l09Half spec_l09Is_l6 n n_ turns i list1 brk ret).trans (by kernel_rfl)
def spec_l09Is_body {α : Type} (F0 : Nat → Int → Int → Int → (Bool → Option α) → Option α) (F1 : Nat → Int → Int → (Bool → Option α) → Option α) (F2 : Nat → Int → Int → Int → Int → Int → Int → (Int → Option α) → Option α) (F3 : Nat → Int → Int → Int → Int → Int → (Int → Int → Option α) → Option α) (F4 : Nat → Int → Int → (Int → Option α) → Option α) (G6 : Nat → Int → Int → Int → (List (Int × Int)) → (Int → Int → Int → (List (Int × Int)) → Option α) → (Bool → Option α) → Option α) (k : Nat) (list : List (Int × Int)) (r0 : Bool → Option α) : Option α :=
  bif decide ((((List.length list) : Nat) : Int) < 3) then
    r0 false
  else
  bif decide (12 < (((List.length list) : Nat) : Int)) then
    r0 false
  else
    G6 k (((List.length list) : Nat) : Int) 0 0 list
      (fun n_1 turns1 i1 list2 =>
        r0 (decide (turns1 = 1)))
      r0
theorem spec_l09Is_gen {α : Type} (F0 : Nat → Int → Int → Int → (Bool → Option α) → Option α) (F1 : Nat → Int → Int → (Bool → Option α) → Option α) (F2 : Nat → Int → Int → Int → Int → Int → Int → (Int → Option α) → Option α) (F3 : Nat → Int → Int → Int → Int → Int → (Int → Int → Option α) → Option α) (F4 : Nat → Int → Int → (Int → Option α) → Option α) (G6 : Nat → Int → Int → Int → (List (Int × Int)) → (Int → Int → Int → (List (Int × Int)) → Option α) → (Bool → Option α) → Option α) (n : Nat) (list : List (Int × Int)) (κ : Res → Option α) : evFn Try.prog (spec_l09Is_XG F0 F1 F2 F3 F4 G6 n) Try.f84 (((buildDs spec_l09Is_sh [.rows .pt list]).map Prod.fst).getD []) κ = spec_l09Is_body F0 F1 F2 F3 F4 G6 n list (fun v1 => κ ⟨[.bool v1], []⟩) := by kernel_rfl
theorem spec_l09Is_ev {α : Type} (n : Nat) (list : List (Int × Int)) (κ : Res → Option α) : evFn Try.prog (spec_l09Is_X n) Try.f84 (((buildDs spec_l09Is_sh [.rows .pt list]).map Prod.fst).getD []) κ = spec_l09Is_run n [.rows .pt list] κ := (spec_l09Is_gen spec_l01In spec_l01Is spec_l09Side spec_l01Plus spec_l09Half spec_l09Is_l6 n list κ).trans (by kernel_rfl)
theorem spec_l09Is_en (list : List (Int × Int)) : (entry 0 (((buildDs spec_l09Is_sh [.rows .pt list]).map Prod.fst).getD [])).map (fun x => (x.1.length, x.2.lent)) = some (1, []) := by kernel_rfl
theorem spec_l09Is_good {α : Type} : ∀ n, GoodFn (α := α) Try.prog 84 (byShape spec_l09Is_sh (spec_l09Is_run n)) := by
  refine fn_good' Try.func84 (c := (Try.f84.body.getD .skip)) (by kernel_rfl) (by kernel_rfl) (by kernel_rfl) spec_l09Is_C spec_l09Is_M eqs spec_l09Is_lps (fun n => tabC_good (List.forall_mem_cons.2 ⟨(spec_l01In_good n), (List.forall_mem_cons.2 ⟨(spec_l01Is_good n), (List.forall_mem_cons.2 ⟨(spec_l09Side_good n), (List.forall_mem_cons.2 ⟨(spec_l01Plus_good n), (List.forall_mem_cons.2 ⟨(spec_l09Half_good n), (fun _ h => absurd h List.not_mem_nil)⟩)⟩)⟩)⟩)⟩)) eqs_ok spec_l09Is_Lt ?_ ?_ spec_l09Is_sh spec_l09Is_run ?_
  · refine List.forall_mem_cons.2 ⟨?_, (fun _ h => absurd h List.not_mem_nil)⟩
    · intro p brk ret; show spec_l09Is_u6 0 p brk ret = none; unfold spec_l09Is_u6 spec_l09Is_uG6; split <;> rfl
  · refine List.forall_mem_cons.2 ⟨?_, (fun _ h => absurd h List.not_mem_nil)⟩
    · intro np lent hL n p brk ret st r hb hr
      obtain ⟨rfl, rfl⟩ := hL
      rw [← tpl_of hb]
      change spec_l09Is_u6 (n + 1) p brk ret = some r at hr
      have hr0 := hr
      unfold spec_l09Is_u6 spec_l09Is_uG6 at hr
      split at hr
      · exact (spec_l09Is_l6_ev n _ _ _ _ brk ret).trans hr0
      · cases hr
  · intro n p κ r ds hd hr
    have hr0 := hr
    unfold spec_l09Is_run spec_l09Is_runG at hr
    split at hr
    · rw [← ds_of hd]
      exact ⟨en_of (spec_l09Is_en _) ⟨rfl, rfl⟩, (spec_l09Is_ev n _ κ).trans hr0⟩
    · cases hr

/-! loop.example/g01297/spec.l01Gcd -/
def spec_l01Gcd_sh : List SkD := [.int .i64, .int .i64]
def spec_l01Gcd_runG {α : Type} (F : Nat → Int → Int → (Int → Option α) → Option α) (n : Nat) (p : List P1) (κ : Res → Option α) : Option α := match p with
  | [.int a, .int b_] => F n a b_ (fun v1 => κ ⟨[.int .i64 v1], []⟩)
  | _ => none
def spec_l01Gcd_run {α : Type} (n : Nat) (p : List P1) (κ : Res → Option α) : Option α := spec_l01Gcd_runG spec_l01Gcd n p κ
def spec_l01Gcd_CG {α : Type}  (n : Nat) : FuncId → List D → (Res → Option α) → Option α := tabC []
def spec_l01Gcd_C {α : Type} (n : Nat) : FuncId → List D → (Res → Option α) → Option α := spec_l01Gcd_CG n
def spec_l01Gcd_M : FuncId → List Nat := tabM []
def spec_l01Gcd_t1 : Tpl := ⟨[.int .i64, .int .i64, .any, .any, .any, .any, .any, .any, .any, .any, .any, .any, .any, .any, .any, .any, .any], [], []⟩
def spec_l01Gcd_uG1 {α : Type} (G : Nat → Int → Int → (Int → Int → Option α) → (Int → Option α) → Option α) (n : Nat) (p : List P1) (brk : Nat → List P1 → Option α) (ret : Res → Option α) : Option α := match p with
  | [.int a1, .int b_1] => G n a1 b_1 (fun a1 b_1 => brk 0 [.int a1, .int b_1]) (fun v1 => ret ⟨[.int .i64 v1], []⟩)
  | _ => none
def spec_l01Gcd_u1 {α : Type} (n : Nat) (p : List P1) (brk : Nat → List P1 → Option α) (ret : Res → Option α) : Option α := spec_l01Gcd_uG1 spec_l01Gcd_l1 n p brk ret
def spec_l01Gcd_lpsG {α : Type} (G1 : Nat → Int → Int → (Int → Int → Option α) → (Int → Option α) → Option α) : List (LoopT α) := [⟨1, spec_l01Gcd_t1, spec_l01Gcd_uG1 G1⟩]
def spec_l01Gcd_lps {α : Type} : List (LoopT α) := spec_l01Gcd_lpsG spec_l01Gcd_l1
def spec_l01Gcd_XG {α : Type}  (G1 : Nat → Int → Int → (Int → Int → Option α) → (Int → Option α) → Option α) (n : Nat) : Ctx α := ⟨spec_l01Gcd_CG n, spec_l01Gcd_M, eqs, lpOf (spec_l01Gcd_lpsG G1) n⟩
def spec_l01Gcd_X {α : Type} (n : Nat) : Ctx α := spec_l01Gcd_XG spec_l01Gcd_l1 n
def spec_l01Gcd_Lt (np : Nat) (lent : List (Bool × Nat × Blk)) : Prop := np = 2 ∧ lent = []
def spec_l01Gcd_lb1 {α : Type}  (G1 : Nat → Int → Int → (Int → Int → Option α) → (Int → Option α) → Option α) (k : Nat) (a1 : Int) (b_1 : Int) (b0 : Int → Int → Option α) (r0 : Int → Option α) : Option α :=
  bif (!decide (b_1 = 0)) then
    bif decide (b_1 = 0) then
      none
    else
      G1 k b_1 (Int.tmod a1 b_1) b0 r0
  else
    b0 a1 b_1
theorem spec_l01Gcd_l1_gen {α : Type}  (G1 : Nat → Int → Int → (Int → Int → Option α) → (Int → Option α) → Option α) (n : Nat) (a1 : Int) (b_1 : Int) (brk : Nat → List P1 → Option α) (ret : Res → Option α) : ev ((spec_l01Gcd_XG G1 n).env Try.prog Try.f96 2 []) (findLoop (loopsIn (Try.f96.body.getD .skip)) 1) ((spec_l01Gcd_t1.build [.int a1, .int b_1]).getD ⟨[], []⟩) (roundK (2 * 64) spec_l01Gcd_t1 (fun q => spec_l01Gcd_uG1 G1 n q brk ret) brk ret) = spec_l01Gcd_lb1 G1 n a1 b_1 (fun a1 b_1 => brk 0 [.int a1, .int b_1]) (fun v1 => ret ⟨[.int .i64 v1], []⟩) := by kernel_rfl
theorem spec_l01Gcd_l1_ev {α : Type} (n : Nat) (a1 : Int) (b_1 : Int) (brk : Nat → List P1 → Option α) (ret : Res → Option α) : ev ((spec_l01Gcd_X n).env Try.prog Try.f96 2 []) (findLoop (loopsIn (Try.f96.body.getD .skip)) 1) ((spec_l01Gcd_t1.build [.int a1, .int b_1]).getD ⟨[], []⟩) (roundK (2 * 64) spec_l01Gcd_t1 (fun q => spec_l01Gcd_u1 n q brk ret) brk ret) = spec_l01Gcd_u1 (n + 1) [.int a1, .int b_1] brk ret := (spec_l01Gcd_l1_gen spec_l01Gcd_l1 n a1 b_1 brk ret).trans (by kernel_rfl)
def spec_l01Gcd_body {α : Type}  (G1 : Nat → Int → Int → (Int → Int → Option α) → (Int → Option α) → Option α) (k : Nat) (a : Int) (b_ : Int) (r0 : Int → Option α) : Option α :=
  G1 k a b_
    (fun a2 b_2 =>
      r0 (max a2 (w64 (0 - a2))))
    r0
theorem spec_l01Gcd_gen {α : Type}  (G1 : Nat → Int → Int → (Int → Int → Option α) → (Int → Option α) → Option α) (n : Nat) (a : Int) (b_ : Int) (κ : Res → Option α) : evFn Try.prog (spec_l01Gcd_XG G1 n) Try.f96 (((buildDs spec_l01Gcd_sh [.int a, .int b_]).map Prod.fst).getD []) κ = spec_l01Gcd_body G1 n a b_ (fun v1 => κ ⟨[.int .i64 v1], []⟩) := by kernel_rfl
theorem spec_l01Gcd_ev {α : Type} (n : Nat) (a : Int) (b_ : Int) (κ : Res → Option α) : evFn Try.prog (spec_l01Gcd_X n) Try.f96 (((buildDs spec_l01Gcd_sh [.int a, .int b_]).map Prod.fst).getD []) κ = spec_l01Gcd_run n [.int a, .int b_] κ := (spec_l01Gcd_gen spec_l01Gcd_l1 n a b_ κ).trans (by kernel_rfl)
theorem spec_l01Gcd_en (a : Int) (b_ : Int) : (entry 0 (((buildDs spec_l01Gcd_sh [.int a, .int b_]).map Prod.fst).getD [])).map (fun x => (x.1.length, x.2.lent)) = some (2, []) := by kernel_rfl
theorem spec_l01Gcd_good {α : Type} : ∀ n, GoodFn (α := α) Try.prog 96 (byShape spec_l01Gcd_sh (spec_l01Gcd_run n)) := by
  refine fn_good' Try.func96 (c := (Try.f96.body.getD .skip)) (by kernel_rfl) (by kernel_rfl) (by kernel_rfl) spec_l01Gcd_C spec_l01Gcd_M eqs spec_l01Gcd_lps (fun n => tabC_good (fun _ h => absurd h List.not_mem_nil)) eqs_ok spec_l01Gcd_Lt ?_ ?_ spec_l01Gcd_sh spec_l01Gcd_run ?_
  · refine List.forall_mem_cons.2 ⟨?_, (fun _ h => absurd h List.not_mem_nil)⟩
    · intro p brk ret; show spec_l01Gcd_u1 0 p brk ret = none; unfold spec_l01Gcd_u1 spec_l01Gcd_uG1; split <;> rfl
  · refine List.forall_mem_cons.2 ⟨?_, (fun _ h => absurd h List.not_mem_nil)⟩
    · intro np lent hL n p brk ret st r hb hr
      obtain ⟨rfl, rfl⟩ := hL
      rw [← tpl_of hb]
      change spec_l01Gcd_u1 (n + 1) p brk ret = some r at hr
      have hr0 := hr
      unfold spec_l01Gcd_u1 spec_l01Gcd_uG1 at hr
      split at hr
      · exact (spec_l01Gcd_l1_ev n _ _ brk ret).trans hr0
      · cases hr
  · intro n p κ r ds hd hr
    have hr0 := hr
    unfold spec_l01Gcd_run spec_l01Gcd_runG at hr
    split at hr
    · rw [← ds_of hd]
      exact ⟨en_of (spec_l01Gcd_en _ _) ⟨rfl, rfl⟩, (spec_l01Gcd_ev n _ _ κ).trans hr0⟩
    · cases hr

/-! loop.example/g01297/spec.WidthFor -/
def spec_WidthFor_sh : List SkD := [.sl 33 .pt, .agg [.int .i64, .int .i64]]
def spec_WidthFor_runG {α : Type} (F : Nat → (List (Int × Int)) → Int → Int → (Int → Int → Option α) → Option α) (n : Nat) (p : List P1) (κ : Res → Option α) : Option α := match p with
  | [.rows .pt list, .int u, .int u1] => F n list u u1 (fun v1 v2 => κ ⟨[.int .i64 v1, .int .i64 v2], []⟩)
  | _ => none
def spec_WidthFor_run {α : Type} (n : Nat) (p : List P1) (κ : Res → Option α) : Option α := spec_WidthFor_runG spec_WidthFor n p κ
def spec_WidthFor_CG {α : Type} (F0 : Nat → (List (Int × Int)) → (Bool → Option α) → Option α) (F1 : Nat → Int → Int → (Bool → Option α) → Option α) (F2 : Nat → Int → Int → (Int → Option α) → Option α) (n : Nat) : FuncId → List D → (Res → Option α) → Option α := tabC [(84, (byShape spec_l09Is_sh (spec_l09Is_runG F0 n))), (85, (byShape spec_l01Is_sh (spec_l01Is_runG F1 n))), (96, (byShape spec_l01Gcd_sh (spec_l01Gcd_runG F2 n)))]
def spec_WidthFor_C {α : Type} (n : Nat) : FuncId → List D → (Res → Option α) → Option α := spec_WidthFor_CG spec_l09Is spec_l01Is spec_l01Gcd n
def spec_WidthFor_M : FuncId → List Nat := tabM []
def spec_WidthFor_t7 : Tpl := ⟨[.sl 0, .any, .any, .ptr 192 0 0, .any, .any, .int .i64, .int .i64, .int .i64, .any, .any, .any, .any, .any, .any, .any, .any, .any, .any, .any, .any, .any, .any, .any, .any, .any, .any, .any, .any, .any, .any, .any, .any, .any, .any, .any, .any, .any, .any, .any, .any, .any, .any, .any, .any, .any, .any, .any, .any, .any, .any, .any, .any, .any, .any, .any, .any, .any, .any, .any, .any, .any, .any, .any, .any, .any, .any, .any], [(0, .rows 0 33 .pt), (192, .ints 2 33 .i64 2)], []⟩
def spec_WidthFor_uG7 {α : Type} (G : Nat → Int → Int → Int → (List (Int × Int)) → Int → Int → (Int → Int → Int → (List (Int × Int)) → Int → Int → Option α) → (Int → Int → Option α) → Option α) (n : Nat) (p : List P1) (brk : Nat → List P1 → Option α) (ret : Res → Option α) : Option α := match p with
  | [.int least, .int most, .int i, .rows .pt list1, .int u2, .int u3] => G n least most i list1 u2 u3 (fun least most i list1 u2 u3 => brk 1 [.int least, .int most, .int i, .rows .pt list1, .int u2, .int u3]) (fun v1 v2 => ret ⟨[.int .i64 v1, .int .i64 v2], []⟩)
  | _ => none
def spec_WidthFor_u7 {α : Type} (n : Nat) (p : List P1) (brk : Nat → List P1 → Option α) (ret : Res → Option α) : Option α := spec_WidthFor_uG7 spec_WidthFor_l7 n p brk ret
def spec_WidthFor_lpsG {α : Type} (G7 : Nat → Int → Int → Int → (List (Int × Int)) → Int → Int → (Int → Int → Int → (List (Int × Int)) → Int → Int → Option α) → (Int → Int → Option α) → Option α) : List (LoopT α) := [⟨7, spec_WidthFor_t7, spec_WidthFor_uG7 G7⟩]
def spec_WidthFor_lps {α : Type} : List (LoopT α) := spec_WidthFor_lpsG spec_WidthFor_l7
def spec_WidthFor_XG {α : Type} (F0 : Nat → (List (Int × Int)) → (Bool → Option α) → Option α) (F1 : Nat → Int → Int → (Bool → Option α) → Option α) (F2 : Nat → Int → Int → (Int → Option α) → Option α) (G7 : Nat → Int → Int → Int → (List (Int × Int)) → Int → Int → (Int → Int → Int → (List (Int × Int)) → Int → Int → Option α) → (Int → Int → Option α) → Option α) (n : Nat) : Ctx α := ⟨spec_WidthFor_CG F0 F1 F2 n, spec_WidthFor_M, eqs, lpOf (spec_WidthFor_lpsG G7) n⟩
def spec_WidthFor_X {α : Type} (n : Nat) : Ctx α := spec_WidthFor_XG spec_l09Is spec_l01Is spec_l01Gcd spec_WidthFor_l7 n
def spec_WidthFor_Lt (np : Nat) (lent : List (Bool × Nat × Blk)) : Prop := np = 2 ∧ lent = []
def spec_WidthFor_lb7 {α : Type} (F0 : Nat → (List (Int × Int)) → (Bool → Option α) → Option α) (F1 : Nat → Int → Int → (Bool → Option α) → Option α) (F2 : Nat → Int → Int → (Int → Option α) → Option α) (G7 : Nat → Int → Int → Int → (List (Int × Int)) → Int → Int → (Int → Int → Int → (List (Int × Int)) → Int → Int → Option α) → (Int → Int → Option α) → Option α) (k : Nat) (least : Int) (most : Int) (i : Int) (list1 : List (Int × Int)) (u2 : Int) (u3 : Int) (b1 : Int → Int → Int → (List (Int × Int)) → Int → Int → Option α) (r0 : Int → Int → Option α) : Option α :=
  bif decide (i < (((List.length list1) : Nat) : Int)) then
    bif (decide (0 ≤ i) && decide (i < (((List.length list1) : Nat) : Int))) then
      (list1[i.toNat]?).bind fun e_ =>
      bif (decide (0 ≤ i) && decide (i < (((List.length list1) : Nat) : Int))) then
        (list1[i.toNat]?).bind fun e_1 =>
        bif decide (i = 0) then
          bif decide (i = 0) then
            G7 k (w64 ((w64 (u2 * e_.1)) + (w64 (u3 * e_1.2)))) (w64 ((w64 (u2 * e_.1)) + (w64 (u3 * e_1.2)))) (w64 (i + 1)) list1 u2 u3 b1 r0
          else
          bif decide (most < (w64 ((w64 (u2 * e_.1)) + (w64 (u3 * e_1.2))))) then
            G7 k (w64 ((w64 (u2 * e_.1)) + (w64 (u3 * e_1.2)))) (w64 ((w64 (u2 * e_.1)) + (w64 (u3 * e_1.2)))) (w64 (i + 1)) list1 u2 u3 b1 r0
          else
            G7 k (w64 ((w64 (u2 * e_.1)) + (w64 (u3 * e_1.2)))) most (w64 (i + 1)) list1 u2 u3 b1 r0
        else
        bif decide ((w64 ((w64 (u2 * e_.1)) + (w64 (u3 * e_1.2)))) < least) then
          bif decide (i = 0) then
            G7 k (w64 ((w64 (u2 * e_.1)) + (w64 (u3 * e_1.2)))) (w64 ((w64 (u2 * e_.1)) + (w64 (u3 * e_1.2)))) (w64 (i + 1)) list1 u2 u3 b1 r0
          else
          bif decide (most < (w64 ((w64 (u2 * e_.1)) + (w64 (u3 * e_1.2))))) then
            G7 k (w64 ((w64 (u2 * e_.1)) + (w64 (u3 * e_1.2)))) (w64 ((w64 (u2 * e_.1)) + (w64 (u3 * e_1.2)))) (w64 (i + 1)) list1 u2 u3 b1 r0
          else
            G7 k (w64 ((w64 (u2 * e_.1)) + (w64 (u3 * e_1.2)))) most (w64 (i + 1)) list1 u2 u3 b1 r0
        else
        bif decide (i = 0) then
          G7 k least (w64 ((w64 (u2 * e_.1)) + (w64 (u3 * e_1.2)))) (w64 (i + 1)) list1 u2 u3 b1 r0
        else
        bif decide (most < (w64 ((w64 (u2 * e_.1)) + (w64 (u3 * e_1.2))))) then
          G7 k least (w64 ((w64 (u2 * e_.1)) + (w64 (u3 * e_1.2)))) (w64 (i + 1)) list1 u2 u3 b1 r0
        else
          G7 k least most (w64 (i + 1)) list1 u2 u3 b1 r0
      else
        none
    else
      none
  else
    b1 least most i list1 u2 u3
theorem spec_WidthFor_l7_gen {α : Type} (F0 : Nat → (List (Int × Int)) → (Bool → Option α) → Option α) (F1 : Nat → Int → Int → (Bool → Option α) → Option α) (F2 : Nat → Int → Int → (Int → Option α) → Option α) (G7 : Nat → Int → Int → Int → (List (Int × Int)) → Int → Int → (Int → Int → Int → (List (Int × Int)) → Int → Int → Option α) → (Int → Int → Option α) → Option α) (n : Nat) (least : Int) (most : Int) (i : Int) (list1 : List (Int × Int)) (u2 : Int) (u3 : Int) (brk : Nat → List P1 → Option α) (ret : Res → Option α) : ev ((spec_WidthFor_XG F0 F1 F2 G7 n).env Try.prog Try.f49 2 []) (findLoop (loopsIn (Try.f49.body.getD .skip)) 7) ((spec_WidthFor_t7.build [.int least, .int most, .int i, .rows .pt list1, .int u2, .int u3]).getD ⟨[], []⟩) (roundK (2 * 64) spec_WidthFor_t7 (fun q => spec_WidthFor_uG7 G7 n q brk ret) brk ret) = spec_WidthFor_lb7 F0 F1 F2 G7 n least most i list1 u2 u3 (fun least most i list1 u2 u3 => brk 1 [.int least, .int most, .int i, .rows .pt list1, .int u2, .int u3]) (fun v1 v2 => ret ⟨[.int .i64 v1, .int .i64 v2], []⟩) := by kernel_rfl
theorem spec_WidthFor_l7_ev {α : Type} (n : Nat) (least : Int) (most : Int) (i : Int) (list1 : List (Int × Int)) (u2 : Int) (u3 : Int) (brk : Nat → List P1 → Option α) (ret : Res → Option α) : ev ((spec_WidthFor_X n).env Try.prog Try.f49 2 []) (findLoop (loopsIn (Try.f49.body.getD .skip)) 7) ((spec_WidthFor_t7.build [.int least, .int most, .int i, .rows .pt list1, .int u2, .int u3]).getD ⟨[], []⟩) (roundK (2 * 64) spec_WidthFor_t7 (fun q => spec_WidthFor_u7 n q brk ret) brk ret) = spec_WidthFor_u7 (n + 1) [.int least, .int most, .int i, .rows .pt list1, .int u2, .int u3] brk ret := (spec_WidthFor_l7_gen spec_l09Is spec_l01Is spec_l01Gcd spec_WidthFor_l7 n least most i list1 u2 u3 brk ret).trans (by kernel_rfl)
def spec_WidthFor_body {α : Type} (F0 : Nat → (List (Int × Int)) → (Bool → Option α) → Option α) (F1 : Nat → Int → Int → (Bool → Option α) → Option α) (F2 : Nat → Int → Int → (Int → Option α) → Option α) (G7 : Nat → Int → Int → Int → (List (Int × Int)) → Int → Int → (Int → Int → Int → (List (Int × Int)) → Int → Int → Option α) → (Int → Int → Option α) → Option α) (k : Nat) (list : List (Int × Int)) (u : Int) (u1 : Int) (r0 : Int → Int → Option α) : Option α :=
  F0 k list fun v =>
  bif (!v) then
    r0 0 1
  else
    F1 k u u1 fun v1 =>
    bif (!v1) then
      r0 0 1
    else
      F2 k u u1 fun v2 =>
      bif (!decide (v2 = 1)) then
        r0 0 5
      else
        G7 k 0 0 0 list u u1
          (fun least1 most1 i1 list2 u4 u5 =>
            r0 (w64 (most1 - least1)) 0)
          r0
theorem spec_WidthFor_gen {α : Type} (F0 : Nat → (List (Int × Int)) → (Bool → Option α) → Option α) (F1 : Nat → Int → Int → (Bool → Option α) → Option α) (F2 : Nat → Int → Int → (Int → Option α) → Option α) (G7 : Nat → Int → Int → Int → (List (Int × Int)) → Int → Int → (Int → Int → Int → (List (Int × Int)) → Int → Int → Option α) → (Int → Int → Option α) → Option α) (n : Nat) (list : List (Int × Int)) (u : Int) (u1 : Int) (κ : Res → Option α) : evFn Try.prog (spec_WidthFor_XG F0 F1 F2 G7 n) Try.f49 (((buildDs spec_WidthFor_sh [.rows .pt list, .int u, .int u1]).map Prod.fst).getD []) κ = spec_WidthFor_body F0 F1 F2 G7 n list u u1 (fun v1 v2 => κ ⟨[.int .i64 v1, .int .i64 v2], []⟩) := by kernel_rfl
theorem spec_WidthFor_ev {α : Type} (n : Nat) (list : List (Int × Int)) (u : Int) (u1 : Int) (κ : Res → Option α) : evFn Try.prog (spec_WidthFor_X n) Try.f49 (((buildDs spec_WidthFor_sh [.rows .pt list, .int u, .int u1]).map Prod.fst).getD []) κ = spec_WidthFor_run n [.rows .pt list, .int u, .int u1] κ := (spec_WidthFor_gen spec_l09Is spec_l01Is spec_l01Gcd spec_WidthFor_l7 n list u u1 κ).trans (by kernel_rfl)
theorem spec_WidthFor_en (list : List (Int × Int)) (u : Int) (u1 : Int) : (entry 0 (((buildDs spec_WidthFor_sh [.rows .pt list, .int u, .int u1]).map Prod.fst).getD [])).map (fun x => (x.1.length, x.2.lent)) = some (2, []) := by kernel_rfl
theorem spec_WidthFor_good {α : Type} : ∀ n, GoodFn (α := α) Try.prog 49 (byShape spec_WidthFor_sh (spec_WidthFor_run n)) := by
  refine fn_good' Try.func49 (c := (Try.f49.body.getD .skip)) (by kernel_rfl) (by kernel_rfl) (by kernel_rfl) spec_WidthFor_C spec_WidthFor_M eqs spec_WidthFor_lps (fun n => tabC_good (List.forall_mem_cons.2 ⟨(spec_l09Is_good n), (List.forall_mem_cons.2 ⟨(spec_l01Is_good n), (List.forall_mem_cons.2 ⟨(spec_l01Gcd_good n), (fun _ h => absurd h List.not_mem_nil)⟩)⟩)⟩)) eqs_ok spec_WidthFor_Lt ?_ ?_ spec_WidthFor_sh spec_WidthFor_run ?_
  · refine List.forall_mem_cons.2 ⟨?_, (fun _ h => absurd h List.not_mem_nil)⟩
    · intro p brk ret; show spec_WidthFor_u7 0 p brk ret = none; unfold spec_WidthFor_u7 spec_WidthFor_uG7; split <;> rfl
  · refine List.forall_mem_cons.2 ⟨?_, (fun _ h => absurd h List.not_mem_nil)⟩
    · intro np lent hL n p brk ret st r hb hr
      obtain ⟨rfl, rfl⟩ := hL
      rw [← tpl_of hb]
      change spec_WidthFor_u7 (n + 1) p brk ret = some r at hr
      have hr0 := hr
      unfold spec_WidthFor_u7 spec_WidthFor_uG7 at hr
      split at hr
      · exact (spec_WidthFor_l7_ev n _ _ _ _ _ _ brk ret).trans hr0
      · cases hr
  · intro n p κ r ds hd hr
    have hr0 := hr
    unfold spec_WidthFor_run spec_WidthFor_runG at hr
    split at hr
    · rw [← ds_of hd]
      exact ⟨en_of (spec_WidthFor_en _ _ _) ⟨rfl, rfl⟩, (spec_WidthFor_ev n _ _ _ κ).trans hr0⟩
    · cases hr

/-! loop.example/g01297/impl.in -/
def impl_in_sh : List SkD := [.int .i64, .int .i64, .int .i64]
def impl_in_runG {α : Type} (F : Nat → Int → Int → Int → (Bool → Option α) → Option α) (n : Nat) (p : List P1) (κ : Res → Option α) : Option α := match p with
  | [.int n_, .int low, .int high] => F n n_ low high (fun v1 => κ ⟨[.bool v1], []⟩)
  | _ => none
def impl_in_run {α : Type} (n : Nat) (p : List P1) (κ : Res → Option α) : Option α := impl_in_runG impl_in n p κ
def impl_in_CG {α : Type}  (n : Nat) : FuncId → List D → (Res → Option α) → Option α := tabC []
def impl_in_C {α : Type} (n : Nat) : FuncId → List D → (Res → Option α) → Option α := impl_in_CG n
def impl_in_M : FuncId → List Nat := tabM []
def impl_in_lpsG {α : Type}  : List (LoopT α) := []
def impl_in_lps {α : Type} : List (LoopT α) := impl_in_lpsG
def impl_in_XG {α : Type}   (n : Nat) : Ctx α := ⟨impl_in_CG n, impl_in_M, eqs, lpOf (impl_in_lpsG) n⟩
def impl_in_X {α : Type} (n : Nat) : Ctx α := impl_in_XG n
def impl_in_Lt (np : Nat) (lent : List (Bool × Nat × Blk)) : Prop := np = 3 ∧ lent = []
def impl_in_body {α : Type}   (k : Nat) (n_ : Int) (low : Int) (high : Int) (r0 : Bool → Option α) : Option α :=
  bif decide (low ≤ n_) then
    r0 (decide (n_ ≤ high))
  else
    r0 false
theorem impl_in_gen {α : Type}   (n : Nat) (n_ : Int) (low : Int) (high : Int) (κ : Res → Option α) : evFn Try.prog (impl_in_XG n) Try.f76 (((buildDs impl_in_sh [.int n_, .int low, .int high]).map Prod.fst).getD []) κ = impl_in_body n n_ low high (fun v1 => κ ⟨[.bool v1], []⟩) := by kernel_rfl
theorem impl_in_ev {α : Type} (n : Nat) (n_ : Int) (low : Int) (high : Int) (κ : Res → Option α) : evFn Try.prog (impl_in_X n) Try.f76 (((buildDs impl_in_sh [.int n_, .int low, .int high]).map Prod.fst).getD []) κ = impl_in_run n [.int n_, .int low, .int high] κ := (impl_in_gen n n_ low high κ).trans (by kernel_rfl)
theorem impl_in_en (n_ : Int) (low : Int) (high : Int) : (entry 0 (((buildDs impl_in_sh [.int n_, .int low, .int high]).map Prod.fst).getD [])).map (fun x => (x.1.length, x.2.lent)) = some (3, []) := by kernel_rfl
theorem impl_in_good {α : Type} : ∀ n, GoodFn (α := α) Try.prog 76 (byShape impl_in_sh (impl_in_run n)) := by
  refine fn_good' Try.func76 (c := (Try.f76.body.getD .skip)) (by kernel_rfl) (by kernel_rfl) (by kernel_rfl) impl_in_C impl_in_M eqs impl_in_lps (fun n => tabC_good (fun _ h => absurd h List.not_mem_nil)) eqs_ok impl_in_Lt ?_ ?_ impl_in_sh impl_in_run ?_
  · exact (fun _ h => absurd h List.not_mem_nil)
  · exact (fun _ h => absurd h List.not_mem_nil)
  · intro n p κ r ds hd hr
    have hr0 := hr
    unfold impl_in_run impl_in_runG at hr
    split at hr
    · rw [← ds_of hd]
      exact ⟨en_of (impl_in_en _ _ _) ⟨rfl, rfl⟩, (impl_in_ev n _ _ _ κ).trans hr0⟩
    · cases hr

/-! loop.example/g01297/impl.small -/
def impl_small_sh : List SkD := [.agg [.int .i64, .int .i64]]
def impl_small_runG {α : Type} (F : Nat → Int → Int → (Bool → Option α) → Option α) (n : Nat) (p : List P1) (κ : Res → Option α) : Option α := match p with
  | [.int a, .int a1] => F n a a1 (fun v1 => κ ⟨[.bool v1], []⟩)
  | _ => none
def impl_small_run {α : Type} (n : Nat) (p : List P1) (κ : Res → Option α) : Option α := impl_small_runG impl_small n p κ
def impl_small_CG {α : Type} (F0 : Nat → Int → Int → Int → (Bool → Option α) → Option α) (n : Nat) : FuncId → List D → (Res → Option α) → Option α := tabC [(76, (byShape impl_in_sh (impl_in_runG F0 n)))]
def impl_small_C {α : Type} (n : Nat) : FuncId → List D → (Res → Option α) → Option α := impl_small_CG impl_in n
def impl_small_M : FuncId → List Nat := tabM []
def impl_small_lpsG {α : Type}  : List (LoopT α) := []
def impl_small_lps {α : Type} : List (LoopT α) := impl_small_lpsG
def impl_small_XG {α : Type} (F0 : Nat → Int → Int → Int → (Bool → Option α) → Option α)  (n : Nat) : Ctx α := ⟨impl_small_CG F0 n, impl_small_M, eqs, lpOf (impl_small_lpsG) n⟩
def impl_small_X {α : Type} (n : Nat) : Ctx α := impl_small_XG impl_in n
def impl_small_Lt (np : Nat) (lent : List (Bool × Nat × Blk)) : Prop := np = 1 ∧ lent = []
def impl_small_body {α : Type} (F0 : Nat → Int → Int → Int → (Bool → Option α) → Option α)  (k : Nat) (a : Int) (a1 : Int) (r0 : Bool → Option α) : Option α :=
  F0 k a (-1000) 1000 fun v =>
  bif v then
    F0 k a1 (-1000) 1000 fun v1 =>
    r0 v1
  else
    r0 false
theorem impl_small_gen {α : Type} (F0 : Nat → Int → Int → Int → (Bool → Option α) → Option α)  (n : Nat) (a : Int) (a1 : Int) (κ : Res → Option α) : evFn Try.prog (impl_small_XG F0 n) Try.f124 (((buildDs impl_small_sh [.int a, .int a1]).map Prod.fst).getD []) κ = impl_small_body F0 n a a1 (fun v1 => κ ⟨[.bool v1], []⟩) := by kernel_rfl
theorem impl_small_ev {α : Type} (n : Nat) (a : Int) (a1 : Int) (κ : Res → Option α) : evFn Try.prog (impl_small_X n) Try.f124 (((buildDs impl_small_sh [.int a, .int a1]).map Prod.fst).getD []) κ = impl_small_run n [.int a, .int a1] κ := (impl_small_gen impl_in n a a1 κ).trans (by kernel_rfl)
theorem impl_small_en (a : Int) (a1 : Int) : (entry 0 (((buildDs impl_small_sh [.int a, .int a1]).map Prod.fst).getD [])).map (fun x => (x.1.length, x.2.lent)) = some (1, []) := by kernel_rfl
theorem impl_small_good {α : Type} : ∀ n, GoodFn (α := α) Try.prog 124 (byShape impl_small_sh (impl_small_run n)) := by
  refine fn_good' Try.func124 (c := (Try.f124.body.getD .skip)) (by kernel_rfl) (by kernel_rfl) (by kernel_rfl) impl_small_C impl_small_M eqs impl_small_lps (fun n => tabC_good (List.forall_mem_cons.2 ⟨(impl_in_good n), (fun _ h => absurd h List.not_mem_nil)⟩)) eqs_ok impl_small_Lt ?_ ?_ impl_small_sh impl_small_run ?_
  · exact (fun _ h => absurd h List.not_mem_nil)
  · exact (fun _ h => absurd h List.not_mem_nil)
  · intro n p κ r ds hd hr
    have hr0 := hr
    unfold impl_small_run impl_small_runG at hr
    split at hr
    · rw [← ds_of hd]
      exact ⟨en_of (impl_small_en _ _) ⟨rfl, rfl⟩, (impl_small_ev n _ _ κ).trans hr0⟩
    · cases hr

/-! loop.example/g01297/impl.IsPolygon$1 -/
def impl_IsPolygon_1_sh : List SkD := [.agg [.int .i64, .int .i64]]
def impl_IsPolygon_1_runG {α : Type} (F : Nat → Int → Int → (Bool → Option α) → Option α) (n : Nat) (p : List P1) (κ : Res → Option α) : Option α := match p with
  | [.int a, .int a1] => F n a a1 (fun v1 => κ ⟨[.bool v1], []⟩)
  | _ => none
def impl_IsPolygon_1_run {α : Type} (n : Nat) (p : List P1) (κ : Res → Option α) : Option α := impl_IsPolygon_1_runG impl_IsPolygon_1 n p κ
def impl_IsPolygon_1_CG {α : Type} (F0 : Nat → Int → Int → (Bool → Option α) → Option α) (n : Nat) : FuncId → List D → (Res → Option α) → Option α := tabC [(124, (byShape impl_small_sh (impl_small_runG F0 n)))]
def impl_IsPolygon_1_C {α : Type} (n : Nat) : FuncId → List D → (Res → Option α) → Option α := impl_IsPolygon_1_CG impl_small n
def impl_IsPolygon_1_M : FuncId → List Nat := tabM []
def impl_IsPolygon_1_lpsG {α : Type}  : List (LoopT α) := []
def impl_IsPolygon_1_lps {α : Type} : List (LoopT α) := impl_IsPolygon_1_lpsG
def impl_IsPolygon_1_XG {α : Type} (F0 : Nat → Int → Int → (Bool → Option α) → Option α)  (n : Nat) : Ctx α := ⟨impl_IsPolygon_1_CG F0 n, impl_IsPolygon_1_M, eqs, lpOf (impl_IsPolygon_1_lpsG) n⟩
def impl_IsPolygon_1_X {α : Type} (n : Nat) : Ctx α := impl_IsPolygon_1_XG impl_small n
def impl_IsPolygon_1_Lt (np : Nat) (lent : List (Bool × Nat × Blk)) : Prop := np = 1 ∧ lent = []
def impl_IsPolygon_1_body {α : Type} (F0 : Nat → Int → Int → (Bool → Option α) → Option α)  (k : Nat) (a : Int) (a1 : Int) (r0 : Bool → Option α) : Option α :=
  F0 k a a1 fun v =>
  r0 (!v)
theorem impl_IsPolygon_1_gen {α : Type} (F0 : Nat → Int → Int → (Bool → Option α) → Option α)  (n : Nat) (a : Int) (a1 : Int) (κ : Res → Option α) : evFn Try.prog (impl_IsPolygon_1_XG F0 n) Try.f138 (((buildDs impl_IsPolygon_1_sh [.int a, .int a1]).map Prod.fst).getD []) κ = impl_IsPolygon_1_body F0 n a a1 (fun v1 => κ ⟨[.bool v1], []⟩) := by kernel_rfl
theorem impl_IsPolygon_1_ev {α : Type} (n : Nat) (a : Int) (a1 : Int) (κ : Res → Option α) : evFn Try.prog (impl_IsPolygon_1_X n) Try.f138 (((buildDs impl_IsPolygon_1_sh [.int a, .int a1]).map Prod.fst).getD []) κ = impl_IsPolygon_1_run n [.int a, .int a1] κ := (impl_IsPolygon_1_gen impl_small n a a1 κ).trans (by kernel_rfl)
theorem impl_IsPolygon_1_en (a : Int) (a1 : Int) : (entry 0 (((buildDs impl_IsPolygon_1_sh [.int a, .int a1]).map Prod.fst).getD [])).map (fun x => (x.1.length, x.2.lent)) = some (1, []) := by kernel_rfl
theorem impl_IsPolygon_1_good {α : Type} : ∀ n, GoodFn (α := α) Try.prog 138 (byShape impl_IsPolygon_1_sh (impl_IsPolygon_1_run n)) := by
  refine fn_good' Try.func138 (c := (Try.f138.body.getD .skip)) (by kernel_rfl) (by kernel_rfl) (by kernel_rfl) impl_IsPolygon_1_C impl_IsPolygon_1_M eqs impl_IsPolygon_1_lps (fun n => tabC_good (List.forall_mem_cons.2 ⟨(impl_small_good n), (fun _ h => absurd h List.not_mem_nil)⟩)) eqs_ok impl_IsPolygon_1_Lt ?_ ?_ impl_IsPolygon_1_sh impl_IsPolygon_1_run ?_
  · exact (fun _ h => absurd h List.not_mem_nil)
  · exact (fun _ h => absurd h List.not_mem_nil)
  · intro n p κ r ds hd hr
    have hr0 := hr
    unfold impl_IsPolygon_1_run impl_IsPolygon_1_runG at hr
    split at hr
    · rw [← ds_of hd]
      exact ⟨en_of (impl_IsPolygon_1_en _ _) ⟨rfl, rfl⟩, (impl_IsPolygon_1_ev n _ _ κ).trans hr0⟩
    · cases hr

/-! slices.IndexFunc[[]loop.example/g01297/impl.Point,loop.example/g01297/impl.Point] -/
def slices_IndexFunc_impl_Point_impl_Point_1F_impl_IsPolygon_1_sh : List SkD := [.sl 33 .pt, .fn 138 []]
def slices_IndexFunc_impl_Point_impl_Point_1F_impl_IsPolygon_1_runG {α : Type} (F : Nat → (List (Int × Int)) → (Int → Option α) → Option α) (n : Nat) (p : List P1) (κ : Res → Option α) : Option α := match p with
  | [.rows .pt s] => F n s (fun v1 => κ ⟨[.int .i64 v1], []⟩)
  | _ => none
def slices_IndexFunc_impl_Point_impl_Point_1F_impl_IsPolygon_1_run {α : Type} (n : Nat) (p : List P1) (κ : Res → Option α) : Option α := slices_IndexFunc_impl_Point_impl_Point_1F_impl_IsPolygon_1_runG slices_IndexFunc_impl_Point_impl_Point_1F_impl_IsPolygon_1 n p κ
def slices_IndexFunc_impl_Point_impl_Point_1F_impl_IsPolygon_1_CG {α : Type} (F0 : Nat → Int → Int → (Bool → Option α) → Option α) (n : Nat) : FuncId → List D → (Res → Option α) → Option α := tabC [(138, (byShape impl_IsPolygon_1_sh (impl_IsPolygon_1_runG F0 n)))]
def slices_IndexFunc_impl_Point_impl_Point_1F_impl_IsPolygon_1_C {α : Type} (n : Nat) : FuncId → List D → (Res → Option α) → Option α := slices_IndexFunc_impl_Point_impl_Point_1F_impl_IsPolygon_1_CG impl_IsPolygon_1 n
def slices_IndexFunc_impl_Point_impl_Point_1F_impl_IsPolygon_1_M : FuncId → List Nat := tabM []
def slices_IndexFunc_impl_Point_impl_Point_1F_impl_IsPolygon_1_t2 : Tpl := ⟨[.sl 0, .fn 138 [], .any, .any, .any, .any, .any, .int .i64, .int .i64, .any, .any, .any, .any, .any, .any, .any, .any, .any, .any], [(0, .rows 0 33 .pt)], []⟩
def slices_IndexFunc_impl_Point_impl_Point_1F_impl_IsPolygon_1_uG2 {α : Type} (G : Nat → Int → Int → (List (Int × Int)) → (Int → Int → (List (Int × Int)) → Option α) → (Int → Option α) → Option α) (n : Nat) (p : List P1) (brk : Nat → List P1 → Option α) (ret : Res → Option α) : Option α := match p with
  | [.int x, .int x1, .rows .pt s1] => G n x x1 s1 (fun x x1 s1 => brk 0 [.int x, .int x1, .rows .pt s1]) (fun v1 => ret ⟨[.int .i64 v1], []⟩)
  | _ => none
def slices_IndexFunc_impl_Point_impl_Point_1F_impl_IsPolygon_1_u2 {α : Type} (n : Nat) (p : List P1) (brk : Nat → List P1 → Option α) (ret : Res → Option α) : Option α := slices_IndexFunc_impl_Point_impl_Point_1F_impl_IsPolygon_1_uG2 slices_IndexFunc_impl_Point_impl_Point_1F_impl_IsPolygon_1_l2 n p brk ret
def slices_IndexFunc_impl_Point_impl_Point_1F_impl_IsPolygon_1_lpsG {α : Type} (G2 : Nat → Int → Int → (List (Int × Int)) → (Int → Int → (List (Int × Int)) → Option α) → (Int → Option α) → Option α) : List (LoopT α) := [⟨2, slices_IndexFunc_impl_Point_impl_Point_1F_impl_IsPolygon_1_t2, slices_IndexFunc_impl_Point_impl_Point_1F_impl_IsPolygon_1_uG2 G2⟩]
def slices_IndexFunc_impl_Point_impl_Point_1F_impl_IsPolygon_1_lps {α : Type} : List (LoopT α) := slices_IndexFunc_impl_Point_impl_Point_1F_impl_IsPolygon_1_lpsG slices_IndexFunc_impl_Point_impl_Point_1F_impl_IsPolygon_1_l2
def slices_IndexFunc_impl_Point_impl_Point_1F_impl_IsPolygon_1_XG {α : Type} (F0 : Nat → Int → Int → (Bool → Option α) → Option α) (G2 : Nat → Int → Int → (List (Int × Int)) → (Int → Int → (List (Int × Int)) → Option α) → (Int → Option α) → Option α) (n : Nat) : Ctx α := ⟨slices_IndexFunc_impl_Point_impl_Point_1F_impl_IsPolygon_1_CG F0 n, slices_IndexFunc_impl_Point_impl_Point_1F_impl_IsPolygon_1_M, eqs, lpOf (slices_IndexFunc_impl_Point_impl_Point_1F_impl_IsPolygon_1_lpsG G2) n⟩
def slices_IndexFunc_impl_Point_impl_Point_1F_impl_IsPolygon_1_X {α : Type} (n : Nat) : Ctx α := slices_IndexFunc_impl_Point_impl_Point_1F_impl_IsPolygon_1_XG impl_IsPolygon_1 slices_IndexFunc_impl_Point_impl_Point_1F_impl_IsPolygon_1_l2 n
def slices_IndexFunc_impl_Point_impl_Point_1F_impl_IsPolygon_1_Lt (np : Nat) (lent : List (Bool × Nat × Blk)) : Prop := np = 2 ∧ lent = []
def slices_IndexFunc_impl_Point_impl_Point_1F_impl_IsPolygon_1_lb2 {α : Type} (F0 : Nat → Int → Int → (Bool → Option α) → Option α) (G2 : Nat → Int → Int → (List (Int × Int)) → (Int → Int → (List (Int × Int)) → Option α) → (Int → Option α) → Option α) (k : Nat) (x : Int) (x1 : Int) (s1 : List (Int × Int)) (b0 : Int → Int → (List (Int × Int)) → Option α) (r0 : Int → Option α) : Option α :=
  bif decide (x1 < x) then
    bif (decide (0 ≤ x1) && decide (x1 < (((List.length s1) : Nat) : Int))) then
      (s1[x1.toNat]?).bind fun e_ =>
      F0 k e_.1 e_.2 fun v =>
      bif v then
        r0 x1
      else
        G2 k x (w64 (x1 + 1)) s1 b0 r0
    else
      none
  else
    b0 x x1 s1
theorem slices_IndexFunc_impl_Point_impl_Point_1F_impl_IsPolygon_1_l2_gen {α : Type} (F0 : Nat → Int → Int → (Bool → Option α) → Option α) (G2 : Nat → Int → Int → (List (Int × Int)) → (Int → Int → (List (Int × Int)) → Option α) → (Int → Option α) → Option α) (n : Nat) (x : Int) (x1 : Int) (s1 : List (Int × Int)) (brk : Nat → List P1 → Option α) (ret : Res → Option α) : ev ((slices_IndexFunc_impl_Point_impl_Point_1F_impl_IsPolygon_1_XG F0 G2 n).env Try.prog Try.f149 2 []) (findLoop (loopsIn (Try.f149.body.getD .skip)) 2) ((slices_IndexFunc_impl_Point_impl_Point_1F_impl_IsPolygon_1_t2.build [.int x, .int x1, .rows .pt s1]).getD ⟨[], []⟩) (roundK (2 * 64) slices_IndexFunc_impl_Point_impl_Point_1F_impl_IsPolygon_1_t2 (fun q => slices_IndexFunc_impl_Point_impl_Point_1F_impl_IsPolygon_1_uG2 G2 n q brk ret) brk ret) = slices_IndexFunc_impl_Point_impl_Point_1F_impl_IsPolygon_1_lb2 F0 G2 n x x1 s1 (fun x x1 s1 => brk 0 [.int x, .int x1, .rows .pt s1]) (fun v1 => ret ⟨[.int .i64 v1], []⟩) := by kernel_rfl
theorem slices_IndexFunc_impl_Point_impl_Point_1F_impl_IsPolygon_1_l2_ev {α : Type} (n : Nat) (x : Int) (x1 : Int) (s1 : List (Int × Int)) (brk : Nat → List P1 → Option α) (ret : Res → Option α) : ev ((slices_IndexFunc_impl_Point_impl_Point_1F_impl_IsPolygon_1_X n).env Try.prog Try.f149 2 []) (findLoop (loopsIn (Try.f149.body.getD .skip)) 2) ((slices_IndexFunc_impl_Point_impl_Point_1F_impl_IsPolygon_1_t2.build [.int x, .int x1, .rows .pt s1]).getD ⟨[], []⟩) (roundK (2 * 64) slices_IndexFunc_impl_Point_impl_Point_1F_impl_IsPolygon_1_t2 (fun q => slices_IndexFunc_impl_Point_impl_Point_1F_impl_IsPolygon_1_u2 n q brk ret) brk ret) = slices_IndexFunc_impl_Point_impl_Point_1F_impl_IsPolygon_1_u2 (n + 1) [.int x, .int x1, .rows .pt s1] brk ret := (slices_IndexFunc_impl_Point_impl_Point_1F_impl_IsPolygon_1_l2_gen impl_IsPolygon_1 slices_IndexFunc_impl_Point_impl_Point_1F_impl_IsPolygon_1_l2 n x x1 s1 brk ret).trans (by kernel_rfl)
def slices_IndexFunc_impl_Point_impl_Point_1F_impl_IsPolygon_1_body {α : Type} (F0 : Nat → Int → Int → (Bool → Option α) → Option α) (G2 : Nat → Int → Int → (List (Int × Int)) → (Int → Int → (List (Int × Int)) → Option α) → (Int → Option α) → Option α) (k : Nat) (s : List (Int × Int)) (r0 : Int → Option α) : Option α :=
  G2 k (((List.length s) : Nat) : Int) 0 s
    (fun x2 x3 s2 =>
      r0 (-1))
    r0
theorem slices_IndexFunc_impl_Point_impl_Point_1F_impl_IsPolygon_1_gen {α : Type} (F0 : Nat → Int → Int → (Bool → Option α) → Option α) (G2 : Nat → Int → Int → (List (Int × Int)) → (Int → Int → (List (Int × Int)) → Option α) → (Int → Option α) → Option α) (n : Nat) (s : List (Int × Int)) (κ : Res → Option α) : evFn Try.prog (slices_IndexFunc_impl_Point_impl_Point_1F_impl_IsPolygon_1_XG F0 G2 n) Try.f149 (((buildDs slices_IndexFunc_impl_Point_impl_Point_1F_impl_IsPolygon_1_sh [.rows .pt s]).map Prod.fst).getD []) κ = slices_IndexFunc_impl_Point_impl_Point_1F_impl_IsPolygon_1_body F0 G2 n s (fun v1 => κ ⟨[.int .i64 v1], []⟩) := by kernel_rfl
theorem slices_IndexFunc_impl_Point_impl_Point_1F_impl_IsPolygon_1_ev {α : Type} (n : Nat) (s : List (Int × Int)) (κ : Res → Option α) : evFn Try.prog (slices_IndexFunc_impl_Point_impl_Point_1F_impl_IsPolygon_1_X n) Try.f149 (((buildDs slices_IndexFunc_impl_Point_impl_Point_1F_impl_IsPolygon_1_sh [.rows .pt s]).map Prod.fst).getD []) κ = slices_IndexFunc_impl_Point_impl_Point_1F_impl_IsPolygon_1_run n [.rows .pt s] κ := (slices_IndexFunc_impl_Point_impl_Point_1F_impl_IsPolygon_1_gen impl_IsPolygon_1 slices_IndexFunc_impl_Point_impl_Point_1F_impl_IsPolygon_1_l2 n s κ).trans (by kernel_rfl)
theorem slices_IndexFunc_impl_Point_impl_Point_1F_impl_IsPolygon_1_en (s : List (Int × Int)) : (entry 0 (((buildDs slices_IndexFunc_impl_Point_impl_Point_1F_impl_IsPolygon_1_sh [.rows .pt s]).map Prod.fst).getD [])).map (fun x => (x.1.length, x.2.lent)) = some (2, []) := by kernel_rfl
theorem slices_IndexFunc_impl_Point_impl_Point_1F_impl_IsPolygon_1_good {α : Type} : ∀ n, GoodFn (α := α) Try.prog 149 (byShape slices_IndexFunc_impl_Point_impl_Point_1F_impl_IsPolygon_1_sh (slices_IndexFunc_impl_Point_impl_Point_1F_impl_IsPolygon_1_run n)) := by
  refine fn_good' Try.func149 (c := (Try.f149.body.getD .skip)) (by kernel_rfl) (by kernel_rfl) (by kernel_rfl) slices_IndexFunc_impl_Point_impl_Point_1F_impl_IsPolygon_1_C slices_IndexFunc_impl_Point_impl_Point_1F_impl_IsPolygon_1_M eqs slices_IndexFunc_impl_Point_impl_Point_1F_impl_IsPolygon_1_lps (fun n => tabC_good (List.forall_mem_cons.2 ⟨(impl_IsPolygon_1_good n), (fun _ h => absurd h List.not_mem_nil)⟩)) eqs_ok slices_IndexFunc_impl_Point_impl_Point_1F_impl_IsPolygon_1_Lt ?_ ?_ slices_IndexFunc_impl_Point_impl_Point_1F_impl_IsPolygon_1_sh slices_IndexFunc_impl_Point_impl_Point_1F_impl_IsPolygon_1_run ?_
  · refine List.forall_mem_cons.2 ⟨?_, (fun _ h => absurd h List.not_mem_nil)⟩
    · intro p brk ret; show slices_IndexFunc_impl_Point_impl_Point_1F_impl_IsPolygon_1_u2 0 p brk ret = none; unfold slices_IndexFunc_impl_Point_impl_Point_1F_impl_IsPolygon_1_u2 slices_IndexFunc_impl_Point_impl_Point_1F_impl_IsPolygon_1_uG2; split <;> rfl
  · refine List.forall_mem_cons.2 ⟨?_, (fun _ h => absurd h List.not_mem_nil)⟩
    · intro np lent hL n p brk ret st r hb hr
      obtain ⟨rfl, rfl⟩ := hL
      rw [← tpl_of hb]
      change slices_IndexFunc_impl_Point_impl_Point_1F_impl_IsPolygon_1_u2 (n + 1) p brk ret = some r at hr
      have hr0 := hr
      unfold slices_IndexFunc_impl_Point_impl_Point_1F_impl_IsPolygon_1_u2 slices_IndexFunc_impl_Point_impl_Point_1F_impl_IsPolygon_1_uG2 at hr
      split at hr
      · exact (slices_IndexFunc_impl_Point_impl_Point_1F_impl_IsPolygon_1_l2_ev n _ _ _ brk ret).trans hr0
      · cases hr
  · intro n p κ r ds hd hr
    have hr0 := hr
    unfold slices_IndexFunc_impl_Point_impl_Point_1F_impl_IsPolygon_1_run slices_IndexFunc_impl_Point_impl_Point_1F_impl_IsPolygon_1_runG at hr
    split at hr
    · rw [← ds_of hd]
      exact ⟨en_of (slices_IndexFunc_impl_Point_impl_Point_1F_impl_IsPolygon_1_en _) ⟨rfl, rfl⟩, (slices_IndexFunc_impl_Point_impl_Point_1F_impl_IsPolygon_1_ev n _ κ).trans hr0⟩
    · cases hr

/-! slices.ContainsFunc[[]loop.example/g01297/impl.Point,loop.example/g01297/impl.Point] -/
def slices_ContainsFunc_impl_Point_impl_Point_1F_impl_IsPolygon_1_sh : List SkD := [.sl 33 .pt, .fn 138 []]
def slices_ContainsFunc_impl_Point_impl_Point_1F_impl_IsPolygon_1_runG {α : Type} (F : Nat → (List (Int × Int)) → (Bool → Option α) → Option α) (n : Nat) (p : List P1) (κ : Res → Option α) : Option α := match p with
  | [.rows .pt s] => F n s (fun v1 => κ ⟨[.bool v1], []⟩)
  | _ => none
def slices_ContainsFunc_impl_Point_impl_Point_1F_impl_IsPolygon_1_run {α : Type} (n : Nat) (p : List P1) (κ : Res → Option α) : Option α := slices_ContainsFunc_impl_Point_impl_Point_1F_impl_IsPolygon_1_runG slices_ContainsFunc_impl_Point_impl_Point_1F_impl_IsPolygon_1 n p κ
def slices_ContainsFunc_impl_Point_impl_Point_1F_impl_IsPolygon_1_CG {α : Type} (F0 : Nat → (List (Int × Int)) → (Int → Option α) → Option α) (n : Nat) : FuncId → List D → (Res → Option α) → Option α := tabC [(149, (byShape slices_IndexFunc_impl_Point_impl_Point_1F_impl_IsPolygon_1_sh (slices_IndexFunc_impl_Point_impl_Point_1F_impl_IsPolygon_1_runG F0 n)))]
def slices_ContainsFunc_impl_Point_impl_Point_1F_impl_IsPolygon_1_C {α : Type} (n : Nat) : FuncId → List D → (Res → Option α) → Option α := slices_ContainsFunc_impl_Point_impl_Point_1F_impl_IsPolygon_1_CG slices_IndexFunc_impl_Point_impl_Point_1F_impl_IsPolygon_1 n
def slices_ContainsFunc_impl_Point_impl_Point_1F_impl_IsPolygon_1_M : FuncId → List Nat := tabM []
def slices_ContainsFunc_impl_Point_impl_Point_1F_impl_IsPolygon_1_lpsG {α : Type}  : List (LoopT α) := []
def slices_ContainsFunc_impl_Point_impl_Point_1F_impl_IsPolygon_1_lps {α : Type} : List (LoopT α) := slices_ContainsFunc_impl_Point_impl_Point_1F_impl_IsPolygon_1_lpsG
def slices_ContainsFunc_impl_Point_impl_Point_1F_impl_IsPolygon_1_XG {α : Type} (F0 : Nat → (List (Int × Int)) → (Int → Option α) → Option α)  (n : Nat) : Ctx α := ⟨slices_ContainsFunc_impl_Point_impl_Point_1F_impl_IsPolygon_1_CG F0 n, slices_ContainsFunc_impl_Point_impl_Point_1F_impl_IsPolygon_1_M, eqs, lpOf (slices_ContainsFunc_impl_Point_impl_Point_1F_impl_IsPolygon_1_lpsG) n⟩
def slices_ContainsFunc_impl_Point_impl_Point_1F_impl_IsPolygon_1_X {α : Type} (n : Nat) : Ctx α := slices_ContainsFunc_impl_Point_impl_Point_1F_impl_IsPolygon_1_XG slices_IndexFunc_impl_Point_impl_Point_1F_impl_IsPolygon_1 n
def slices_ContainsFunc_impl_Point_impl_Point_1F_impl_IsPolygon_1_Lt (np : Nat) (lent : List (Bool × Nat × Blk)) : Prop := np = 2 ∧ lent = []
def slices_ContainsFunc_impl_Point_impl_Point_1F_impl_IsPolygon_1_body {α : Type} (F0 : Nat → (List (Int × Int)) → (Int → Option α) → Option α)  (k : Nat) (s : List (Int × Int)) (r0 : Bool → Option α) : Option α :=
  F0 k s fun v =>
  r0 (decide (0 ≤ v))
theorem slices_ContainsFunc_impl_Point_impl_Point_1F_impl_IsPolygon_1_gen {α : Type} (F0 : Nat → (List (Int × Int)) → (Int → Option α) → Option α)  (n : Nat) (s : List (Int × Int)) (κ : Res → Option α) : evFn Try.prog (slices_ContainsFunc_impl_Point_impl_Point_1F_impl_IsPolygon_1_XG F0 n) Try.f137 (((buildDs slices_ContainsFunc_impl_Point_impl_Point_1F_impl_IsPolygon_1_sh [.rows .pt s]).map Prod.fst).getD []) κ = slices_ContainsFunc_impl_Point_impl_Point_1F_impl_IsPolygon_1_body F0 n s (fun v1 => κ ⟨[.bool v1], []⟩) := by kernel_rfl
theorem slices_ContainsFunc_impl_Point_impl_Point_1F_impl_IsPolygon_1_ev {α : Type} (n : Nat) (s : List (Int × Int)) (κ : Res → Option α) : evFn Try.prog (slices_ContainsFunc_impl_Point_impl_Point_1F_impl_IsPolygon_1_X n) Try.f137 (((buildDs slices_ContainsFunc_impl_Point_impl_Point_1F_impl_IsPolygon_1_sh [.rows .pt s]).map Prod.fst).getD []) κ = slices_ContainsFunc_impl_Point_impl_Point_1F_impl_IsPolygon_1_run n [.rows .pt s] κ := (slices_ContainsFunc_impl_Point_impl_Point_1F_impl_IsPolygon_1_gen slices_IndexFunc_impl_Point_impl_Point_1F_impl_IsPolygon_1 n s κ).trans (by kernel_rfl)
theorem slices_ContainsFunc_impl_Point_impl_Point_1F_impl_IsPolygon_1_en (s : List (Int × Int)) : (entry 0 (((buildDs slices_ContainsFunc_impl_Point_impl_Point_1F_impl_IsPolygon_1_sh [.rows .pt s]).map Prod.fst).getD [])).map (fun x => (x.1.length, x.2.lent)) = some (2, []) := by kernel_rfl
theorem slices_ContainsFunc_impl_Point_impl_Point_1F_impl_IsPolygon_1_good {α : Type} : ∀ n, GoodFn (α := α) Try.prog 137 (byShape slices_ContainsFunc_impl_Point_impl_Point_1F_impl_IsPolygon_1_sh (slices_ContainsFunc_impl_Point_impl_Point_1F_impl_IsPolygon_1_run n)) := by
  refine fn_good' Try.func137 (c := (Try.f137.body.getD .skip)) (by kernel_rfl) (by kernel_rfl) (by kernel_rfl) slices_ContainsFunc_impl_Point_impl_Point_1F_impl_IsPolygon_1_C slices_ContainsFunc_impl_Point_impl_Point_1F_impl_IsPolygon_1_M eqs slices_ContainsFunc_impl_Point_impl_Point_1F_impl_IsPolygon_1_lps (fun n => tabC_good (List.forall_mem_cons.2 ⟨(slices_IndexFunc_impl_Point_impl_Point_1F_impl_IsPolygon_1_good n), (fun _ h => absurd h List.not_mem_nil)⟩)) eqs_ok slices_ContainsFunc_impl_Point_impl_Point_1F_impl_IsPolygon_1_Lt ?_ ?_ slices_ContainsFunc_impl_Point_impl_Point_1F_impl_IsPolygon_1_sh slices_ContainsFunc_impl_Point_impl_Point_1F_impl_IsPolygon_1_run ?_
  · exact (fun _ h => absurd h List.not_mem_nil)
  · exact (fun _ h => absurd h List.not_mem_nil)
  · intro n p κ r ds hd hr
    have hr0 := hr
    unfold slices_ContainsFunc_impl_Point_impl_Point_1F_impl_IsPolygon_1_run slices_ContainsFunc_impl_Point_impl_Point_1F_impl_IsPolygon_1_runG at hr
    split at hr
    · rw [← ds_of hd]
      exact ⟨en_of (slices_ContainsFunc_impl_Point_impl_Point_1F_impl_IsPolygon_1_en _) ⟨rfl, rfl⟩, (slices_ContainsFunc_impl_Point_impl_Point_1F_impl_IsPolygon_1_ev n _ κ).trans hr0⟩
    · cases hr

/-! (loop.example/g01297/impl.polygon).next -/
def impl_polygon_next_sh : List SkD := [.sl 33 .pt, .int .i64]
def impl_polygon_next_runG {α : Type} (F : Nat → (List (Int × Int)) → Int → (Int → Int → Option α) → Option α) (n : Nat) (p : List P1) (κ : Res → Option α) : Option α := match p with
  | [.rows .pt p_, .int i] => F n p_ i (fun v1 v2 => κ ⟨[.agg [.int .i64 v1, .int .i64 v2]], []⟩)
  | _ => none
def impl_polygon_next_run {α : Type} (n : Nat) (p : List P1) (κ : Res → Option α) : Option α := impl_polygon_next_runG impl_polygon_next n p κ
def impl_polygon_next_CG {α : Type}  (n : Nat) : FuncId → List D → (Res → Option α) → Option α := tabC []
def impl_polygon_next_C {α : Type} (n : Nat) : FuncId → List D → (Res → Option α) → Option α := impl_polygon_next_CG n
def impl_polygon_next_M : FuncId → List Nat := tabM []
def impl_polygon_next_lpsG {α : Type}  : List (LoopT α) := []
def impl_polygon_next_lps {α : Type} : List (LoopT α) := impl_polygon_next_lpsG
def impl_polygon_next_XG {α : Type}   (n : Nat) : Ctx α := ⟨impl_polygon_next_CG n, impl_polygon_next_M, eqs, lpOf (impl_polygon_next_lpsG) n⟩
def impl_polygon_next_X {α : Type} (n : Nat) : Ctx α := impl_polygon_next_XG n
def impl_polygon_next_Lt (np : Nat) (lent : List (Bool × Nat × Blk)) : Prop := np = 2 ∧ lent = []
def impl_polygon_next_body {α : Type}   (k : Nat) (p_ : List (Int × Int)) (i : Int) (r0 : Int → Int → Option α) : Option α :=
  bif decide ((((List.length p_) : Nat) : Int) = 0) then
    none
  else
  bif (decide (0 ≤ (Int.tmod (w64 (i + 1)) (((List.length p_) : Nat) : Int))) && decide ((Int.tmod (w64 (i + 1)) (((List.length p_) : Nat) : Int)) < (((List.length p_) : Nat) : Int))) then
    (p_[(Int.tmod (w64 (i + 1)) (((List.length p_) : Nat) : Int)).toNat]?).bind fun e_ =>
    r0 e_.1 e_.2
  else
    none
theorem impl_polygon_next_gen {α : Type}   (n : Nat) (p_ : List (Int × Int)) (i : Int) (κ : Res → Option α) : evFn Try.prog (impl_polygon_next_XG n) Try.f142 (((buildDs impl_polygon_next_sh [.rows .pt p_, .int i]).map Prod.fst).getD []) κ = impl_polygon_next_body n p_ i (fun v1 v2 => κ ⟨[.agg [.int .i64 v1, .int .i64 v2]], []⟩) := by kernel_rfl
theorem impl_polygon_next_ev {α : Type} (n : Nat) (p_ : List (Int × Int)) (i : Int) (κ : Res → Option α) : evFn Try.prog (impl_polygon_next_X n) Try.f142 (((buildDs impl_polygon_next_sh [.rows .pt p_, .int i]).map Prod.fst).getD []) κ = impl_polygon_next_run n [.rows .pt p_, .int i] κ := (impl_polygon_next_gen n p_ i κ).trans (by kernel_rfl)
theorem impl_polygon_next_en (p_ : List (Int × Int)) (i : Int) : (entry 0 (((buildDs impl_polygon_next_sh [.rows .pt p_, .int i]).map Prod.fst).getD [])).map (fun x => (x.1.length, x.2.lent)) = some (2, []) := by kernel_rfl
theorem impl_polygon_next_good {α : Type} : ∀ n, GoodFn (α := α) Try.prog 142 (byShape impl_polygon_next_sh (impl_polygon_next_run n)) := by
  refine fn_good' Try.func142 (c := (Try.f142.body.getD .skip)) (by kernel_rfl) (by kernel_rfl) (by kernel_rfl) impl_polygon_next_C impl_polygon_next_M eqs impl_polygon_next_lps (fun n => tabC_good (fun _ h => absurd h List.not_mem_nil)) eqs_ok impl_polygon_next_Lt ?_ ?_ impl_polygon_next_sh impl_polygon_next_run ?_
  · exact (fun _ h => absurd h List.not_mem_nil)
  · exact (fun _ h => absurd h List.not_mem_nil)
  · intro n p κ r ds hd hr
    have hr0 := hr
    unfold impl_polygon_next_run impl_polygon_next_runG at hr
    split at hr
    · rw [← ds_of hd]
      exact ⟨en_of (impl_polygon_next_en _ _) ⟨rfl, rfl⟩, (impl_polygon_next_ev n _ _ κ).trans hr0⟩
    · cases hr

/-! (loop.example/g01297/impl.Point).plus -/
def impl_Point_plus_sh : List SkD := [.agg [.int .i64, .int .i64], .agg [.int .i64, .int .i64], .int .i64]
def impl_Point_plus_runG {α : Type} (F : Nat → Int → Int → Int → Int → Int → (Int → Int → Option α) → Option α) (n : Nat) (p : List P1) (κ : Res → Option α) : Option α := match p with
  | [.int a, .int a1, .int b_, .int b_1, .int k_] => F n a a1 b_ b_1 k_ (fun v1 v2 => κ ⟨[.agg [.int .i64 v1, .int .i64 v2]], []⟩)
  | _ => none
def impl_Point_plus_run {α : Type} (n : Nat) (p : List P1) (κ : Res → Option α) : Option α := impl_Point_plus_runG impl_Point_plus n p κ
def impl_Point_plus_CG {α : Type}  (n : Nat) : FuncId → List D → (Res → Option α) → Option α := tabC []
def impl_Point_plus_C {α : Type} (n : Nat) : FuncId → List D → (Res → Option α) → Option α := impl_Point_plus_CG n
def impl_Point_plus_M : FuncId → List Nat := tabM []
def impl_Point_plus_lpsG {α : Type}  : List (LoopT α) := []
def impl_Point_plus_lps {α : Type} : List (LoopT α) := impl_Point_plus_lpsG
def impl_Point_plus_XG {α : Type}   (n : Nat) : Ctx α := ⟨impl_Point_plus_CG n, impl_Point_plus_M, eqs, lpOf (impl_Point_plus_lpsG) n⟩
def impl_Point_plus_X {α : Type} (n : Nat) : Ctx α := impl_Point_plus_XG n
def impl_Point_plus_Lt (np : Nat) (lent : List (Bool × Nat × Blk)) : Prop := np = 3 ∧ lent = []
def impl_Point_plus_body {α : Type}   (k : Nat) (a : Int) (a1 : Int) (b_ : Int) (b_1 : Int) (k_ : Int) (r0 : Int → Int → Option α) : Option α :=
  r0 (w64 (a + (w64 (k_ * b_)))) (w64 (a1 + (w64 (k_ * b_1))))
theorem impl_Point_plus_gen {α : Type}   (n : Nat) (a : Int) (a1 : Int) (b_ : Int) (b_1 : Int) (k_ : Int) (κ : Res → Option α) : evFn Try.prog (impl_Point_plus_XG n) Try.f64 (((buildDs impl_Point_plus_sh [.int a, .int a1, .int b_, .int b_1, .int k_]).map Prod.fst).getD []) κ = impl_Point_plus_body n a a1 b_ b_1 k_ (fun v1 v2 => κ ⟨[.agg [.int .i64 v1, .int .i64 v2]], []⟩) := by kernel_rfl
theorem impl_Point_plus_ev {α : Type} (n : Nat) (a : Int) (a1 : Int) (b_ : Int) (b_1 : Int) (k_ : Int) (κ : Res → Option α) : evFn Try.prog (impl_Point_plus_X n) Try.f64 (((buildDs impl_Point_plus_sh [.int a, .int a1, .int b_, .int b_1, .int k_]).map Prod.fst).getD []) κ = impl_Point_plus_run n [.int a, .int a1, .int b_, .int b_1, .int k_] κ := (impl_Point_plus_gen n a a1 b_ b_1 k_ κ).trans (by kernel_rfl)
theorem impl_Point_plus_en (a : Int) (a1 : Int) (b_ : Int) (b_1 : Int) (k_ : Int) : (entry 0 (((buildDs impl_Point_plus_sh [.int a, .int a1, .int b_, .int b_1, .int k_]).map Prod.fst).getD [])).map (fun x => (x.1.length, x.2.lent)) = some (3, []) := by kernel_rfl
theorem impl_Point_plus_good {α : Type} : ∀ n, GoodFn (α := α) Try.prog 64 (byShape impl_Point_plus_sh (impl_Point_plus_run n)) := by
  refine fn_good' Try.func64 (c := (Try.f64.body.getD .skip)) (by kernel_rfl) (by kernel_rfl) (by kernel_rfl) impl_Point_plus_C impl_Point_plus_M eqs impl_Point_plus_lps (fun n => tabC_good (fun _ h => absurd h List.not_mem_nil)) eqs_ok impl_Point_plus_Lt ?_ ?_ impl_Point_plus_sh impl_Point_plus_run ?_
  · exact (fun _ h => absurd h List.not_mem_nil)
  · exact (fun _ h => absurd h List.not_mem_nil)
  · intro n p κ r ds hd hr
    have hr0 := hr
    unfold impl_Point_plus_run impl_Point_plus_runG at hr
    split at hr
    · rw [← ds_of hd]
      exact ⟨en_of (impl_Point_plus_en _ _ _ _ _) ⟨rfl, rfl⟩, (impl_Point_plus_ev n _ _ _ _ _ κ).trans hr0⟩
    · cases hr

/-! (loop.example/g01297/impl.Point).less -/
def impl_Point_less_sh : List SkD := [.agg [.int .i64, .int .i64], .agg [.int .i64, .int .i64]]
def impl_Point_less_runG {α : Type} (F : Nat → Int → Int → Int → Int → (Int → Int → Option α) → Option α) (n : Nat) (p : List P1) (κ : Res → Option α) : Option α := match p with
  | [.int a, .int a1, .int b_, .int b_1] => F n a a1 b_ b_1 (fun v1 v2 => κ ⟨[.agg [.int .i64 v1, .int .i64 v2]], []⟩)
  | _ => none
def impl_Point_less_run {α : Type} (n : Nat) (p : List P1) (κ : Res → Option α) : Option α := impl_Point_less_runG impl_Point_less n p κ
def impl_Point_less_CG {α : Type} (F0 : Nat → Int → Int → Int → Int → Int → (Int → Int → Option α) → Option α) (n : Nat) : FuncId → List D → (Res → Option α) → Option α := tabC [(64, (byShape impl_Point_plus_sh (impl_Point_plus_runG F0 n)))]
def impl_Point_less_C {α : Type} (n : Nat) : FuncId → List D → (Res → Option α) → Option α := impl_Point_less_CG impl_Point_plus n
def impl_Point_less_M : FuncId → List Nat := tabM []
def impl_Point_less_lpsG {α : Type}  : List (LoopT α) := []
def impl_Point_less_lps {α : Type} : List (LoopT α) := impl_Point_less_lpsG
def impl_Point_less_XG {α : Type} (F0 : Nat → Int → Int → Int → Int → Int → (Int → Int → Option α) → Option α)  (n : Nat) : Ctx α := ⟨impl_Point_less_CG F0 n, impl_Point_less_M, eqs, lpOf (impl_Point_less_lpsG) n⟩
def impl_Point_less_X {α : Type} (n : Nat) : Ctx α := impl_Point_less_XG impl_Point_plus n
def impl_Point_less_Lt (np : Nat) (lent : List (Bool × Nat × Blk)) : Prop := np = 2 ∧ lent = []
def impl_Point_less_body {α : Type} (F0 : Nat → Int → Int → Int → Int → Int → (Int → Int → Option α) → Option α)  (k : Nat) (a : Int) (a1 : Int) (b_ : Int) (b_1 : Int) (r0 : Int → Int → Option α) : Option α :=
  F0 k a a1 b_ b_1 (-1) fun v v1 =>
  r0 v v1
theorem impl_Point_less_gen {α : Type} (F0 : Nat → Int → Int → Int → Int → Int → (Int → Int → Option α) → Option α)  (n : Nat) (a : Int) (a1 : Int) (b_ : Int) (b_1 : Int) (κ : Res → Option α) : evFn Try.prog (impl_Point_less_XG F0 n) Try.f134 (((buildDs impl_Point_less_sh [.int a, .int a1, .int b_, .int b_1]).map Prod.fst).getD []) κ = impl_Point_less_body F0 n a a1 b_ b_1 (fun v1 v2 => κ ⟨[.agg [.int .i64 v1, .int .i64 v2]], []⟩) := by kernel_rfl
theorem impl_Point_less_ev {α : Type} (n : Nat) (a : Int) (a1 : Int) (b_ : Int) (b_1 : Int) (κ : Res → Option α) : evFn Try.prog (impl_Point_less_X n) Try.f134 (((buildDs impl_Point_less_sh [.int a, .int a1, .int b_, .int b_1]).map Prod.fst).getD []) κ = impl_Point_less_run n [.int a, .int a1, .int b_, .int b_1] κ := (impl_Point_less_gen impl_Point_plus n a a1 b_ b_1 κ).trans (by kernel_rfl)
theorem impl_Point_less_en (a : Int) (a1 : Int) (b_ : Int) (b_1 : Int) : (entry 0 (((buildDs impl_Point_less_sh [.int a, .int a1, .int b_, .int b_1]).map Prod.fst).getD [])).map (fun x => (x.1.length, x.2.lent)) = some (2, []) := by kernel_rfl
theorem impl_Point_less_good {α : Type} : ∀ n, GoodFn (α := α) Try.prog 134 (byShape impl_Point_less_sh (impl_Point_less_run n)) := by
  refine fn_good' Try.func134 (c := (Try.f134.body.getD .skip)) (by kernel_rfl) (by kernel_rfl) (by kernel_rfl) impl_Point_less_C impl_Point_less_M eqs impl_Point_less_lps (fun n => tabC_good (List.forall_mem_cons.2 ⟨(impl_Point_plus_good n), (fun _ h => absurd h List.not_mem_nil)⟩)) eqs_ok impl_Point_less_Lt ?_ ?_ impl_Point_less_sh impl_Point_less_run ?_
  · exact (fun _ h => absurd h List.not_mem_nil)
  · exact (fun _ h => absurd h List.not_mem_nil)
  · intro n p κ r ds hd hr
    have hr0 := hr
    unfold impl_Point_less_run impl_Point_less_runG at hr
    split at hr
    · rw [← ds_of hd]
      exact ⟨en_of (impl_Point_less_en _ _ _ _) ⟨rfl, rfl⟩, (impl_Point_less_ev n _ _ _ _ κ).trans hr0⟩
    · cases hr

/-! loop.example/g01297/impl.det -/
def impl_det_sh : List SkD := [.agg [.int .i64, .int .i64], .agg [.int .i64, .int .i64]]
def impl_det_runG {α : Type} (F : Nat → Int → Int → Int → Int → (Int → Option α) → Option α) (n : Nat) (p : List P1) (κ : Res → Option α) : Option α := match p with
  | [.int a, .int a1, .int b_, .int b_1] => F n a a1 b_ b_1 (fun v1 => κ ⟨[.int .i64 v1], []⟩)
  | _ => none
def impl_det_run {α : Type} (n : Nat) (p : List P1) (κ : Res → Option α) : Option α := impl_det_runG impl_det n p κ
def impl_det_CG {α : Type}  (n : Nat) : FuncId → List D → (Res → Option α) → Option α := tabC []
def impl_det_C {α : Type} (n : Nat) : FuncId → List D → (Res → Option α) → Option α := impl_det_CG n
def impl_det_M : FuncId → List Nat := tabM []
def impl_det_lpsG {α : Type}  : List (LoopT α) := []
def impl_det_lps {α : Type} : List (LoopT α) := impl_det_lpsG
def impl_det_XG {α : Type}   (n : Nat) : Ctx α := ⟨impl_det_CG n, impl_det_M, eqs, lpOf (impl_det_lpsG) n⟩
def impl_det_X {α : Type} (n : Nat) : Ctx α := impl_det_XG n
def impl_det_Lt (np : Nat) (lent : List (Bool × Nat × Blk)) : Prop := np = 2 ∧ lent = []
def impl_det_body {α : Type}   (k : Nat) (a : Int) (a1 : Int) (b_ : Int) (b_1 : Int) (r0 : Int → Option α) : Option α :=
  r0 (w64 ((w64 (a * b_1)) - (w64 (a1 * b_))))
theorem impl_det_gen {α : Type}   (n : Nat) (a : Int) (a1 : Int) (b_ : Int) (b_1 : Int) (κ : Res → Option α) : evFn Try.prog (impl_det_XG n) Try.f115 (((buildDs impl_det_sh [.int a, .int a1, .int b_, .int b_1]).map Prod.fst).getD []) κ = impl_det_body n a a1 b_ b_1 (fun v1 => κ ⟨[.int .i64 v1], []⟩) := by kernel_rfl
theorem impl_det_ev {α : Type} (n : Nat) (a : Int) (a1 : Int) (b_ : Int) (b_1 : Int) (κ : Res → Option α) : evFn Try.prog (impl_det_X n) Try.f115 (((buildDs impl_det_sh [.int a, .int a1, .int b_, .int b_1]).map Prod.fst).getD []) κ = impl_det_run n [.int a, .int a1, .int b_, .int b_1] κ := (impl_det_gen n a a1 b_ b_1 κ).trans (by kernel_rfl)
theorem impl_det_en (a : Int) (a1 : Int) (b_ : Int) (b_1 : Int) : (entry 0 (((buildDs impl_det_sh [.int a, .int a1, .int b_, .int b_1]).map Prod.fst).getD [])).map (fun x => (x.1.length, x.2.lent)) = some (2, []) := by kernel_rfl
theorem impl_det_good {α : Type} : ∀ n, GoodFn (α := α) Try.prog 115 (byShape impl_det_sh (impl_det_run n)) := by
  refine fn_good' Try.func115 (c := (Try.f115.body.getD .skip)) (by kernel_rfl) (by kernel_rfl) (by kernel_rfl) impl_det_C impl_det_M eqs impl_det_lps (fun n => tabC_good (fun _ h => absurd h List.not_mem_nil)) eqs_ok impl_det_Lt ?_ ?_ impl_det_sh impl_det_run ?_
  · exact (fun _ h => absurd h List.not_mem_nil)
  · exact (fun _ h => absurd h List.not_mem_nil)
  · intro n p κ r ds hd hr
    have hr0 := hr
    unfold impl_det_run impl_det_runG at hr
    split at hr
    · rw [← ds_of hd]
      exact ⟨en_of (impl_det_en _ _ _ _) ⟨rfl, rfl⟩, (impl_det_ev n _ _ _ _ κ).trans hr0⟩
    · cases hr

/-! loop.example/g01297/impl.turn -/
def impl_turn_sh : List SkD := [.agg [.int .i64, .int .i64], .agg [.int .i64, .int .i64], .agg [.int .i64, .int .i64]]
def impl_turn_runG {α : Type} (F : Nat → Int → Int → Int → Int → Int → Int → (Int → Option α) → Option α) (n : Nat) (p : List P1) (κ : Res → Option α) : Option α := match p with
  | [.int a, .int a1, .int b_, .int b_1, .int c, .int c1] => F n a a1 b_ b_1 c c1 (fun v1 => κ ⟨[.int .i64 v1], []⟩)
  | _ => none
def impl_turn_run {α : Type} (n : Nat) (p : List P1) (κ : Res → Option α) : Option α := impl_turn_runG impl_turn n p κ
def impl_turn_CG {α : Type} (F0 : Nat → Int → Int → Int → Int → (Int → Int → Option α) → Option α) (F1 : Nat → Int → Int → Int → Int → (Int → Option α) → Option α) (n : Nat) : FuncId → List D → (Res → Option α) → Option α := tabC [(134, (byShape impl_Point_less_sh (impl_Point_less_runG F0 n))), (115, (byShape impl_det_sh (impl_det_runG F1 n)))]
def impl_turn_C {α : Type} (n : Nat) : FuncId → List D → (Res → Option α) → Option α := impl_turn_CG impl_Point_less impl_det n
def impl_turn_M : FuncId → List Nat := tabM []
def impl_turn_lpsG {α : Type}  : List (LoopT α) := []
def impl_turn_lps {α : Type} : List (LoopT α) := impl_turn_lpsG
def impl_turn_XG {α : Type} (F0 : Nat → Int → Int → Int → Int → (Int → Int → Option α) → Option α) (F1 : Nat → Int → Int → Int → Int → (Int → Option α) → Option α)  (n : Nat) : Ctx α := ⟨impl_turn_CG F0 F1 n, impl_turn_M, eqs, lpOf (impl_turn_lpsG) n⟩
def impl_turn_X {α : Type} (n : Nat) : Ctx α := impl_turn_XG impl_Point_less impl_det n
def impl_turn_Lt (np : Nat) (lent : List (Bool × Nat × Blk)) : Prop := np = 3 ∧ lent = []
def impl_turn_body {α : Type} (F0 : Nat → Int → Int → Int → Int → (Int → Int → Option α) → Option α) (F1 : Nat → Int → Int → Int → Int → (Int → Option α) → Option α)  (k : Nat) (a : Int) (a1 : Int) (b_ : Int) (b_1 : Int) (c : Int) (c1 : Int) (r0 : Int → Option α) : Option α :=
  F0 k b_ b_1 a a1 fun v v1 =>
  F0 k c c1 b_ b_1 fun v2 v3 =>
  F1 k v v1 v2 v3 fun v4 =>
  r0 v4
theorem impl_turn_gen {α : Type} (F0 : Nat → Int → Int → Int → Int → (Int → Int → Option α) → Option α) (F1 : Nat → Int → Int → Int → Int → (Int → Option α) → Option α)  (n : Nat) (a : Int) (a1 : Int) (b_ : Int) (b_1 : Int) (c : Int) (c1 : Int) (κ : Res → Option α) : evFn Try.prog (impl_turn_XG F0 F1 n) Try.f141 (((buildDs impl_turn_sh [.int a, .int a1, .int b_, .int b_1, .int c, .int c1]).map Prod.fst).getD []) κ = impl_turn_body F0 F1 n a a1 b_ b_1 c c1 (fun v1 => κ ⟨[.int .i64 v1], []⟩) := by kernel_rfl
theorem impl_turn_ev {α : Type} (n : Nat) (a : Int) (a1 : Int) (b_ : Int) (b_1 : Int) (c : Int) (c1 : Int) (κ : Res → Option α) : evFn Try.prog (impl_turn_X n) Try.f141 (((buildDs impl_turn_sh [.int a, .int a1, .int b_, .int b_1, .int c, .int c1]).map Prod.fst).getD []) κ = impl_turn_run n [.int a, .int a1, .int b_, .int b_1, .int c, .int c1] κ := (impl_turn_gen impl_Point_less impl_det n a a1 b_ b_1 c c1 κ).trans (by kernel_rfl)
theorem impl_turn_en (a : Int) (a1 : Int) (b_ : Int) (b_1 : Int) (c : Int) (c1 : Int) : (entry 0 (((buildDs impl_turn_sh [.int a, .int a1, .int b_, .int b_1, .int c, .int c1]).map Prod.fst).getD [])).map (fun x => (x.1.length, x.2.lent)) = some (3, []) := by kernel_rfl
theorem impl_turn_good {α : Type} : ∀ n, GoodFn (α := α) Try.prog 141 (byShape impl_turn_sh (impl_turn_run n)) := by
  refine fn_good' Try.func141 (c := (Try.f141.body.getD .skip)) (by kernel_rfl) (by kernel_rfl) (by kernel_rfl) impl_turn_C impl_turn_M eqs impl_turn_lps (fun n => tabC_good (List.forall_mem_cons.2 ⟨(impl_Point_less_good n), (List.forall_mem_cons.2 ⟨(impl_det_good n), (fun _ h => absurd h List.not_mem_nil)⟩)⟩)) eqs_ok impl_turn_Lt ?_ ?_ impl_turn_sh impl_turn_run ?_
  · exact (fun _ h => absurd h List.not_mem_nil)
  · exact (fun _ h => absurd h List.not_mem_nil)
  · intro n p κ r ds hd hr
    have hr0 := hr
    unfold impl_turn_run impl_turn_runG at hr
    split at hr
    · rw [← ds_of hd]
      exact ⟨en_of (impl_turn_en _ _ _ _ _ _) ⟨rfl, rfl⟩, (impl_turn_ev n _ _ _ _ _ _ κ).trans hr0⟩
    · cases hr

/-! (loop.example/g01297/impl.polygon).convex -/
def impl_polygon_convex_sh : List SkD := [.sl 33 .pt]
def impl_polygon_convex_runG {α : Type} (F : Nat → (List (Int × Int)) → (Bool → Option α) → Option α) (n : Nat) (p : List P1) (κ : Res → Option α) : Option α := match p with
  | [.rows .pt p_] => F n p_ (fun v1 => κ ⟨[.bool v1], []⟩)
  | _ => none
def impl_polygon_convex_run {α : Type} (n : Nat) (p : List P1) (κ : Res → Option α) : Option α := impl_polygon_convex_runG impl_polygon_convex n p κ
def impl_polygon_convex_CG {α : Type} (F0 : Nat → (List (Int × Int)) → Int → (Int → Int → Option α) → Option α) (F1 : Nat → Int → Int → Int → Int → Int → Int → (Int → Option α) → Option α) (n : Nat) : FuncId → List D → (Res → Option α) → Option α := tabC [(142, (byShape impl_polygon_next_sh (impl_polygon_next_runG F0 n))), (141, (byShape impl_turn_sh (impl_turn_runG F1 n)))]
def impl_polygon_convex_C {α : Type} (n : Nat) : FuncId → List D → (Res → Option α) → Option α := impl_polygon_convex_CG impl_polygon_next impl_turn n
def impl_polygon_convex_M : FuncId → List Nat := tabM []
def impl_polygon_convex_t6 : Tpl := ⟨[.sl 0, .any, .any, .int .i64, .ptr 256 0 0, .ptr 320 0 0, .any, .any, .sl 0, .int .i64, .int .i64, .any, .any, .any, .any, .any, .any, .any, .sl 0, .int .i64, .int .i64, .any, .any, .any, .any, .any, .any, .any, .any, .any, .any, .any, .any, .any, .any, .any, .any, .any, .any, .any, .any, .any, .any, .any, .any, .any], [(0, .rows 0 33 .pt), (256, .ints 2 33 .i64 2), (320, .ints 2 33 .i64 2)], []⟩
def impl_polygon_convex_uG6 {α : Type} (G : Nat → Int → Int → Int → Int → Int → (List (Int × Int)) → Int → Int → Int → Int → (Int → Int → Int → Int → Int → (List (Int × Int)) → Int → Int → Int → Int → Option α) → (Bool → Option α) → Option α) (n : Nat) (p : List P1) (brk : Nat → List P1 → Option α) (ret : Res → Option α) : Option α := match p with
  | [.int i, .int x2, .int x3, .int x4, .int x5, .rows .pt p_2, .int a, .int a1, .int b_, .int b_1] => G n i x2 x3 x4 x5 p_2 a a1 b_ b_1 (fun i x2 x3 x4 x5 p_2 a a1 b_ b_1 => brk 2 [.int i, .int x2, .int x3, .int x4, .int x5, .rows .pt p_2, .int a, .int a1, .int b_, .int b_1]) (fun v1 => ret ⟨[.bool v1], []⟩)
  | _ => none
def impl_polygon_convex_u6 {α : Type} (n : Nat) (p : List P1) (brk : Nat → List P1 → Option α) (ret : Res → Option α) : Option α := impl_polygon_convex_uG6 impl_polygon_convex_l6 n p brk ret
def impl_polygon_convex_t2 : Tpl := ⟨[.sl 0, .any, .any, .any, .any, .any, .any, .any, .sl 0, .int .i64, .int .i64, .any, .any, .any, .any, .any, .any, .any, .any, .any, .any, .any, .any, .any, .any, .any, .any, .any, .any, .any, .any, .any, .any, .any, .any, .any, .any, .any, .any, .any, .any, .any, .any, .any, .any, .any], [(0, .rows 0 33 .pt)], []⟩
def impl_polygon_convex_uG2 {α : Type} (G : Nat → Int → Int → (List (Int × Int)) → (Int → Int → (List (Int × Int)) → Option α) → (Bool → Option α) → Option α) (n : Nat) (p : List P1) (brk : Nat → List P1 → Option α) (ret : Res → Option α) : Option α := match p with
  | [.int x, .int x1, .rows .pt p_1] => G n x x1 p_1 (fun x x1 p_1 => brk 0 [.int x, .int x1, .rows .pt p_1]) (fun v1 => ret ⟨[.bool v1], []⟩)
  | _ => none
def impl_polygon_convex_u2 {α : Type} (n : Nat) (p : List P1) (brk : Nat → List P1 → Option α) (ret : Res → Option α) : Option α := impl_polygon_convex_uG2 impl_polygon_convex_l2 n p brk ret
def impl_polygon_convex_lpsG {α : Type} (G6 : Nat → Int → Int → Int → Int → Int → (List (Int × Int)) → Int → Int → Int → Int → (Int → Int → Int → Int → Int → (List (Int × Int)) → Int → Int → Int → Int → Option α) → (Bool → Option α) → Option α) (G2 : Nat → Int → Int → (List (Int × Int)) → (Int → Int → (List (Int × Int)) → Option α) → (Bool → Option α) → Option α) : List (LoopT α) := [⟨6, impl_polygon_convex_t6, impl_polygon_convex_uG6 G6⟩, ⟨2, impl_polygon_convex_t2, impl_polygon_convex_uG2 G2⟩]
def impl_polygon_convex_lps {α : Type} : List (LoopT α) := impl_polygon_convex_lpsG impl_polygon_convex_l6 impl_polygon_convex_l2
def impl_polygon_convex_XG {α : Type} (F0 : Nat → (List (Int × Int)) → Int → (Int → Int → Option α) → Option α) (F1 : Nat → Int → Int → Int → Int → Int → Int → (Int → Option α) → Option α) (G6 : Nat → Int → Int → Int → Int → Int → (List (Int × Int)) → Int → Int → Int → Int → (Int → Int → Int → Int → Int → (List (Int × Int)) → Int → Int → Int → Int → Option α) → (Bool → Option α) → Option α) (G2 : Nat → Int → Int → (List (Int × Int)) → (Int → Int → (List (Int × Int)) → Option α) → (Bool → Option α) → Option α) (n : Nat) : Ctx α := ⟨impl_polygon_convex_CG F0 F1 n, impl_polygon_convex_M, eqs, lpOf (impl_polygon_convex_lpsG G6 G2) n⟩
def impl_polygon_convex_X {α : Type} (n : Nat) : Ctx α := impl_polygon_convex_XG impl_polygon_next impl_turn impl_polygon_convex_l6 impl_polygon_convex_l2 n
def impl_polygon_convex_Lt (np : Nat) (lent : List (Bool × Nat × Blk)) : Prop := np = 1 ∧ lent = []
def impl_polygon_convex_lb6 {α : Type} (F0 : Nat → (List (Int × Int)) → Int → (Int → Int → Option α) → Option α) (F1 : Nat → Int → Int → Int → Int → Int → Int → (Int → Option α) → Option α) (G6 : Nat → Int → Int → Int → Int → Int → (List (Int × Int)) → Int → Int → Int → Int → (Int → Int → Int → Int → Int → (List (Int × Int)) → Int → Int → Int → Int → Option α) → (Bool → Option α) → Option α) (G2 : Nat → Int → Int → (List (Int × Int)) → (Int → Int → (List (Int × Int)) → Option α) → (Bool → Option α) → Option α) (k : Nat) (i : Int) (x2 : Int) (x3 : Int) (x4 : Int) (x5 : Int) (p_2 : List (Int × Int)) (a : Int) (a1 : Int) (b_ : Int) (b_1 : Int) (b2 : Int → Int → Int → Int → Int → (List (Int × Int)) → Int → Int → Int → Int → Option α) (r0 : Bool → Option α) : Option α :=
  bif decide (x5 < x4) then
    bif (decide (0 ≤ x5) && decide (x5 < (((List.length p_2) : Nat) : Int))) then
      (p_2[x5.toNat]?).bind fun e_1 =>
      bif (!decide (x5 = i)) then
        bif decide ((((List.length p_2) : Nat) : Int) = 0) then
          none
        else
        bif (!decide (x5 = (Int.tmod (w64 (i + 1)) (((List.length p_2) : Nat) : Int)))) then
          F1 k a a1 b_ b_1 e_1.1 e_1.2 fun v2 =>
          bif decide (v2 ≤ 0) then
            r0 false
          else
            G6 k i x2 x3 x4 (w64 (x5 + 1)) p_2 a a1 b_ b_1 b2 r0
        else
          G6 k i x2 x3 x4 (w64 (x5 + 1)) p_2 a a1 b_ b_1 b2 r0
      else
        G6 k i x2 x3 x4 (w64 (x5 + 1)) p_2 a a1 b_ b_1 b2 r0
    else
      none
  else
    b2 i x2 x3 x4 x5 p_2 a a1 b_ b_1
theorem impl_polygon_convex_l6_gen {α : Type} (F0 : Nat → (List (Int × Int)) → Int → (Int → Int → Option α) → Option α) (F1 : Nat → Int → Int → Int → Int → Int → Int → (Int → Option α) → Option α) (G6 : Nat → Int → Int → Int → Int → Int → (List (Int × Int)) → Int → Int → Int → Int → (Int → Int → Int → Int → Int → (List (Int × Int)) → Int → Int → Int → Int → Option α) → (Bool → Option α) → Option α) (G2 : Nat → Int → Int → (List (Int × Int)) → (Int → Int → (List (Int × Int)) → Option α) → (Bool → Option α) → Option α) (n : Nat) (i : Int) (x2 : Int) (x3 : Int) (x4 : Int) (x5 : Int) (p_2 : List (Int × Int)) (a : Int) (a1 : Int) (b_ : Int) (b_1 : Int) (brk : Nat → List P1 → Option α) (ret : Res → Option α) : ev ((impl_polygon_convex_XG F0 F1 G6 G2 n).env Try.prog Try.f139 1 []) (findLoop (loopsIn (Try.f139.body.getD .skip)) 6) ((impl_polygon_convex_t6.build [.int i, .int x2, .int x3, .int x4, .int x5, .rows .pt p_2, .int a, .int a1, .int b_, .int b_1]).getD ⟨[], []⟩) (roundK (1 * 64) impl_polygon_convex_t6 (fun q => impl_polygon_convex_uG6 G6 n q brk ret) brk ret) = impl_polygon_convex_lb6 F0 F1 G6 G2 n i x2 x3 x4 x5 p_2 a a1 b_ b_1 (fun i x2 x3 x4 x5 p_2 a a1 b_ b_1 => brk 2 [.int i, .int x2, .int x3, .int x4, .int x5, .rows .pt p_2, .int a, .int a1, .int b_, .int b_1]) (fun v1 => ret ⟨[.bool v1], []⟩) := by kernel_rfl
theorem impl_polygon_convex_l6_ev {α : Type} (n : Nat) (i : Int) (x2 : Int) (x3 : Int) (x4 : Int) (x5 : Int) (p_2 : List (Int × Int)) (a : Int) (a1 : Int) (b_ : Int) (b_1 : Int) (brk : Nat → List P1 → Option α) (ret : Res → Option α) : ev ((impl_polygon_convex_X n).env Try.prog Try.f139 1 []) (findLoop (loopsIn (Try.f139.body.getD .skip)) 6) ((impl_polygon_convex_t6.build [.int i, .int x2, .int x3, .int x4, .int x5, .rows .pt p_2, .int a, .int a1, .int b_, .int b_1]).getD ⟨[], []⟩) (roundK (1 * 64) impl_polygon_convex_t6 (fun q => impl_polygon_convex_u6 n q brk ret) brk ret) = impl_polygon_convex_u6 (n + 1) [.int i, .int x2, .int x3, .int x4, .int x5, .rows .pt p_2, .int a, .int a1, .int b_, .int b_1] brk ret := (impl_polygon_convex_l6_gen impl_polygon_next impl_turn impl_polygon_convex_l6 impl_polygon_convex_l2 n i x2 x3 x4 x5 p_2 a a1 b_ b_1 brk ret).trans (by kernel_rfl)
def impl_polygon_convex_lb2 {α : Type} (F0 : Nat → (List (Int × Int)) → Int → (Int → Int → Option α) → Option α) (F1 : Nat → Int → Int → Int → Int → Int → Int → (Int → Option α) → Option α) (G6 : Nat → Int → Int → Int → Int → Int → (List (Int × Int)) → Int → Int → Int → Int → (Int → Int → Int → Int → Int → (List (Int × Int)) → Int → Int → Int → Int → Option α) → (Bool → Option α) → Option α) (G2 : Nat → Int → Int → (List (Int × Int)) → (Int → Int → (List (Int × Int)) → Option α) → (Bool → Option α) → Option α) (k : Nat) (x : Int) (x1 : Int) (p_1 : List (Int × Int)) (b0 : Int → Int → (List (Int × Int)) → Option α) (r0 : Bool → Option α) : Option α :=
  bif decide (x1 < x) then
    bif (decide (0 ≤ x1) && decide (x1 < (((List.length p_1) : Nat) : Int))) then
      (p_1[x1.toNat]?).bind fun e_ =>
      F0 k p_1 x1 fun v v1 =>
      G6 k x1 x x1 (((List.length p_1) : Nat) : Int) 0 p_1 e_.1 e_.2 v v1
        (fun i1 x6 x7 x8 x9 p_3 a2 a3 b_2 b_3 =>
          G2 k x6 (w64 (x7 + 1)) p_3 b0 r0)
        r0
    else
      none
  else
    b0 x x1 p_1
theorem impl_polygon_convex_l2_gen {α : Type} (F0 : Nat → (List (Int × Int)) → Int → (Int → Int → Option α) → Option α) (F1 : Nat → Int → Int → Int → Int → Int → Int → (Int → Option α) → Option α) (G6 : Nat → Int → Int → Int → Int → Int → (List (Int × Int)) → Int → Int → Int → Int → (Int → Int → Int → Int → Int → (List (Int × Int)) → Int → Int → Int → Int → Option α) → (Bool → Option α) → Option α) (G2 : Nat → Int → Int → (List (Int × Int)) → (Int → Int → (List (Int × Int)) → Option α) → (Bool → Option α) → Option α) (n : Nat) (x : Int) (x1 : Int) (p_1 : List (Int × Int)) (brk : Nat → List P1 → Option α) (ret : Res → Option α) : ev ((impl_polygon_convex_XG F0 F1 G6 G2 n).env Try.prog Try.f139 1 []) (findLoop (loopsIn (Try.f139.body.getD .skip)) 2) ((impl_polygon_convex_t2.build [.int x, .int x1, .rows .pt p_1]).getD ⟨[], []⟩) (roundK (1 * 64) impl_polygon_convex_t2 (fun q => impl_polygon_convex_uG2 G2 n q brk ret) brk ret) = impl_polygon_convex_lb2 F0 F1 G6 G2 n x x1 p_1 (fun x x1 p_1 => brk 0 [.int x, .int x1, .rows .pt p_1]) (fun v1 => ret ⟨[.bool v1], []⟩) := by kernel_rfl
theorem impl_polygon_convex_l2_ev {α : Type} (n : Nat) (x : Int) (x1 : Int) (p_1 : List (Int × Int)) (brk : Nat → List P1 → Option α) (ret : Res → Option α) : ev ((impl_polygon_convex_X n).env Try.prog Try.f139 1 []) (findLoop (loopsIn (Try.f139.body.getD .skip)) 2) ((impl_polygon_convex_t2.build [.int x, .int x1, .rows .pt p_1]).getD ⟨[], []⟩) (roundK (1 * 64) impl_polygon_convex_t2 (fun q => impl_polygon_convex_u2 n q brk ret) brk ret) = impl_polygon_convex_u2 (n + 1) [.int x, .int x1, .rows .pt p_1] brk ret := (impl_polygon_convex_l2_gen impl_polygon_next impl_turn impl_polygon_convex_l6 impl_polygon_convex_l2 n x x1 p_1 brk ret).trans (by kernel_rfl)
def impl_polygon_convex_body {α : Type} (F0 : Nat → (List (Int × Int)) → Int → (Int → Int → Option α) → Option α) (F1 : Nat → Int → Int → Int → Int → Int → Int → (Int → Option α) → Option α) (G6 : Nat → Int → Int → Int → Int → Int → (List (Int × Int)) → Int → Int → Int → Int → (Int → Int → Int → Int → Int → (List (Int × Int)) → Int → Int → Int → Int → Option α) → (Bool → Option α) → Option α) (G2 : Nat → Int → Int → (List (Int × Int)) → (Int → Int → (List (Int × Int)) → Option α) → (Bool → Option α) → Option α) (k : Nat) (p_ : List (Int × Int)) (r0 : Bool → Option α) : Option α :=
  G2 k (((List.length p_) : Nat) : Int) 0 p_
    (fun x10 x11 p_4 =>
      r0 true)
    r0
theorem impl_polygon_convex_gen {α : Type} (F0 : Nat → (List (Int × Int)) → Int → (Int → Int → Option α) → Option α) (F1 : Nat → Int → Int → Int → Int → Int → Int → (Int → Option α) → Option α) (G6 : Nat → Int → Int → Int → Int → Int → (List (Int × Int)) → Int → Int → Int → Int → (Int → Int → Int → Int → Int → (List (Int × Int)) → Int → Int → Int → Int → Option α) → (Bool → Option α) → Option α) (G2 : Nat → Int → Int → (List (Int × Int)) → (Int → Int → (List (Int × Int)) → Option α) → (Bool → Option α) → Option α) (n : Nat) (p_ : List (Int × Int)) (κ : Res → Option α) : evFn Try.prog (impl_polygon_convex_XG F0 F1 G6 G2 n) Try.f139 (((buildDs impl_polygon_convex_sh [.rows .pt p_]).map Prod.fst).getD []) κ = impl_polygon_convex_body F0 F1 G6 G2 n p_ (fun v1 => κ ⟨[.bool v1], []⟩) := by kernel_rfl
theorem impl_polygon_convex_ev {α : Type} (n : Nat) (p_ : List (Int × Int)) (κ : Res → Option α) : evFn Try.prog (impl_polygon_convex_X n) Try.f139 (((buildDs impl_polygon_convex_sh [.rows .pt p_]).map Prod.fst).getD []) κ = impl_polygon_convex_run n [.rows .pt p_] κ := (impl_polygon_convex_gen impl_polygon_next impl_turn impl_polygon_convex_l6 impl_polygon_convex_l2 n p_ κ).trans (by kernel_rfl)
theorem impl_polygon_convex_en (p_ : List (Int × Int)) : (entry 0 (((buildDs impl_polygon_convex_sh [.rows .pt p_]).map Prod.fst).getD [])).map (fun x => (x.1.length, x.2.lent)) = some (1, []) := by kernel_rfl
theorem impl_polygon_convex_good {α : Type} : ∀ n, GoodFn (α := α) Try.prog 139 (byShape impl_polygon_convex_sh (impl_polygon_convex_run n)) := by
  refine fn_good' Try.func139 (c := (Try.f139.body.getD .skip)) (by kernel_rfl) (by kernel_rfl) (by kernel_rfl) impl_polygon_convex_C impl_polygon_convex_M eqs impl_polygon_convex_lps (fun n => tabC_good (List.forall_mem_cons.2 ⟨(impl_polygon_next_good n), (List.forall_mem_cons.2 ⟨(impl_turn_good n), (fun _ h => absurd h List.not_mem_nil)⟩)⟩)) eqs_ok impl_polygon_convex_Lt ?_ ?_ impl_polygon_convex_sh impl_polygon_convex_run ?_
  · refine List.forall_mem_cons.2 ⟨?_, List.forall_mem_cons.2 ⟨?_, (fun _ h => absurd h List.not_mem_nil)⟩⟩
    · intro p brk ret; show impl_polygon_convex_u6 0 p brk ret = none; unfold impl_polygon_convex_u6 impl_polygon_convex_uG6; split <;> rfl
    · intro p brk ret; show impl_polygon_convex_u2 0 p brk ret = none; unfold impl_polygon_convex_u2 impl_polygon_convex_uG2; split <;> rfl
  · refine List.forall_mem_cons.2 ⟨?_, List.forall_mem_cons.2 ⟨?_, (fun _ h => absurd h List.not_mem_nil)⟩⟩
    · intro np lent hL n p brk ret st r hb hr
      obtain ⟨rfl, rfl⟩ := hL
      rw [← tpl_of hb]
      change impl_polygon_convex_u6 (n + 1) p brk ret = some r at hr
      have hr0 := hr
      unfold impl_polygon_convex_u6 impl_polygon_convex_uG6 at hr
      split at hr
      · exact (impl_polygon_convex_l6_ev n _ _ _ _ _ _ _ _ _ _ brk ret).trans hr0
      · cases hr
    · intro np lent hL n p brk ret st r hb hr
      obtain ⟨rfl, rfl⟩ := hL
      rw [← tpl_of hb]
      change impl_polygon_convex_u2 (n + 1) p brk ret = some r at hr
      have hr0 := hr
      unfold impl_polygon_convex_u2 impl_polygon_convex_uG2 at hr
      split at hr
      · exact (impl_polygon_convex_l2_ev n _ _ _ brk ret).trans hr0
      · cases hr
  · intro n p κ r ds hd hr
    have hr0 := hr
    unfold impl_polygon_convex_run impl_polygon_convex_runG at hr
    split at hr
    · rw [← ds_of hd]
      exact ⟨en_of (impl_polygon_convex_en _) ⟨rfl, rfl⟩, (impl_polygon_convex_ev n _ κ).trans hr0⟩
    · cases hr

/-! loop.example/g01297/impl.IsPolygon -/
def impl_IsPolygon_sh : List SkD := [.sl 33 .pt]
def impl_IsPolygon_runG {α : Type} (F : Nat → (List (Int × Int)) → (Bool → Option α) → Option α) (n : Nat) (p : List P1) (κ : Res → Option α) : Option α := match p with
  | [.rows .pt list] => F n list (fun v1 => κ ⟨[.bool v1], []⟩)
  | _ => none
def impl_IsPolygon_run {α : Type} (n : Nat) (p : List P1) (κ : Res → Option α) : Option α := impl_IsPolygon_runG impl_IsPolygon n p κ
def impl_IsPolygon_CG {α : Type} (F0 : Nat → Int → Int → Int → (Bool → Option α) → Option α) (F1 : Nat → (List (Int × Int)) → (Bool → Option α) → Option α) (F2 : Nat → (List (Int × Int)) → (Bool → Option α) → Option α) (n : Nat) : FuncId → List D → (Res → Option α) → Option α := tabC [(76, (byShape impl_in_sh (impl_in_runG F0 n))), (137, (byShape slices_ContainsFunc_impl_Point_impl_Point_1F_impl_IsPolygon_1_sh (slices_ContainsFunc_impl_Point_impl_Point_1F_impl_IsPolygon_1_runG F1 n))), (139, (byShape impl_polygon_convex_sh (impl_polygon_convex_runG F2 n)))]
def impl_IsPolygon_C {α : Type} (n : Nat) : FuncId → List D → (Res → Option α) → Option α := impl_IsPolygon_CG impl_in slices_ContainsFunc_impl_Point_impl_Point_1F_impl_IsPolygon_1 impl_polygon_convex n
def impl_IsPolygon_M : FuncId → List Nat := tabM []
def impl_IsPolygon_lpsG {α : Type}  : List (LoopT α) := []
def impl_IsPolygon_lps {α : Type} : List (LoopT α) := impl_IsPolygon_lpsG
def impl_IsPolygon_XG {α : Type} (F0 : Nat → Int → Int → Int → (Bool → Option α) → Option α) (F1 : Nat → (List (Int × Int)) → (Bool → Option α) → Option α) (F2 : Nat → (List (Int × Int)) → (Bool → Option α) → Option α)  (n : Nat) : Ctx α := ⟨impl_IsPolygon_CG F0 F1 F2 n, impl_IsPolygon_M, eqs, lpOf (impl_IsPolygon_lpsG) n⟩
def impl_IsPolygon_X {α : Type} (n : Nat) : Ctx α := impl_IsPolygon_XG impl_in slices_ContainsFunc_impl_Point_impl_Point_1F_impl_IsPolygon_1 impl_polygon_convex n
def impl_IsPolygon_Lt (np : Nat) (lent : List (Bool × Nat × Blk)) : Prop := np = 1 ∧ lent = []
def impl_IsPolygon_body {α : Type} (F0 : Nat → Int → Int → Int → (Bool → Option α) → Option α) (F1 : Nat → (List (Int × Int)) → (Bool → Option α) → Option α) (F2 : Nat → (List (Int × Int)) → (Bool → Option α) → Option α)  (k : Nat) (list : List (Int × Int)) (r0 : Bool → Option α) : Option α :=
  F0 k (((List.length list) : Nat) : Int) 3 12 fun v =>
  bif (!v) then
    r0 false
  else
    F1 k list fun v1 =>
    bif v1 then
      r0 false
    else
      F2 k list fun v2 =>
      r0 v2
theorem impl_IsPolygon_gen {α : Type} (F0 : Nat → Int → Int → Int → (Bool → Option α) → Option α) (F1 : Nat → (List (Int × Int)) → (Bool → Option α) → Option α) (F2 : Nat → (List (Int × Int)) → (Bool → Option α) → Option α)  (n : Nat) (list : List (Int × Int)) (κ : Res → Option α) : evFn Try.prog (impl_IsPolygon_XG F0 F1 F2 n) Try.f87 (((buildDs impl_IsPolygon_sh [.rows .pt list]).map Prod.fst).getD []) κ = impl_IsPolygon_body F0 F1 F2 n list (fun v1 => κ ⟨[.bool v1], []⟩) := by kernel_rfl
theorem impl_IsPolygon_ev {α : Type} (n : Nat) (list : List (Int × Int)) (κ : Res → Option α) : evFn Try.prog (impl_IsPolygon_X n) Try.f87 (((buildDs impl_IsPolygon_sh [.rows .pt list]).map Prod.fst).getD []) κ = impl_IsPolygon_run n [.rows .pt list] κ := (impl_IsPolygon_gen impl_in slices_ContainsFunc_impl_Point_impl_Point_1F_impl_IsPolygon_1 impl_polygon_convex n list κ).trans (by kernel_rfl)
theorem impl_IsPolygon_en (list : List (Int × Int)) : (entry 0 (((buildDs impl_IsPolygon_sh [.rows .pt list]).map Prod.fst).getD [])).map (fun x => (x.1.length, x.2.lent)) = some (1, []) := by kernel_rfl
theorem impl_IsPolygon_good {α : Type} : ∀ n, GoodFn (α := α) Try.prog 87 (byShape impl_IsPolygon_sh (impl_IsPolygon_run n)) := by
  refine fn_good' Try.func87 (c := (Try.f87.body.getD .skip)) (by kernel_rfl) (by kernel_rfl) (by kernel_rfl) impl_IsPolygon_C impl_IsPolygon_M eqs impl_IsPolygon_lps (fun n => tabC_good (List.forall_mem_cons.2 ⟨(impl_in_good n), (List.forall_mem_cons.2 ⟨(slices_ContainsFunc_impl_Point_impl_Point_1F_impl_IsPolygon_1_good n), (List.forall_mem_cons.2 ⟨(impl_polygon_convex_good n), (fun _ h => absurd h List.not_mem_nil)⟩)⟩)⟩)) eqs_ok impl_IsPolygon_Lt ?_ ?_ impl_IsPolygon_sh impl_IsPolygon_run ?_
  · exact (fun _ h => absurd h List.not_mem_nil)
  · exact (fun _ h => absurd h List.not_mem_nil)
  · intro n p κ r ds hd hr
    have hr0 := hr
    unfold impl_IsPolygon_run impl_IsPolygon_runG at hr
    split at hr
    · rw [← ds_of hd]
      exact ⟨en_of (impl_IsPolygon_en _) ⟨rfl, rfl⟩, (impl_IsPolygon_ev n _ κ).trans hr0⟩
    · cases hr

/-! loop.example/g01297/impl.isCoord -/
def impl_isCoord_sh : List SkD := [.int .i64]
def impl_isCoord_runG {α : Type} (F : Nat → Int → (Bool → Option α) → Option α) (n : Nat) (p : List P1) (κ : Res → Option α) : Option α := match p with
  | [.int n_] => F n n_ (fun v1 => κ ⟨[.bool v1], []⟩)
  | _ => none
def impl_isCoord_run {α : Type} (n : Nat) (p : List P1) (κ : Res → Option α) : Option α := impl_isCoord_runG impl_isCoord n p κ
def impl_isCoord_CG {α : Type} (F0 : Nat → Int → Int → Int → (Bool → Option α) → Option α) (n : Nat) : FuncId → List D → (Res → Option α) → Option α := tabC [(76, (byShape impl_in_sh (impl_in_runG F0 n)))]
def impl_isCoord_C {α : Type} (n : Nat) : FuncId → List D → (Res → Option α) → Option α := impl_isCoord_CG impl_in n
def impl_isCoord_M : FuncId → List Nat := tabM []
def impl_isCoord_lpsG {α : Type}  : List (LoopT α) := []
def impl_isCoord_lps {α : Type} : List (LoopT α) := impl_isCoord_lpsG
def impl_isCoord_XG {α : Type} (F0 : Nat → Int → Int → Int → (Bool → Option α) → Option α)  (n : Nat) : Ctx α := ⟨impl_isCoord_CG F0 n, impl_isCoord_M, eqs, lpOf (impl_isCoord_lpsG) n⟩
def impl_isCoord_X {α : Type} (n : Nat) : Ctx α := impl_isCoord_XG impl_in n
def impl_isCoord_Lt (np : Nat) (lent : List (Bool × Nat × Blk)) : Prop := np = 1 ∧ lent = []
def impl_isCoord_body {α : Type} (F0 : Nat → Int → Int → Int → (Bool → Option α) → Option α)  (k : Nat) (n_ : Int) (r0 : Bool → Option α) : Option α :=
  F0 k n_ (-1000000) 1000000 fun v =>
  r0 v
theorem impl_isCoord_gen {α : Type} (F0 : Nat → Int → Int → Int → (Bool → Option α) → Option α)  (n : Nat) (n_ : Int) (κ : Res → Option α) : evFn Try.prog (impl_isCoord_XG F0 n) Try.f104 (((buildDs impl_isCoord_sh [.int n_]).map Prod.fst).getD []) κ = impl_isCoord_body F0 n n_ (fun v1 => κ ⟨[.bool v1], []⟩) := by kernel_rfl
theorem impl_isCoord_ev {α : Type} (n : Nat) (n_ : Int) (κ : Res → Option α) : evFn Try.prog (impl_isCoord_X n) Try.f104 (((buildDs impl_isCoord_sh [.int n_]).map Prod.fst).getD []) κ = impl_isCoord_run n [.int n_] κ := (impl_isCoord_gen impl_in n n_ κ).trans (by kernel_rfl)
theorem impl_isCoord_en (n_ : Int) : (entry 0 (((buildDs impl_isCoord_sh [.int n_]).map Prod.fst).getD [])).map (fun x => (x.1.length, x.2.lent)) = some (1, []) := by kernel_rfl
theorem impl_isCoord_good {α : Type} : ∀ n, GoodFn (α := α) Try.prog 104 (byShape impl_isCoord_sh (impl_isCoord_run n)) := by
  refine fn_good' Try.func104 (c := (Try.f104.body.getD .skip)) (by kernel_rfl) (by kernel_rfl) (by kernel_rfl) impl_isCoord_C impl_isCoord_M eqs impl_isCoord_lps (fun n => tabC_good (List.forall_mem_cons.2 ⟨(impl_in_good n), (fun _ h => absurd h List.not_mem_nil)⟩)) eqs_ok impl_isCoord_Lt ?_ ?_ impl_isCoord_sh impl_isCoord_run ?_
  · exact (fun _ h => absurd h List.not_mem_nil)
  · exact (fun _ h => absurd h List.not_mem_nil)
  · intro n p κ r ds hd hr
    have hr0 := hr
    unfold impl_isCoord_run impl_isCoord_runG at hr
    split at hr
    · rw [← ds_of hd]
      exact ⟨en_of (impl_isCoord_en _) ⟨rfl, rfl⟩, (impl_isCoord_ev n _ κ).trans hr0⟩
    · cases hr

/-! loop.example/g01297/impl.IsPoint -/
def impl_IsPoint_sh : List SkD := [.agg [.int .i64, .int .i64]]
def impl_IsPoint_runG {α : Type} (F : Nat → Int → Int → (Bool → Option α) → Option α) (n : Nat) (p : List P1) (κ : Res → Option α) : Option α := match p with
  | [.int a, .int a1] => F n a a1 (fun v1 => κ ⟨[.bool v1], []⟩)
  | _ => none
def impl_IsPoint_run {α : Type} (n : Nat) (p : List P1) (κ : Res → Option α) : Option α := impl_IsPoint_runG impl_IsPoint n p κ
def impl_IsPoint_CG {α : Type} (F0 : Nat → Int → (Bool → Option α) → Option α) (n : Nat) : FuncId → List D → (Res → Option α) → Option α := tabC [(104, (byShape impl_isCoord_sh (impl_isCoord_runG F0 n)))]
def impl_IsPoint_C {α : Type} (n : Nat) : FuncId → List D → (Res → Option α) → Option α := impl_IsPoint_CG impl_isCoord n
def impl_IsPoint_M : FuncId → List Nat := tabM []
def impl_IsPoint_lpsG {α : Type}  : List (LoopT α) := []
def impl_IsPoint_lps {α : Type} : List (LoopT α) := impl_IsPoint_lpsG
def impl_IsPoint_XG {α : Type} (F0 : Nat → Int → (Bool → Option α) → Option α)  (n : Nat) : Ctx α := ⟨impl_IsPoint_CG F0 n, impl_IsPoint_M, eqs, lpOf (impl_IsPoint_lpsG) n⟩
def impl_IsPoint_X {α : Type} (n : Nat) : Ctx α := impl_IsPoint_XG impl_isCoord n
def impl_IsPoint_Lt (np : Nat) (lent : List (Bool × Nat × Blk)) : Prop := np = 1 ∧ lent = []
def impl_IsPoint_body {α : Type} (F0 : Nat → Int → (Bool → Option α) → Option α)  (k : Nat) (a : Int) (a1 : Int) (r0 : Bool → Option α) : Option α :=
  F0 k a fun v =>
  bif v then
    F0 k a1 fun v1 =>
    r0 v1
  else
    r0 false
theorem impl_IsPoint_gen {α : Type} (F0 : Nat → Int → (Bool → Option α) → Option α)  (n : Nat) (a : Int) (a1 : Int) (κ : Res → Option α) : evFn Try.prog (impl_IsPoint_XG F0 n) Try.f88 (((buildDs impl_IsPoint_sh [.int a, .int a1]).map Prod.fst).getD []) κ = impl_IsPoint_body F0 n a a1 (fun v1 => κ ⟨[.bool v1], []⟩) := by kernel_rfl
theorem impl_IsPoint_ev {α : Type} (n : Nat) (a : Int) (a1 : Int) (κ : Res → Option α) : evFn Try.prog (impl_IsPoint_X n) Try.f88 (((buildDs impl_IsPoint_sh [.int a, .int a1]).map Prod.fst).getD []) κ = impl_IsPoint_run n [.int a, .int a1] κ := (impl_IsPoint_gen impl_isCoord n a a1 κ).trans (by kernel_rfl)
theorem impl_IsPoint_en (a : Int) (a1 : Int) : (entry 0 (((buildDs impl_IsPoint_sh [.int a, .int a1]).map Prod.fst).getD [])).map (fun x => (x.1.length, x.2.lent)) = some (1, []) := by kernel_rfl
theorem impl_IsPoint_good {α : Type} : ∀ n, GoodFn (α := α) Try.prog 88 (byShape impl_IsPoint_sh (impl_IsPoint_run n)) := by
  refine fn_good' Try.func88 (c := (Try.f88.body.getD .skip)) (by kernel_rfl) (by kernel_rfl) (by kernel_rfl) impl_IsPoint_C impl_IsPoint_M eqs impl_IsPoint_lps (fun n => tabC_good (List.forall_mem_cons.2 ⟨(impl_isCoord_good n), (fun _ h => absurd h List.not_mem_nil)⟩)) eqs_ok impl_IsPoint_Lt ?_ ?_ impl_IsPoint_sh impl_IsPoint_run ?_
  · exact (fun _ h => absurd h List.not_mem_nil)
  · exact (fun _ h => absurd h List.not_mem_nil)
  · intro n p κ r ds hd hr
    have hr0 := hr
    unfold impl_IsPoint_run impl_IsPoint_runG at hr
    split at hr
    · rw [← ds_of hd]
      exact ⟨en_of (impl_IsPoint_en _ _) ⟨rfl, rfl⟩, (impl_IsPoint_ev n _ _ κ).trans hr0⟩
    · cases hr

/-! loop.example/g01297/impl.size -/
def impl_size_sh : List SkD := [.int .i64]
def impl_size_runG {α : Type} (F : Nat → Int → (Int → Option α) → Option α) (n : Nat) (p : List P1) (κ : Res → Option α) : Option α := match p with
  | [.int n_] => F n n_ (fun v1 => κ ⟨[.int .i64 v1], []⟩)
  | _ => none
def impl_size_run {α : Type} (n : Nat) (p : List P1) (κ : Res → Option α) : Option α := impl_size_runG impl_size n p κ
def impl_size_CG {α : Type}  (n : Nat) : FuncId → List D → (Res → Option α) → Option α := tabC []
def impl_size_C {α : Type} (n : Nat) : FuncId → List D → (Res → Option α) → Option α := impl_size_CG n
def impl_size_M : FuncId → List Nat := tabM []
def impl_size_lpsG {α : Type}  : List (LoopT α) := []
def impl_size_lps {α : Type} : List (LoopT α) := impl_size_lpsG
def impl_size_XG {α : Type}   (n : Nat) : Ctx α := ⟨impl_size_CG n, impl_size_M, eqs, lpOf (impl_size_lpsG) n⟩
def impl_size_X {α : Type} (n : Nat) : Ctx α := impl_size_XG n
def impl_size_Lt (np : Nat) (lent : List (Bool × Nat × Blk)) : Prop := np = 1 ∧ lent = []
def impl_size_body {α : Type}   (k : Nat) (n_ : Int) (r0 : Int → Option α) : Option α :=
  r0 (max n_ (w64 (0 - n_)))
theorem impl_size_gen {α : Type}   (n : Nat) (n_ : Int) (κ : Res → Option α) : evFn Try.prog (impl_size_XG n) Try.f116 (((buildDs impl_size_sh [.int n_]).map Prod.fst).getD []) κ = impl_size_body n n_ (fun v1 => κ ⟨[.int .i64 v1], []⟩) := by kernel_rfl
theorem impl_size_ev {α : Type} (n : Nat) (n_ : Int) (κ : Res → Option α) : evFn Try.prog (impl_size_X n) Try.f116 (((buildDs impl_size_sh [.int n_]).map Prod.fst).getD []) κ = impl_size_run n [.int n_] κ := (impl_size_gen n n_ κ).trans (by kernel_rfl)
theorem impl_size_en (n_ : Int) : (entry 0 (((buildDs impl_size_sh [.int n_]).map Prod.fst).getD [])).map (fun x => (x.1.length, x.2.lent)) = some (1, []) := by kernel_rfl
theorem impl_size_good {α : Type} : ∀ n, GoodFn (α := α) Try.prog 116 (byShape impl_size_sh (impl_size_run n)) := by
  refine fn_good' Try.func116 (c := (Try.f116.body.getD .skip)) (by kernel_rfl) (by kernel_rfl) (by kernel_rfl) impl_size_C impl_size_M eqs impl_size_lps (fun n => tabC_good (fun _ h => absurd h List.not_mem_nil)) eqs_ok impl_size_Lt ?_ ?_ impl_size_sh impl_size_run ?_
  · exact (fun _ h => absurd h List.not_mem_nil)
  · exact (fun _ h => absurd h List.not_mem_nil)
  · intro n p κ r ds hd hr
    have hr0 := hr
    unfold impl_size_run impl_size_runG at hr
    split at hr
    · rw [← ds_of hd]
      exact ⟨en_of (impl_size_en _) ⟨rfl, rfl⟩, (impl_size_ev n _ κ).trans hr0⟩
    · cases hr

/-! loop.example/g01297/impl.gcd -/
def impl_gcd_sh : List SkD := [.int .i64, .int .i64]
def impl_gcd_runG {α : Type} (F : Nat → Int → Int → (Int → Option α) → Option α) (n : Nat) (p : List P1) (κ : Res → Option α) : Option α := match p with
  | [.int a, .int b_] => F n a b_ (fun v1 => κ ⟨[.int .i64 v1], []⟩)
  | _ => none
def impl_gcd_run {α : Type} (n : Nat) (p : List P1) (κ : Res → Option α) : Option α := impl_gcd_runG impl_gcd n p κ
def impl_gcd_CG {α : Type} (F0 : Nat → Int → (Int → Option α) → Option α) (n : Nat) : FuncId → List D → (Res → Option α) → Option α := tabC [(116, (byShape impl_size_sh (impl_size_runG F0 n)))]
def impl_gcd_C {α : Type} (n : Nat) : FuncId → List D → (Res → Option α) → Option α := impl_gcd_CG impl_size n
def impl_gcd_M : FuncId → List Nat := tabM []
def impl_gcd_t1 : Tpl := ⟨[.int .i64, .int .i64, .any, .any, .any, .any, .any, .any, .any, .any, .any, .any, .any], [], []⟩
def impl_gcd_uG1 {α : Type} (G : Nat → Int → Int → (Int → Int → Option α) → (Int → Option α) → Option α) (n : Nat) (p : List P1) (brk : Nat → List P1 → Option α) (ret : Res → Option α) : Option α := match p with
  | [.int a1, .int b_1] => G n a1 b_1 (fun a1 b_1 => brk 0 [.int a1, .int b_1]) (fun v1 => ret ⟨[.int .i64 v1], []⟩)
  | _ => none
def impl_gcd_u1 {α : Type} (n : Nat) (p : List P1) (brk : Nat → List P1 → Option α) (ret : Res → Option α) : Option α := impl_gcd_uG1 impl_gcd_l1 n p brk ret
def impl_gcd_lpsG {α : Type} (G1 : Nat → Int → Int → (Int → Int → Option α) → (Int → Option α) → Option α) : List (LoopT α) := [⟨1, impl_gcd_t1, impl_gcd_uG1 G1⟩]
def impl_gcd_lps {α : Type} : List (LoopT α) := impl_gcd_lpsG impl_gcd_l1
def impl_gcd_XG {α : Type} (F0 : Nat → Int → (Int → Option α) → Option α) (G1 : Nat → Int → Int → (Int → Int → Option α) → (Int → Option α) → Option α) (n : Nat) : Ctx α := ⟨impl_gcd_CG F0 n, impl_gcd_M, eqs, lpOf (impl_gcd_lpsG G1) n⟩
def impl_gcd_X {α : Type} (n : Nat) : Ctx α := impl_gcd_XG impl_size impl_gcd_l1 n
def impl_gcd_Lt (np : Nat) (lent : List (Bool × Nat × Blk)) : Prop := np = 2 ∧ lent = []
def impl_gcd_lb1 {α : Type} (F0 : Nat → Int → (Int → Option α) → Option α) (G1 : Nat → Int → Int → (Int → Int → Option α) → (Int → Option α) → Option α) (k : Nat) (a1 : Int) (b_1 : Int) (b0 : Int → Int → Option α) (r0 : Int → Option α) : Option α :=
  bif (!decide (b_1 = 0)) then
    bif decide (b_1 = 0) then
      none
    else
      G1 k b_1 (Int.tmod a1 b_1) b0 r0
  else
    b0 a1 b_1
theorem impl_gcd_l1_gen {α : Type} (F0 : Nat → Int → (Int → Option α) → Option α) (G1 : Nat → Int → Int → (Int → Int → Option α) → (Int → Option α) → Option α) (n : Nat) (a1 : Int) (b_1 : Int) (brk : Nat → List P1 → Option α) (ret : Res → Option α) : ev ((impl_gcd_XG F0 G1 n).env Try.prog Try.f147 2 []) (findLoop (loopsIn (Try.f147.body.getD .skip)) 1) ((impl_gcd_t1.build [.int a1, .int b_1]).getD ⟨[], []⟩) (roundK (2 * 64) impl_gcd_t1 (fun q => impl_gcd_uG1 G1 n q brk ret) brk ret) = impl_gcd_lb1 F0 G1 n a1 b_1 (fun a1 b_1 => brk 0 [.int a1, .int b_1]) (fun v1 => ret ⟨[.int .i64 v1], []⟩) := by kernel_rfl
theorem impl_gcd_l1_ev {α : Type} (n : Nat) (a1 : Int) (b_1 : Int) (brk : Nat → List P1 → Option α) (ret : Res → Option α) : ev ((impl_gcd_X n).env Try.prog Try.f147 2 []) (findLoop (loopsIn (Try.f147.body.getD .skip)) 1) ((impl_gcd_t1.build [.int a1, .int b_1]).getD ⟨[], []⟩) (roundK (2 * 64) impl_gcd_t1 (fun q => impl_gcd_u1 n q brk ret) brk ret) = impl_gcd_u1 (n + 1) [.int a1, .int b_1] brk ret := (impl_gcd_l1_gen impl_size impl_gcd_l1 n a1 b_1 brk ret).trans (by kernel_rfl)
def impl_gcd_body {α : Type} (F0 : Nat → Int → (Int → Option α) → Option α) (G1 : Nat → Int → Int → (Int → Int → Option α) → (Int → Option α) → Option α) (k : Nat) (a : Int) (b_ : Int) (r0 : Int → Option α) : Option α :=
  G1 k a b_
    (fun a2 b_2 =>
      F0 k a2 fun v =>
      r0 v)
    r0
theorem impl_gcd_gen {α : Type} (F0 : Nat → Int → (Int → Option α) → Option α) (G1 : Nat → Int → Int → (Int → Int → Option α) → (Int → Option α) → Option α) (n : Nat) (a : Int) (b_ : Int) (κ : Res → Option α) : evFn Try.prog (impl_gcd_XG F0 G1 n) Try.f147 (((buildDs impl_gcd_sh [.int a, .int b_]).map Prod.fst).getD []) κ = impl_gcd_body F0 G1 n a b_ (fun v1 => κ ⟨[.int .i64 v1], []⟩) := by kernel_rfl
theorem impl_gcd_ev {α : Type} (n : Nat) (a : Int) (b_ : Int) (κ : Res → Option α) : evFn Try.prog (impl_gcd_X n) Try.f147 (((buildDs impl_gcd_sh [.int a, .int b_]).map Prod.fst).getD []) κ = impl_gcd_run n [.int a, .int b_] κ := (impl_gcd_gen impl_size impl_gcd_l1 n a b_ κ).trans (by kernel_rfl)
theorem impl_gcd_en (a : Int) (b_ : Int) : (entry 0 (((buildDs impl_gcd_sh [.int a, .int b_]).map Prod.fst).getD [])).map (fun x => (x.1.length, x.2.lent)) = some (2, []) := by kernel_rfl
theorem impl_gcd_good {α : Type} : ∀ n, GoodFn (α := α) Try.prog 147 (byShape impl_gcd_sh (impl_gcd_run n)) := by
  refine fn_good' Try.func147 (c := (Try.f147.body.getD .skip)) (by kernel_rfl) (by kernel_rfl) (by kernel_rfl) impl_gcd_C impl_gcd_M eqs impl_gcd_lps (fun n => tabC_good (List.forall_mem_cons.2 ⟨(impl_size_good n), (fun _ h => absurd h List.not_mem_nil)⟩)) eqs_ok impl_gcd_Lt ?_ ?_ impl_gcd_sh impl_gcd_run ?_
  · refine List.forall_mem_cons.2 ⟨?_, (fun _ h => absurd h List.not_mem_nil)⟩
    · intro p brk ret; show impl_gcd_u1 0 p brk ret = none; unfold impl_gcd_u1 impl_gcd_uG1; split <;> rfl
  · refine List.forall_mem_cons.2 ⟨?_, (fun _ h => absurd h List.not_mem_nil)⟩
    · intro np lent hL n p brk ret st r hb hr
      obtain ⟨rfl, rfl⟩ := hL
      rw [← tpl_of hb]
      change impl_gcd_u1 (n + 1) p brk ret = some r at hr
      have hr0 := hr
      unfold impl_gcd_u1 impl_gcd_uG1 at hr
      split at hr
      · exact (impl_gcd_l1_ev n _ _ brk ret).trans hr0
      · cases hr
  · intro n p κ r ds hd hr
    have hr0 := hr
    unfold impl_gcd_run impl_gcd_runG at hr
    split at hr
    · rw [← ds_of hd]
      exact ⟨en_of (impl_gcd_en _ _) ⟨rfl, rfl⟩, (impl_gcd_ev n _ _ κ).trans hr0⟩
    · cases hr

/-! (loop.example/g01297/impl.Point).length -/
def impl_Point_length_sh : List SkD := [.agg [.int .i64, .int .i64]]
def impl_Point_length_runG {α : Type} (F : Nat → Int → Int → (Int → Option α) → Option α) (n : Nat) (p : List P1) (κ : Res → Option α) : Option α := match p with
  | [.int a, .int a1] => F n a a1 (fun v1 => κ ⟨[.int .i64 v1], []⟩)
  | _ => none
def impl_Point_length_run {α : Type} (n : Nat) (p : List P1) (κ : Res → Option α) : Option α := impl_Point_length_runG impl_Point_length n p κ
def impl_Point_length_CG {α : Type} (F0 : Nat → Int → Int → (Int → Option α) → Option α) (n : Nat) : FuncId → List D → (Res → Option α) → Option α := tabC [(147, (byShape impl_gcd_sh (impl_gcd_runG F0 n)))]
def impl_Point_length_C {α : Type} (n : Nat) : FuncId → List D → (Res → Option α) → Option α := impl_Point_length_CG impl_gcd n
def impl_Point_length_M : FuncId → List Nat := tabM []
def impl_Point_length_lpsG {α : Type}  : List (LoopT α) := []
def impl_Point_length_lps {α : Type} : List (LoopT α) := impl_Point_length_lpsG
def impl_Point_length_XG {α : Type} (F0 : Nat → Int → Int → (Int → Option α) → Option α)  (n : Nat) : Ctx α := ⟨impl_Point_length_CG F0 n, impl_Point_length_M, eqs, lpOf (impl_Point_length_lpsG) n⟩
def impl_Point_length_X {α : Type} (n : Nat) : Ctx α := impl_Point_length_XG impl_gcd n
def impl_Point_length_Lt (np : Nat) (lent : List (Bool × Nat × Blk)) : Prop := np = 1 ∧ lent = []
def impl_Point_length_body {α : Type} (F0 : Nat → Int → Int → (Int → Option α) → Option α)  (k : Nat) (a : Int) (a1 : Int) (r0 : Int → Option α) : Option α :=
  F0 k a a1 fun v =>
  r0 v
theorem impl_Point_length_gen {α : Type} (F0 : Nat → Int → Int → (Int → Option α) → Option α)  (n : Nat) (a : Int) (a1 : Int) (κ : Res → Option α) : evFn Try.prog (impl_Point_length_XG F0 n) Try.f127 (((buildDs impl_Point_length_sh [.int a, .int a1]).map Prod.fst).getD []) κ = impl_Point_length_body F0 n a a1 (fun v1 => κ ⟨[.int .i64 v1], []⟩) := by kernel_rfl
theorem impl_Point_length_ev {α : Type} (n : Nat) (a : Int) (a1 : Int) (κ : Res → Option α) : evFn Try.prog (impl_Point_length_X n) Try.f127 (((buildDs impl_Point_length_sh [.int a, .int a1]).map Prod.fst).getD []) κ = impl_Point_length_run n [.int a, .int a1] κ := (impl_Point_length_gen impl_gcd n a a1 κ).trans (by kernel_rfl)
theorem impl_Point_length_en (a : Int) (a1 : Int) : (entry 0 (((buildDs impl_Point_length_sh [.int a, .int a1]).map Prod.fst).getD [])).map (fun x => (x.1.length, x.2.lent)) = some (1, []) := by kernel_rfl
theorem impl_Point_length_good {α : Type} : ∀ n, GoodFn (α := α) Try.prog 127 (byShape impl_Point_length_sh (impl_Point_length_run n)) := by
  refine fn_good' Try.func127 (c := (Try.f127.body.getD .skip)) (by kernel_rfl) (by kernel_rfl) (by kernel_rfl) impl_Point_length_C impl_Point_length_M eqs impl_Point_length_lps (fun n => tabC_good (List.forall_mem_cons.2 ⟨(impl_gcd_good n), (fun _ h => absurd h List.not_mem_nil)⟩)) eqs_ok impl_Point_length_Lt ?_ ?_ impl_Point_length_sh impl_Point_length_run ?_
  · exact (fun _ h => absurd h List.not_mem_nil)
  · exact (fun _ h => absurd h List.not_mem_nil)
  · intro n p κ r ds hd hr
    have hr0 := hr
    unfold impl_Point_length_run impl_Point_length_runG at hr
    split at hr
    · rw [← ds_of hd]
      exact ⟨en_of (impl_Point_length_en _ _) ⟨rfl, rfl⟩, (impl_Point_length_ev n _ _ κ).trans hr0⟩
    · cases hr

end Go.Proofs.Ytnfpidnnmgedfaa
