/- The program's functions hold to their readings without memory: printed by a program of ours. -/
import Derived.Test.YtnfpidnnmgedfaaSe1XWidthFor
namespace Go.Proofs.Ytnfpidnnmgedfaa
open Go Go.Ev Go.Sh Go.Proofs

/-! (loop.example/g01297/impl.Point).isPrimitive -/
def impl_Point_isPrimitive_sh : List SkD := [.agg [.int .i64, .int .i64]]
def impl_Point_isPrimitive_runG {α : Type} (F : Nat → Int → Int → (Bool → Option α) → Option α) (n : Nat) (p : List P1) (κ : Res → Option α) : Option α := match p with
  | [.int a, .int a1] => F n a a1 (fun v1 => κ ⟨[.bool v1], []⟩)
  | _ => none
def impl_Point_isPrimitive_run {α : Type} (n : Nat) (p : List P1) (κ : Res → Option α) : Option α := impl_Point_isPrimitive_runG impl_Point_isPrimitive n p κ
def impl_Point_isPrimitive_CG {α : Type} (F0 : Nat → Int → Int → (Int → Option α) → Option α) (n : Nat) : FuncId → List D → (Res → Option α) → Option α := tabC [(127, (byShape impl_Point_length_sh (impl_Point_length_runG F0 n)))]
def impl_Point_isPrimitive_C {α : Type} (n : Nat) : FuncId → List D → (Res → Option α) → Option α := impl_Point_isPrimitive_CG impl_Point_length n
def impl_Point_isPrimitive_M : FuncId → List Nat := tabM []
def impl_Point_isPrimitive_lpsG {α : Type}  : List (LoopT α) := []
def impl_Point_isPrimitive_lps {α : Type} : List (LoopT α) := impl_Point_isPrimitive_lpsG
def impl_Point_isPrimitive_XG {α : Type} (F0 : Nat → Int → Int → (Int → Option α) → Option α)  (n : Nat) : Ctx α := ⟨impl_Point_isPrimitive_CG F0 n, impl_Point_isPrimitive_M, eqs, lpOf (impl_Point_isPrimitive_lpsG) n⟩
def impl_Point_isPrimitive_X {α : Type} (n : Nat) : Ctx α := impl_Point_isPrimitive_XG impl_Point_length n
def impl_Point_isPrimitive_Lt (np : Nat) (lent : List (Bool × Nat × Blk)) : Prop := np = 1 ∧ lent = []
def impl_Point_isPrimitive_body {α : Type} (F0 : Nat → Int → Int → (Int → Option α) → Option α)  (k : Nat) (a : Int) (a1 : Int) (r0 : Bool → Option α) : Option α :=
  F0 k a a1 fun v =>
  r0 (decide (v = 1))
theorem impl_Point_isPrimitive_gen {α : Type} (F0 : Nat → Int → Int → (Int → Option α) → Option α)  (n : Nat) (a : Int) (a1 : Int) (κ : Res → Option α) : evFn Try.prog (impl_Point_isPrimitive_XG F0 n) Try.f97 (((buildDs impl_Point_isPrimitive_sh [.int a, .int a1]).map Prod.fst).getD []) κ = impl_Point_isPrimitive_body F0 n a a1 (fun v1 => κ ⟨[.bool v1], []⟩) := by kernel_rfl
theorem impl_Point_isPrimitive_ev {α : Type} (n : Nat) (a : Int) (a1 : Int) (κ : Res → Option α) : evFn Try.prog (impl_Point_isPrimitive_X n) Try.f97 (((buildDs impl_Point_isPrimitive_sh [.int a, .int a1]).map Prod.fst).getD []) κ = impl_Point_isPrimitive_run n [.int a, .int a1] κ := (impl_Point_isPrimitive_gen impl_Point_length n a a1 κ).trans (by kernel_rfl)
theorem impl_Point_isPrimitive_en (a : Int) (a1 : Int) : (entry 0 (((buildDs impl_Point_isPrimitive_sh [.int a, .int a1]).map Prod.fst).getD [])).map (fun x => (x.1.length, x.2.lent)) = some (1, []) := by kernel_rfl
theorem impl_Point_isPrimitive_good {α : Type} : ∀ n, GoodFn (α := α) Try.prog 97 (byShape impl_Point_isPrimitive_sh (impl_Point_isPrimitive_run n)) := by
  refine fn_good' Try.func97 (c := (Try.f97.body.getD .skip)) (by kernel_rfl) (by kernel_rfl) (by kernel_rfl) impl_Point_isPrimitive_C impl_Point_isPrimitive_M eqs impl_Point_isPrimitive_lps (fun n => tabC_good (List.forall_mem_cons.2 ⟨(impl_Point_length_good n), (fun _ h => absurd h List.not_mem_nil)⟩)) eqs_ok impl_Point_isPrimitive_Lt ?_ ?_ impl_Point_isPrimitive_sh impl_Point_isPrimitive_run ?_
  · exact (fun _ h => absurd h List.not_mem_nil)
  · exact (fun _ h => absurd h List.not_mem_nil)
  · intro n p κ r ds hd hr
    have hr0 := hr
    unfold impl_Point_isPrimitive_run impl_Point_isPrimitive_runG at hr
    split at hr
    · rw [← ds_of hd]
      exact ⟨en_of (impl_Point_isPrimitive_en _ _) ⟨rfl, rfl⟩, (impl_Point_isPrimitive_ev n _ _ κ).trans hr0⟩
    · cases hr

/-! loop.example/g01297/impl.dot -/
def impl_dot_sh : List SkD := [.agg [.int .i64, .int .i64], .agg [.int .i64, .int .i64]]
def impl_dot_runG {α : Type} (F : Nat → Int → Int → Int → Int → (Int → Option α) → Option α) (n : Nat) (p : List P1) (κ : Res → Option α) : Option α := match p with
  | [.int a, .int a1, .int b_, .int b_1] => F n a a1 b_ b_1 (fun v1 => κ ⟨[.int .i64 v1], []⟩)
  | _ => none
def impl_dot_run {α : Type} (n : Nat) (p : List P1) (κ : Res → Option α) : Option α := impl_dot_runG impl_dot n p κ
def impl_dot_CG {α : Type}  (n : Nat) : FuncId → List D → (Res → Option α) → Option α := tabC []
def impl_dot_C {α : Type} (n : Nat) : FuncId → List D → (Res → Option α) → Option α := impl_dot_CG n
def impl_dot_M : FuncId → List Nat := tabM []
def impl_dot_lpsG {α : Type}  : List (LoopT α) := []
def impl_dot_lps {α : Type} : List (LoopT α) := impl_dot_lpsG
def impl_dot_XG {α : Type}   (n : Nat) : Ctx α := ⟨impl_dot_CG n, impl_dot_M, eqs, lpOf (impl_dot_lpsG) n⟩
def impl_dot_X {α : Type} (n : Nat) : Ctx α := impl_dot_XG n
def impl_dot_Lt (np : Nat) (lent : List (Bool × Nat × Blk)) : Prop := np = 2 ∧ lent = []
def impl_dot_body {α : Type}   (k : Nat) (a : Int) (a1 : Int) (b_ : Int) (b_1 : Int) (r0 : Int → Option α) : Option α :=
  r0 (w64 ((w64 (a * b_)) + (w64 (a1 * b_1))))
theorem impl_dot_gen {α : Type}   (n : Nat) (a : Int) (a1 : Int) (b_ : Int) (b_1 : Int) (κ : Res → Option α) : evFn Try.prog (impl_dot_XG n) Try.f66 (((buildDs impl_dot_sh [.int a, .int a1, .int b_, .int b_1]).map Prod.fst).getD []) κ = impl_dot_body n a a1 b_ b_1 (fun v1 => κ ⟨[.int .i64 v1], []⟩) := by kernel_rfl
theorem impl_dot_ev {α : Type} (n : Nat) (a : Int) (a1 : Int) (b_ : Int) (b_1 : Int) (κ : Res → Option α) : evFn Try.prog (impl_dot_X n) Try.f66 (((buildDs impl_dot_sh [.int a, .int a1, .int b_, .int b_1]).map Prod.fst).getD []) κ = impl_dot_run n [.int a, .int a1, .int b_, .int b_1] κ := (impl_dot_gen n a a1 b_ b_1 κ).trans (by kernel_rfl)
theorem impl_dot_en (a : Int) (a1 : Int) (b_ : Int) (b_1 : Int) : (entry 0 (((buildDs impl_dot_sh [.int a, .int a1, .int b_, .int b_1]).map Prod.fst).getD [])).map (fun x => (x.1.length, x.2.lent)) = some (2, []) := by kernel_rfl
theorem impl_dot_good {α : Type} : ∀ n, GoodFn (α := α) Try.prog 66 (byShape impl_dot_sh (impl_dot_run n)) := by
  refine fn_good' Try.func66 (c := (Try.f66.body.getD .skip)) (by kernel_rfl) (by kernel_rfl) (by kernel_rfl) impl_dot_C impl_dot_M eqs impl_dot_lps (fun n => tabC_good (fun _ h => absurd h List.not_mem_nil)) eqs_ok impl_dot_Lt ?_ ?_ impl_dot_sh impl_dot_run ?_
  · exact (fun _ h => absurd h List.not_mem_nil)
  · exact (fun _ h => absurd h List.not_mem_nil)
  · intro n p κ r ds hd hr
    have hr0 := hr
    unfold impl_dot_run impl_dot_runG at hr
    split at hr
    · rw [← ds_of hd]
      exact ⟨en_of (impl_dot_en _ _ _ _) ⟨rfl, rfl⟩, (impl_dot_ev n _ _ _ _ κ).trans hr0⟩
    · cases hr

/-! slices.Max[[]int64,int64] -/
def slices_Max_int64_int64_sh : List SkD := [.sl 2 (.int .i64)]
def slices_Max_int64_int64_runG {α : Type} (F : Nat → List Int → (Int → Option α) → Option α) (n : Nat) (p : List P1) (κ : Res → Option α) : Option α := match p with
  | [.rows (.int .i64) x] => F n x (fun v1 => κ ⟨[.int .i64 v1], []⟩)
  | _ => none
def slices_Max_int64_int64_run {α : Type} (n : Nat) (p : List P1) (κ : Res → Option α) : Option α := slices_Max_int64_int64_runG slices_Max_int64_int64 n p κ
def slices_Max_int64_int64_CG {α : Type}  (n : Nat) : FuncId → List D → (Res → Option α) → Option α := tabC []
def slices_Max_int64_int64_C {α : Type} (n : Nat) : FuncId → List D → (Res → Option α) → Option α := slices_Max_int64_int64_CG n
def slices_Max_int64_int64_M : FuncId → List Nat := tabM []
def slices_Max_int64_int64_t5 : Tpl := ⟨[.sl 0, .any, .any, .int .i64, .int .i64, .any, .any, .any, .any, .any, .any, .any, .any, .any, .any, .any, .any, .any, .any, .any, .any, .any, .any, .any, .any], [(0, .rows 0 2 (.int .i64))], []⟩
def slices_Max_int64_int64_uG5 {α : Type} (G : Nat → Int → Int → List Int → (Int → Int → List Int → Option α) → (Int → Option α) → Option α) (n : Nat) (p : List P1) (brk : Nat → List P1 → Option α) (ret : Res → Option α) : Option α := match p with
  | [.int m, .int i, .rows (.int .i64) x1] => G n m i x1 (fun m i x1 => brk 0 [.int m, .int i, .rows (.int .i64) x1]) (fun v1 => ret ⟨[.int .i64 v1], []⟩)
  | _ => none
def slices_Max_int64_int64_u5 {α : Type} (n : Nat) (p : List P1) (brk : Nat → List P1 → Option α) (ret : Res → Option α) : Option α := slices_Max_int64_int64_uG5 slices_Max_int64_int64_l5 n p brk ret
def slices_Max_int64_int64_lpsG {α : Type} (G5 : Nat → Int → Int → List Int → (Int → Int → List Int → Option α) → (Int → Option α) → Option α) : List (LoopT α) := [⟨5, slices_Max_int64_int64_t5, slices_Max_int64_int64_uG5 G5⟩]
def slices_Max_int64_int64_lps {α : Type} : List (LoopT α) := slices_Max_int64_int64_lpsG slices_Max_int64_int64_l5
def slices_Max_int64_int64_XG {α : Type}  (G5 : Nat → Int → Int → List Int → (Int → Int → List Int → Option α) → (Int → Option α) → Option α) (n : Nat) : Ctx α := ⟨slices_Max_int64_int64_CG n, slices_Max_int64_int64_M, eqs, lpOf (slices_Max_int64_int64_lpsG G5) n⟩
def slices_Max_int64_int64_X {α : Type} (n : Nat) : Ctx α := slices_Max_int64_int64_XG slices_Max_int64_int64_l5 n
def slices_Max_int64_int64_Lt (np : Nat) (lent : List (Bool × Nat × Blk)) : Prop := np = 1 ∧ lent = []
def slices_Max_int64_int64_lb5 {α : Type}  (G5 : Nat → Int → Int → List Int → (Int → Int → List Int → Option α) → (Int → Option α) → Option α) (k : Nat) (m : Int) (i : Int) (x1 : List Int) (b0 : Int → Int → List Int → Option α) (r0 : Int → Option α) : Option α :=
  bif decide (i < (((List.length x1) : Nat) : Int)) then
    bif (decide (0 ≤ i) && decide (i < (((List.length x1) : Nat) : Int))) then
      (x1[i.toNat]?).bind fun e_1 =>
      G5 k (max m e_1) (w64 (i + 1)) x1 b0 r0
    else
      none
  else
    b0 m i x1
theorem slices_Max_int64_int64_l5_gen {α : Type}  (G5 : Nat → Int → Int → List Int → (Int → Int → List Int → Option α) → (Int → Option α) → Option α) (n : Nat) (m : Int) (i : Int) (x1 : List Int) (brk : Nat → List P1 → Option α) (ret : Res → Option α) : ev ((slices_Max_int64_int64_XG G5 n).env Try.prog Try.f98 1 []) (findLoop (loopsIn (Try.f98.body.getD .skip)) 5) ((slices_Max_int64_int64_t5.build [.int m, .int i, .rows (.int .i64) x1]).getD ⟨[], []⟩) (roundK (1 * 64) slices_Max_int64_int64_t5 (fun q => slices_Max_int64_int64_uG5 G5 n q brk ret) brk ret) = slices_Max_int64_int64_lb5 G5 n m i x1 (fun m i x1 => brk 0 [.int m, .int i, .rows (.int .i64) x1]) (fun v1 => ret ⟨[.int .i64 v1], []⟩) := by kernel_rfl
theorem slices_Max_int64_int64_l5_ev {α : Type} (n : Nat) (m : Int) (i : Int) (x1 : List Int) (brk : Nat → List P1 → Option α) (ret : Res → Option α) : ev ((slices_Max_int64_int64_X n).env Try.prog Try.f98 1 []) (findLoop (loopsIn (Try.f98.body.getD .skip)) 5) ((slices_Max_int64_int64_t5.build [.int m, .int i, .rows (.int .i64) x1]).getD ⟨[], []⟩) (roundK (1 * 64) slices_Max_int64_int64_t5 (fun q => slices_Max_int64_int64_u5 n q brk ret) brk ret) = slices_Max_int64_int64_u5 (n + 1) [.int m, .int i, .rows (.int .i64) x1] brk ret := (slices_Max_int64_int64_l5_gen slices_Max_int64_int64_l5 n m i x1 brk ret).trans (by kernel_rfl)
def slices_Max_int64_int64_body {α : Type}  (G5 : Nat → Int → Int → List Int → (Int → Int → List Int → Option α) → (Int → Option α) → Option α) (k : Nat) (x : List Int) (r0 : Int → Option α) : Option α :=
  bif decide ((((List.length x) : Nat) : Int) < 1) then
    none
  else
  bif (true && decide (0 < (((List.length x) : Nat) : Int))) then
    (x[0]?).bind fun e_ =>
    G5 k e_ 1 x
      (fun m1 i1 x2 =>
        r0 m1)
      r0
  else
    none
theorem slices_Max_int64_int64_gen {α : Type}  (G5 : Nat → Int → Int → List Int → (Int → Int → List Int → Option α) → (Int → Option α) → Option α) (n : Nat) (x : List Int) (κ : Res → Option α) : evFn Try.prog (slices_Max_int64_int64_XG G5 n) Try.f98 (((buildDs slices_Max_int64_int64_sh [.rows (.int .i64) x]).map Prod.fst).getD []) κ = slices_Max_int64_int64_body G5 n x (fun v1 => κ ⟨[.int .i64 v1], []⟩) := by kernel_rfl
theorem slices_Max_int64_int64_ev {α : Type} (n : Nat) (x : List Int) (κ : Res → Option α) : evFn Try.prog (slices_Max_int64_int64_X n) Try.f98 (((buildDs slices_Max_int64_int64_sh [.rows (.int .i64) x]).map Prod.fst).getD []) κ = slices_Max_int64_int64_run n [.rows (.int .i64) x] κ := (slices_Max_int64_int64_gen slices_Max_int64_int64_l5 n x κ).trans (by kernel_rfl)
theorem slices_Max_int64_int64_en (x : List Int) : (entry 0 (((buildDs slices_Max_int64_int64_sh [.rows (.int .i64) x]).map Prod.fst).getD [])).map (fun x => (x.1.length, x.2.lent)) = some (1, []) := by kernel_rfl
theorem slices_Max_int64_int64_good {α : Type} : ∀ n, GoodFn (α := α) Try.prog 98 (byShape slices_Max_int64_int64_sh (slices_Max_int64_int64_run n)) := by
  refine fn_good' Try.func98 (c := (Try.f98.body.getD .skip)) (by kernel_rfl) (by kernel_rfl) (by kernel_rfl) slices_Max_int64_int64_C slices_Max_int64_int64_M eqs slices_Max_int64_int64_lps (fun n => tabC_good (fun _ h => absurd h List.not_mem_nil)) eqs_ok slices_Max_int64_int64_Lt ?_ ?_ slices_Max_int64_int64_sh slices_Max_int64_int64_run ?_
  · refine List.forall_mem_cons.2 ⟨?_, (fun _ h => absurd h List.not_mem_nil)⟩
    · intro p brk ret; show slices_Max_int64_int64_u5 0 p brk ret = none; unfold slices_Max_int64_int64_u5 slices_Max_int64_int64_uG5; split <;> rfl
  · refine List.forall_mem_cons.2 ⟨?_, (fun _ h => absurd h List.not_mem_nil)⟩
    · intro np lent hL n p brk ret st r hb hr
      obtain ⟨rfl, rfl⟩ := hL
      rw [← tpl_of hb]
      change slices_Max_int64_int64_u5 (n + 1) p brk ret = some r at hr
      have hr0 := hr
      unfold slices_Max_int64_int64_u5 slices_Max_int64_int64_uG5 at hr
      split at hr
      · exact (slices_Max_int64_int64_l5_ev n _ _ _ brk ret).trans hr0
      · cases hr
  · intro n p κ r ds hd hr
    have hr0 := hr
    unfold slices_Max_int64_int64_run slices_Max_int64_int64_runG at hr
    split at hr
    · rw [← ds_of hd]
      exact ⟨en_of (slices_Max_int64_int64_en _) ⟨rfl, rfl⟩, (slices_Max_int64_int64_ev n _ κ).trans hr0⟩
    · cases hr

/-! slices.Min[[]int64,int64] -/
def slices_Min_int64_int64_sh : List SkD := [.sl 2 (.int .i64)]
def slices_Min_int64_int64_runG {α : Type} (F : Nat → List Int → (Int → Option α) → Option α) (n : Nat) (p : List P1) (κ : Res → Option α) : Option α := match p with
  | [.rows (.int .i64) x] => F n x (fun v1 => κ ⟨[.int .i64 v1], []⟩)
  | _ => none
def slices_Min_int64_int64_run {α : Type} (n : Nat) (p : List P1) (κ : Res → Option α) : Option α := slices_Min_int64_int64_runG slices_Min_int64_int64 n p κ
def slices_Min_int64_int64_CG {α : Type}  (n : Nat) : FuncId → List D → (Res → Option α) → Option α := tabC []
def slices_Min_int64_int64_C {α : Type} (n : Nat) : FuncId → List D → (Res → Option α) → Option α := slices_Min_int64_int64_CG n
def slices_Min_int64_int64_M : FuncId → List Nat := tabM []
def slices_Min_int64_int64_t5 : Tpl := ⟨[.sl 0, .any, .any, .int .i64, .int .i64, .any, .any, .any, .any, .any, .any, .any, .any, .any, .any, .any, .any, .any, .any, .any, .any, .any, .any, .any, .any], [(0, .rows 0 2 (.int .i64))], []⟩
def slices_Min_int64_int64_uG5 {α : Type} (G : Nat → Int → Int → List Int → (Int → Int → List Int → Option α) → (Int → Option α) → Option α) (n : Nat) (p : List P1) (brk : Nat → List P1 → Option α) (ret : Res → Option α) : Option α := match p with
  | [.int m, .int i, .rows (.int .i64) x1] => G n m i x1 (fun m i x1 => brk 0 [.int m, .int i, .rows (.int .i64) x1]) (fun v1 => ret ⟨[.int .i64 v1], []⟩)
  | _ => none
def slices_Min_int64_int64_u5 {α : Type} (n : Nat) (p : List P1) (brk : Nat → List P1 → Option α) (ret : Res → Option α) : Option α := slices_Min_int64_int64_uG5 slices_Min_int64_int64_l5 n p brk ret
def slices_Min_int64_int64_lpsG {α : Type} (G5 : Nat → Int → Int → List Int → (Int → Int → List Int → Option α) → (Int → Option α) → Option α) : List (LoopT α) := [⟨5, slices_Min_int64_int64_t5, slices_Min_int64_int64_uG5 G5⟩]
def slices_Min_int64_int64_lps {α : Type} : List (LoopT α) := slices_Min_int64_int64_lpsG slices_Min_int64_int64_l5
def slices_Min_int64_int64_XG {α : Type}  (G5 : Nat → Int → Int → List Int → (Int → Int → List Int → Option α) → (Int → Option α) → Option α) (n : Nat) : Ctx α := ⟨slices_Min_int64_int64_CG n, slices_Min_int64_int64_M, eqs, lpOf (slices_Min_int64_int64_lpsG G5) n⟩
def slices_Min_int64_int64_X {α : Type} (n : Nat) : Ctx α := slices_Min_int64_int64_XG slices_Min_int64_int64_l5 n
def slices_Min_int64_int64_Lt (np : Nat) (lent : List (Bool × Nat × Blk)) : Prop := np = 1 ∧ lent = []
def slices_Min_int64_int64_lb5 {α : Type}  (G5 : Nat → Int → Int → List Int → (Int → Int → List Int → Option α) → (Int → Option α) → Option α) (k : Nat) (m : Int) (i : Int) (x1 : List Int) (b0 : Int → Int → List Int → Option α) (r0 : Int → Option α) : Option α :=
  bif decide (i < (((List.length x1) : Nat) : Int)) then
    bif (decide (0 ≤ i) && decide (i < (((List.length x1) : Nat) : Int))) then
      (x1[i.toNat]?).bind fun e_1 =>
      G5 k (min m e_1) (w64 (i + 1)) x1 b0 r0
    else
      none
  else
    b0 m i x1
theorem slices_Min_int64_int64_l5_gen {α : Type}  (G5 : Nat → Int → Int → List Int → (Int → Int → List Int → Option α) → (Int → Option α) → Option α) (n : Nat) (m : Int) (i : Int) (x1 : List Int) (brk : Nat → List P1 → Option α) (ret : Res → Option α) : ev ((slices_Min_int64_int64_XG G5 n).env Try.prog Try.f99 1 []) (findLoop (loopsIn (Try.f99.body.getD .skip)) 5) ((slices_Min_int64_int64_t5.build [.int m, .int i, .rows (.int .i64) x1]).getD ⟨[], []⟩) (roundK (1 * 64) slices_Min_int64_int64_t5 (fun q => slices_Min_int64_int64_uG5 G5 n q brk ret) brk ret) = slices_Min_int64_int64_lb5 G5 n m i x1 (fun m i x1 => brk 0 [.int m, .int i, .rows (.int .i64) x1]) (fun v1 => ret ⟨[.int .i64 v1], []⟩) := by kernel_rfl
theorem slices_Min_int64_int64_l5_ev {α : Type} (n : Nat) (m : Int) (i : Int) (x1 : List Int) (brk : Nat → List P1 → Option α) (ret : Res → Option α) : ev ((slices_Min_int64_int64_X n).env Try.prog Try.f99 1 []) (findLoop (loopsIn (Try.f99.body.getD .skip)) 5) ((slices_Min_int64_int64_t5.build [.int m, .int i, .rows (.int .i64) x1]).getD ⟨[], []⟩) (roundK (1 * 64) slices_Min_int64_int64_t5 (fun q => slices_Min_int64_int64_u5 n q brk ret) brk ret) = slices_Min_int64_int64_u5 (n + 1) [.int m, .int i, .rows (.int .i64) x1] brk ret := (slices_Min_int64_int64_l5_gen slices_Min_int64_int64_l5 n m i x1 brk ret).trans (by kernel_rfl)
def slices_Min_int64_int64_body {α : Type}  (G5 : Nat → Int → Int → List Int → (Int → Int → List Int → Option α) → (Int → Option α) → Option α) (k : Nat) (x : List Int) (r0 : Int → Option α) : Option α :=
  bif decide ((((List.length x) : Nat) : Int) < 1) then
    none
  else
  bif (true && decide (0 < (((List.length x) : Nat) : Int))) then
    (x[0]?).bind fun e_ =>
    G5 k e_ 1 x
      (fun m1 i1 x2 =>
        r0 m1)
      r0
  else
    none
theorem slices_Min_int64_int64_gen {α : Type}  (G5 : Nat → Int → Int → List Int → (Int → Int → List Int → Option α) → (Int → Option α) → Option α) (n : Nat) (x : List Int) (κ : Res → Option α) : evFn Try.prog (slices_Min_int64_int64_XG G5 n) Try.f99 (((buildDs slices_Min_int64_int64_sh [.rows (.int .i64) x]).map Prod.fst).getD []) κ = slices_Min_int64_int64_body G5 n x (fun v1 => κ ⟨[.int .i64 v1], []⟩) := by kernel_rfl
theorem slices_Min_int64_int64_ev {α : Type} (n : Nat) (x : List Int) (κ : Res → Option α) : evFn Try.prog (slices_Min_int64_int64_X n) Try.f99 (((buildDs slices_Min_int64_int64_sh [.rows (.int .i64) x]).map Prod.fst).getD []) κ = slices_Min_int64_int64_run n [.rows (.int .i64) x] κ := (slices_Min_int64_int64_gen slices_Min_int64_int64_l5 n x κ).trans (by kernel_rfl)
theorem slices_Min_int64_int64_en (x : List Int) : (entry 0 (((buildDs slices_Min_int64_int64_sh [.rows (.int .i64) x]).map Prod.fst).getD [])).map (fun x => (x.1.length, x.2.lent)) = some (1, []) := by kernel_rfl
theorem slices_Min_int64_int64_good {α : Type} : ∀ n, GoodFn (α := α) Try.prog 99 (byShape slices_Min_int64_int64_sh (slices_Min_int64_int64_run n)) := by
  refine fn_good' Try.func99 (c := (Try.f99.body.getD .skip)) (by kernel_rfl) (by kernel_rfl) (by kernel_rfl) slices_Min_int64_int64_C slices_Min_int64_int64_M eqs slices_Min_int64_int64_lps (fun n => tabC_good (fun _ h => absurd h List.not_mem_nil)) eqs_ok slices_Min_int64_int64_Lt ?_ ?_ slices_Min_int64_int64_sh slices_Min_int64_int64_run ?_
  · refine List.forall_mem_cons.2 ⟨?_, (fun _ h => absurd h List.not_mem_nil)⟩
    · intro p brk ret; show slices_Min_int64_int64_u5 0 p brk ret = none; unfold slices_Min_int64_int64_u5 slices_Min_int64_int64_uG5; split <;> rfl
  · refine List.forall_mem_cons.2 ⟨?_, (fun _ h => absurd h List.not_mem_nil)⟩
    · intro np lent hL n p brk ret st r hb hr
      obtain ⟨rfl, rfl⟩ := hL
      rw [← tpl_of hb]
      change slices_Min_int64_int64_u5 (n + 1) p brk ret = some r at hr
      have hr0 := hr
      unfold slices_Min_int64_int64_u5 slices_Min_int64_int64_uG5 at hr
      split at hr
      · exact (slices_Min_int64_int64_l5_ev n _ _ _ brk ret).trans hr0
      · cases hr
  · intro n p κ r ds hd hr
    have hr0 := hr
    unfold slices_Min_int64_int64_run slices_Min_int64_int64_runG at hr
    split at hr
    · rw [← ds_of hd]
      exact ⟨en_of (slices_Min_int64_int64_en _) ⟨rfl, rfl⟩, (slices_Min_int64_int64_ev n _ κ).trans hr0⟩
    · cases hr

/-! loop.example/g01297/impl.WidthFor -/
def impl_WidthFor_sh : List SkD := [.sl 33 .pt, .agg [.int .i64, .int .i64]]
def impl_WidthFor_runG {α : Type} (F : Nat → (List (Int × Int)) → Int → Int → (Int → Int → Option α) → Option α) (n : Nat) (p : List P1) (κ : Res → Option α) : Option α := match p with
  | [.rows .pt list, .int u, .int u1] => F n list u u1 (fun v1 v2 => κ ⟨[.int .i64 v1, .int .i64 v2], []⟩)
  | _ => none
def impl_WidthFor_run {α : Type} (n : Nat) (p : List P1) (κ : Res → Option α) : Option α := impl_WidthFor_runG impl_WidthFor n p κ
def impl_WidthFor_CG {α : Type} (F0 : Nat → (List (Int × Int)) → (Bool → Option α) → Option α) (F1 : Nat → Int → Int → (Bool → Option α) → Option α) (F2 : Nat → Int → Int → (Bool → Option α) → Option α) (F3 : Nat → Int → Int → Int → Int → (Int → Option α) → Option α) (F4 : Nat → List Int → (Int → Option α) → Option α) (F5 : Nat → List Int → (Int → Option α) → Option α) (n : Nat) : FuncId → List D → (Res → Option α) → Option α := tabC [(87, (byShape impl_IsPolygon_sh (impl_IsPolygon_runG F0 n))), (88, (byShape impl_IsPoint_sh (impl_IsPoint_runG F1 n))), (97, (byShape impl_Point_isPrimitive_sh (impl_Point_isPrimitive_runG F2 n))), (66, (byShape impl_dot_sh (impl_dot_runG F3 n))), (98, (byShape slices_Max_int64_int64_sh (slices_Max_int64_int64_runG F4 n))), (99, (byShape slices_Min_int64_int64_sh (slices_Min_int64_int64_runG F5 n)))]
def impl_WidthFor_C {α : Type} (n : Nat) : FuncId → List D → (Res → Option α) → Option α := impl_WidthFor_CG impl_IsPolygon impl_IsPoint impl_Point_isPrimitive impl_dot slices_Max_int64_int64 slices_Min_int64_int64 n
def impl_WidthFor_M : FuncId → List Nat := tabM []
def impl_WidthFor_t7 : Tpl := ⟨[.any, .any, .any, .ptr 192 0 0, .any, .any, .sl 1408, .any, .any, .any, .any, .any, .any, .any, .any, .any, .any, .any, .any, .any, .any, .any, .any, .sl 0, .int .i64, .int .i64, .any, .any, .any, .any, .any, .any, .any, .any, .any, .any, .any, .any, .any, .any, .any], [(192, .ints 2 33 .i64 2), (1408, .rows 2 2 (.int .i64)), (0, .rows 0 33 .pt)], []⟩
def impl_WidthFor_uG7 {α : Type} (G : Nat → Int → Int → Int → Int → List Int → (List (Int × Int)) → (Int → Int → Int → Int → List Int → (List (Int × Int)) → Option α) → (Int → Int → Option α) → Option α) (n : Nat) (p : List P1) (brk : Nat → List P1 → Option α) (ret : Res → Option α) : Option α := match p with
  | [.int x, .int x1, .int u2, .int u3, .rows (.int .i64) values, .rows .pt x2] => G n x x1 u2 u3 values x2 (fun x x1 u2 u3 values x2 => brk 1 [.int x, .int x1, .int u2, .int u3, .rows (.int .i64) values, .rows .pt x2]) (fun v1 v2 => ret ⟨[.int .i64 v1, .int .i64 v2], []⟩)
  | _ => none
def impl_WidthFor_u7 {α : Type} (n : Nat) (p : List P1) (brk : Nat → List P1 → Option α) (ret : Res → Option α) : Option α := impl_WidthFor_uG7 impl_WidthFor_l7 n p brk ret
def impl_WidthFor_lpsG {α : Type} (G7 : Nat → Int → Int → Int → Int → List Int → (List (Int × Int)) → (Int → Int → Int → Int → List Int → (List (Int × Int)) → Option α) → (Int → Int → Option α) → Option α) : List (LoopT α) := [⟨7, impl_WidthFor_t7, impl_WidthFor_uG7 G7⟩]
def impl_WidthFor_lps {α : Type} : List (LoopT α) := impl_WidthFor_lpsG impl_WidthFor_l7
def impl_WidthFor_XG {α : Type} (F0 : Nat → (List (Int × Int)) → (Bool → Option α) → Option α) (F1 : Nat → Int → Int → (Bool → Option α) → Option α) (F2 : Nat → Int → Int → (Bool → Option α) → Option α) (F3 : Nat → Int → Int → Int → Int → (Int → Option α) → Option α) (F4 : Nat → List Int → (Int → Option α) → Option α) (F5 : Nat → List Int → (Int → Option α) → Option α) (G7 : Nat → Int → Int → Int → Int → List Int → (List (Int × Int)) → (Int → Int → Int → Int → List Int → (List (Int × Int)) → Option α) → (Int → Int → Option α) → Option α) (n : Nat) : Ctx α := ⟨impl_WidthFor_CG F0 F1 F2 F3 F4 F5 n, impl_WidthFor_M, eqs, lpOf (impl_WidthFor_lpsG G7) n⟩
def impl_WidthFor_X {α : Type} (n : Nat) : Ctx α := impl_WidthFor_XG impl_IsPolygon impl_IsPoint impl_Point_isPrimitive impl_dot slices_Max_int64_int64 slices_Min_int64_int64 impl_WidthFor_l7 n
def impl_WidthFor_Lt (np : Nat) (lent : List (Bool × Nat × Blk)) : Prop := np = 2 ∧ lent = []
def impl_WidthFor_lb7 {α : Type} (F0 : Nat → (List (Int × Int)) → (Bool → Option α) → Option α) (F1 : Nat → Int → Int → (Bool → Option α) → Option α) (F2 : Nat → Int → Int → (Bool → Option α) → Option α) (F3 : Nat → Int → Int → Int → Int → (Int → Option α) → Option α) (F4 : Nat → List Int → (Int → Option α) → Option α) (F5 : Nat → List Int → (Int → Option α) → Option α) (G7 : Nat → Int → Int → Int → Int → List Int → (List (Int × Int)) → (Int → Int → Int → Int → List Int → (List (Int × Int)) → Option α) → (Int → Int → Option α) → Option α) (k : Nat) (x : Int) (x1 : Int) (u2 : Int) (u3 : Int) (values : List Int) (x2 : List (Int × Int)) (b1 : Int → Int → Int → Int → List Int → (List (Int × Int)) → Option α) (r0 : Int → Int → Option α) : Option α :=
  bif decide (x1 < x) then
    bif (decide (0 ≤ x1) && decide (x1 < (((List.length x2) : Nat) : Int))) then
      (x2[x1.toNat]?).bind fun e_ =>
      F3 k u2 u3 e_.1 e_.2 fun v3 =>
      bif decide (((List.length values) + 1) ≤ big) then
        G7 k x (w64 (x1 + 1)) u2 u3 (values ++ [v3]) x2 b1 r0
      else
        none
    else
      none
  else
    b1 x x1 u2 u3 values x2
theorem impl_WidthFor_l7_gen {α : Type} (F0 : Nat → (List (Int × Int)) → (Bool → Option α) → Option α) (F1 : Nat → Int → Int → (Bool → Option α) → Option α) (F2 : Nat → Int → Int → (Bool → Option α) → Option α) (F3 : Nat → Int → Int → Int → Int → (Int → Option α) → Option α) (F4 : Nat → List Int → (Int → Option α) → Option α) (F5 : Nat → List Int → (Int → Option α) → Option α) (G7 : Nat → Int → Int → Int → Int → List Int → (List (Int × Int)) → (Int → Int → Int → Int → List Int → (List (Int × Int)) → Option α) → (Int → Int → Option α) → Option α) (n : Nat) (x : Int) (x1 : Int) (u2 : Int) (u3 : Int) (values : List Int) (x2 : List (Int × Int)) (brk : Nat → List P1 → Option α) (ret : Res → Option α) : ev ((impl_WidthFor_XG F0 F1 F2 F3 F4 F5 G7 n).env Try.prog Try.f50 2 []) (findLoop (loopsIn (Try.f50.body.getD .skip)) 7) ((impl_WidthFor_t7.build [.int x, .int x1, .int u2, .int u3, .rows (.int .i64) values, .rows .pt x2]).getD ⟨[], []⟩) (roundK (2 * 64) impl_WidthFor_t7 (fun q => impl_WidthFor_uG7 G7 n q brk ret) brk ret) = impl_WidthFor_lb7 F0 F1 F2 F3 F4 F5 G7 n x x1 u2 u3 values x2 (fun x x1 u2 u3 values x2 => brk 1 [.int x, .int x1, .int u2, .int u3, .rows (.int .i64) values, .rows .pt x2]) (fun v1 v2 => ret ⟨[.int .i64 v1, .int .i64 v2], []⟩) := by kernel_rfl
theorem impl_WidthFor_l7_ev {α : Type} (n : Nat) (x : Int) (x1 : Int) (u2 : Int) (u3 : Int) (values : List Int) (x2 : List (Int × Int)) (brk : Nat → List P1 → Option α) (ret : Res → Option α) : ev ((impl_WidthFor_X n).env Try.prog Try.f50 2 []) (findLoop (loopsIn (Try.f50.body.getD .skip)) 7) ((impl_WidthFor_t7.build [.int x, .int x1, .int u2, .int u3, .rows (.int .i64) values, .rows .pt x2]).getD ⟨[], []⟩) (roundK (2 * 64) impl_WidthFor_t7 (fun q => impl_WidthFor_u7 n q brk ret) brk ret) = impl_WidthFor_u7 (n + 1) [.int x, .int x1, .int u2, .int u3, .rows (.int .i64) values, .rows .pt x2] brk ret := (impl_WidthFor_l7_gen impl_IsPolygon impl_IsPoint impl_Point_isPrimitive impl_dot slices_Max_int64_int64 slices_Min_int64_int64 impl_WidthFor_l7 n x x1 u2 u3 values x2 brk ret).trans (by kernel_rfl)
def impl_WidthFor_body {α : Type} (F0 : Nat → (List (Int × Int)) → (Bool → Option α) → Option α) (F1 : Nat → Int → Int → (Bool → Option α) → Option α) (F2 : Nat → Int → Int → (Bool → Option α) → Option α) (F3 : Nat → Int → Int → Int → Int → (Int → Option α) → Option α) (F4 : Nat → List Int → (Int → Option α) → Option α) (F5 : Nat → List Int → (Int → Option α) → Option α) (G7 : Nat → Int → Int → Int → Int → List Int → (List (Int × Int)) → (Int → Int → Int → Int → List Int → (List (Int × Int)) → Option α) → (Int → Int → Option α) → Option α) (k : Nat) (list : List (Int × Int)) (u : Int) (u1 : Int) (r0 : Int → Int → Option α) : Option α :=
  F0 k list fun v =>
  bif (!v) then
    r0 0 1
  else
    F1 k u u1 fun v1 =>
    bif (!v1) then
      r0 0 1
    else
      F2 k u u1 fun v2 =>
      bif (!v2) then
        r0 0 5
      else
        G7 k (((List.length list) : Nat) : Int) 0 u u1 [] list
          (fun x3 x4 u4 u5 values1 x5 =>
            F4 k values1 fun v4 =>
            F5 k values1 fun v5 =>
            r0 (w64 (v4 - v5)) 0)
          r0
theorem impl_WidthFor_gen {α : Type} (F0 : Nat → (List (Int × Int)) → (Bool → Option α) → Option α) (F1 : Nat → Int → Int → (Bool → Option α) → Option α) (F2 : Nat → Int → Int → (Bool → Option α) → Option α) (F3 : Nat → Int → Int → Int → Int → (Int → Option α) → Option α) (F4 : Nat → List Int → (Int → Option α) → Option α) (F5 : Nat → List Int → (Int → Option α) → Option α) (G7 : Nat → Int → Int → Int → Int → List Int → (List (Int × Int)) → (Int → Int → Int → Int → List Int → (List (Int × Int)) → Option α) → (Int → Int → Option α) → Option α) (n : Nat) (list : List (Int × Int)) (u : Int) (u1 : Int) (κ : Res → Option α) : evFn Try.prog (impl_WidthFor_XG F0 F1 F2 F3 F4 F5 G7 n) Try.f50 (((buildDs impl_WidthFor_sh [.rows .pt list, .int u, .int u1]).map Prod.fst).getD []) κ = impl_WidthFor_body F0 F1 F2 F3 F4 F5 G7 n list u u1 (fun v1 v2 => κ ⟨[.int .i64 v1, .int .i64 v2], []⟩) := by kernel_rfl
theorem impl_WidthFor_ev {α : Type} (n : Nat) (list : List (Int × Int)) (u : Int) (u1 : Int) (κ : Res → Option α) : evFn Try.prog (impl_WidthFor_X n) Try.f50 (((buildDs impl_WidthFor_sh [.rows .pt list, .int u, .int u1]).map Prod.fst).getD []) κ = impl_WidthFor_run n [.rows .pt list, .int u, .int u1] κ := (impl_WidthFor_gen impl_IsPolygon impl_IsPoint impl_Point_isPrimitive impl_dot slices_Max_int64_int64 slices_Min_int64_int64 impl_WidthFor_l7 n list u u1 κ).trans (by kernel_rfl)
theorem impl_WidthFor_en (list : List (Int × Int)) (u : Int) (u1 : Int) : (entry 0 (((buildDs impl_WidthFor_sh [.rows .pt list, .int u, .int u1]).map Prod.fst).getD [])).map (fun x => (x.1.length, x.2.lent)) = some (2, []) := by kernel_rfl
theorem impl_WidthFor_good {α : Type} : ∀ n, GoodFn (α := α) Try.prog 50 (byShape impl_WidthFor_sh (impl_WidthFor_run n)) := by
  refine fn_good' Try.func50 (c := (Try.f50.body.getD .skip)) (by kernel_rfl) (by kernel_rfl) (by kernel_rfl) impl_WidthFor_C impl_WidthFor_M eqs impl_WidthFor_lps (fun n => tabC_good (List.forall_mem_cons.2 ⟨(impl_IsPolygon_good n), (List.forall_mem_cons.2 ⟨(impl_IsPoint_good n), (List.forall_mem_cons.2 ⟨(impl_Point_isPrimitive_good n), (List.forall_mem_cons.2 ⟨(impl_dot_good n), (List.forall_mem_cons.2 ⟨(slices_Max_int64_int64_good n), (List.forall_mem_cons.2 ⟨(slices_Min_int64_int64_good n), (fun _ h => absurd h List.not_mem_nil)⟩)⟩)⟩)⟩)⟩)⟩)) eqs_ok impl_WidthFor_Lt ?_ ?_ impl_WidthFor_sh impl_WidthFor_run ?_
  · refine List.forall_mem_cons.2 ⟨?_, (fun _ h => absurd h List.not_mem_nil)⟩
    · intro p brk ret; show impl_WidthFor_u7 0 p brk ret = none; unfold impl_WidthFor_u7 impl_WidthFor_uG7; split <;> rfl
  · refine List.forall_mem_cons.2 ⟨?_, (fun _ h => absurd h List.not_mem_nil)⟩
    · intro np lent hL n p brk ret st r hb hr
      obtain ⟨rfl, rfl⟩ := hL
      rw [← tpl_of hb]
      change impl_WidthFor_u7 (n + 1) p brk ret = some r at hr
      have hr0 := hr
      unfold impl_WidthFor_u7 impl_WidthFor_uG7 at hr
      split at hr
      · exact (impl_WidthFor_l7_ev n _ _ _ _ _ _ brk ret).trans hr0
      · cases hr
  · intro n p κ r ds hd hr
    have hr0 := hr
    unfold impl_WidthFor_run impl_WidthFor_runG at hr
    split at hr
    · rw [← ds_of hd]
      exact ⟨en_of (impl_WidthFor_en _ _ _) ⟨rfl, rfl⟩, (impl_WidthFor_ev n _ _ _ κ).trans hr0⟩
    · cases hr

/-! loop.example/g01297/laws.eqPoint -/
def laws_eqPoint_sh : List SkD := [.agg [.int .i64, .int .i64], .agg [.int .i64, .int .i64]]
def laws_eqPoint_runG {α : Type} (F : Nat → Int → Int → Int → Int → (Bool → Option α) → Option α) (n : Nat) (p : List P1) (κ : Res → Option α) : Option α := match p with
  | [.int a, .int a1, .int b_, .int b_1] => F n a a1 b_ b_1 (fun v1 => κ ⟨[.bool v1], []⟩)
  | _ => none
def laws_eqPoint_run {α : Type} (n : Nat) (p : List P1) (κ : Res → Option α) : Option α := laws_eqPoint_runG laws_eqPoint n p κ
def laws_eqPoint_CG {α : Type}  (n : Nat) : FuncId → List D → (Res → Option α) → Option α := tabC []
def laws_eqPoint_C {α : Type} (n : Nat) : FuncId → List D → (Res → Option α) → Option α := laws_eqPoint_CG n
def laws_eqPoint_M : FuncId → List Nat := tabM []
def laws_eqPoint_lpsG {α : Type}  : List (LoopT α) := []
def laws_eqPoint_lps {α : Type} : List (LoopT α) := laws_eqPoint_lpsG
def laws_eqPoint_XG {α : Type}   (n : Nat) : Ctx α := ⟨laws_eqPoint_CG n, laws_eqPoint_M, eqs, lpOf (laws_eqPoint_lpsG) n⟩
def laws_eqPoint_X {α : Type} (n : Nat) : Ctx α := laws_eqPoint_XG n
def laws_eqPoint_Lt (np : Nat) (lent : List (Bool × Nat × Blk)) : Prop := np = 2 ∧ lent = []
def laws_eqPoint_body {α : Type}   (k : Nat) (a : Int) (a1 : Int) (b_ : Int) (b_1 : Int) (r0 : Bool → Option α) : Option α :=
  bif (!decide (a = b_)) then
    r0 false
  else
  bif (!decide (a1 = b_1)) then
    r0 false
  else
    r0 true
theorem laws_eqPoint_gen {α : Type}   (n : Nat) (a : Int) (a1 : Int) (b_ : Int) (b_1 : Int) (κ : Res → Option α) : evFn Try.prog (laws_eqPoint_XG n) Try.f67 (((buildDs laws_eqPoint_sh [.int a, .int a1, .int b_, .int b_1]).map Prod.fst).getD []) κ = laws_eqPoint_body n a a1 b_ b_1 (fun v1 => κ ⟨[.bool v1], []⟩) := by kernel_rfl
theorem laws_eqPoint_ev {α : Type} (n : Nat) (a : Int) (a1 : Int) (b_ : Int) (b_1 : Int) (κ : Res → Option α) : evFn Try.prog (laws_eqPoint_X n) Try.f67 (((buildDs laws_eqPoint_sh [.int a, .int a1, .int b_, .int b_1]).map Prod.fst).getD []) κ = laws_eqPoint_run n [.int a, .int a1, .int b_, .int b_1] κ := (laws_eqPoint_gen n a a1 b_ b_1 κ).trans (by kernel_rfl)
theorem laws_eqPoint_en (a : Int) (a1 : Int) (b_ : Int) (b_1 : Int) : (entry 0 (((buildDs laws_eqPoint_sh [.int a, .int a1, .int b_, .int b_1]).map Prod.fst).getD [])).map (fun x => (x.1.length, x.2.lent)) = some (2, []) := by kernel_rfl
theorem laws_eqPoint_good {α : Type} : ∀ n, GoodFn (α := α) Try.prog 67 (byShape laws_eqPoint_sh (laws_eqPoint_run n)) := by
  refine fn_good' Try.func67 (c := (Try.f67.body.getD .skip)) (by kernel_rfl) (by kernel_rfl) (by kernel_rfl) laws_eqPoint_C laws_eqPoint_M eqs laws_eqPoint_lps (fun n => tabC_good (fun _ h => absurd h List.not_mem_nil)) eqs_ok laws_eqPoint_Lt ?_ ?_ laws_eqPoint_sh laws_eqPoint_run ?_
  · exact (fun _ h => absurd h List.not_mem_nil)
  · exact (fun _ h => absurd h List.not_mem_nil)
  · intro n p κ r ds hd hr
    have hr0 := hr
    unfold laws_eqPoint_run laws_eqPoint_runG at hr
    split at hr
    · rw [← ds_of hd]
      exact ⟨en_of (laws_eqPoint_en _ _ _ _) ⟨rfl, rfl⟩, (laws_eqPoint_ev n _ _ _ _ κ).trans hr0⟩
    · cases hr

/-! loop.example/g01297/laws.eqPointS -/
def laws_eqPointS_sh : List SkD := [.sl 33 .pt, .sl 33 .pt]
def laws_eqPointS_runG {α : Type} (F : Nat → (List (Int × Int)) → (List (Int × Int)) → (Bool → Option α) → Option α) (n : Nat) (p : List P1) (κ : Res → Option α) : Option α := match p with
  | [.rows .pt a, .rows .pt b_] => F n a b_ (fun v1 => κ ⟨[.bool v1], []⟩)
  | _ => none
def laws_eqPointS_run {α : Type} (n : Nat) (p : List P1) (κ : Res → Option α) : Option α := laws_eqPointS_runG laws_eqPointS n p κ
def laws_eqPointS_CG {α : Type} (F0 : Nat → Int → Int → Int → Int → (Bool → Option α) → Option α) (n : Nat) : FuncId → List D → (Res → Option α) → Option α := tabC [(67, (byShape laws_eqPoint_sh (laws_eqPoint_runG F0 n)))]
def laws_eqPointS_C {α : Type} (n : Nat) : FuncId → List D → (Res → Option α) → Option α := laws_eqPointS_CG laws_eqPoint n
def laws_eqPointS_M : FuncId → List Nat := tabM []
def laws_eqPointS_t4 : Tpl := ⟨[.sl 0, .sl 64, .any, .any, .any, .int .i64, .any, .any, .any, .any, .any, .any, .any, .any, .any, .any, .any, .any, .any, .any, .any, .any, .any, .any, .any, .any, .any], [(0, .rows 0 33 .pt), (64, .rows 0 33 .pt)], []⟩
def laws_eqPointS_uG4 {α : Type} (G : Nat → Int → (List (Int × Int)) → (List (Int × Int)) → (Int → (List (Int × Int)) → (List (Int × Int)) → Option α) → (Bool → Option α) → Option α) (n : Nat) (p : List P1) (brk : Nat → List P1 → Option α) (ret : Res → Option α) : Option α := match p with
  | [.int i, .rows .pt a1, .rows .pt b_1] => G n i a1 b_1 (fun i a1 b_1 => brk 0 [.int i, .rows .pt a1, .rows .pt b_1]) (fun v1 => ret ⟨[.bool v1], []⟩)
  | _ => none
def laws_eqPointS_u4 {α : Type} (n : Nat) (p : List P1) (brk : Nat → List P1 → Option α) (ret : Res → Option α) : Option α := laws_eqPointS_uG4 laws_eqPointS_l4 n p brk ret
def laws_eqPointS_lpsG {α : Type} (G4 : Nat → Int → (List (Int × Int)) → (List (Int × Int)) → (Int → (List (Int × Int)) → (List (Int × Int)) → Option α) → (Bool → Option α) → Option α) : List (LoopT α) := [⟨4, laws_eqPointS_t4, laws_eqPointS_uG4 G4⟩]
def laws_eqPointS_lps {α : Type} : List (LoopT α) := laws_eqPointS_lpsG laws_eqPointS_l4
def laws_eqPointS_XG {α : Type} (F0 : Nat → Int → Int → Int → Int → (Bool → Option α) → Option α) (G4 : Nat → Int → (List (Int × Int)) → (List (Int × Int)) → (Int → (List (Int × Int)) → (List (Int × Int)) → Option α) → (Bool → Option α) → Option α) (n : Nat) : Ctx α := ⟨laws_eqPointS_CG F0 n, laws_eqPointS_M, eqs, lpOf (laws_eqPointS_lpsG G4) n⟩
def laws_eqPointS_X {α : Type} (n : Nat) : Ctx α := laws_eqPointS_XG laws_eqPoint laws_eqPointS_l4 n
def laws_eqPointS_Lt (np : Nat) (lent : List (Bool × Nat × Blk)) : Prop := np = 2 ∧ lent = []
def laws_eqPointS_lb4 {α : Type} (F0 : Nat → Int → Int → Int → Int → (Bool → Option α) → Option α) (G4 : Nat → Int → (List (Int × Int)) → (List (Int × Int)) → (Int → (List (Int × Int)) → (List (Int × Int)) → Option α) → (Bool → Option α) → Option α) (k : Nat) (i : Int) (a1 : List (Int × Int)) (b_1 : List (Int × Int)) (b0 : Int → (List (Int × Int)) → (List (Int × Int)) → Option α) (r0 : Bool → Option α) : Option α :=
  bif decide (i < (((List.length a1) : Nat) : Int)) then
    bif (decide (0 ≤ i) && decide (i < (((List.length a1) : Nat) : Int))) then
      (a1[i.toNat]?).bind fun e_ =>
      bif (decide (0 ≤ i) && decide (i < (((List.length b_1) : Nat) : Int))) then
        (b_1[i.toNat]?).bind fun e_1 =>
        F0 k e_.1 e_.2 e_1.1 e_1.2 fun v =>
        bif (!v) then
          r0 false
        else
          G4 k (w64 (i + 1)) a1 b_1 b0 r0
      else
        none
    else
      none
  else
    b0 i a1 b_1
theorem laws_eqPointS_l4_gen {α : Type} (F0 : Nat → Int → Int → Int → Int → (Bool → Option α) → Option α) (G4 : Nat → Int → (List (Int × Int)) → (List (Int × Int)) → (Int → (List (Int × Int)) → (List (Int × Int)) → Option α) → (Bool → Option α) → Option α) (n : Nat) (i : Int) (a1 : List (Int × Int)) (b_1 : List (Int × Int)) (brk : Nat → List P1 → Option α) (ret : Res → Option α) : ev ((laws_eqPointS_XG F0 G4 n).env Try.prog Try.f21 2 []) (findLoop (loopsIn (Try.f21.body.getD .skip)) 4) ((laws_eqPointS_t4.build [.int i, .rows .pt a1, .rows .pt b_1]).getD ⟨[], []⟩) (roundK (2 * 64) laws_eqPointS_t4 (fun q => laws_eqPointS_uG4 G4 n q brk ret) brk ret) = laws_eqPointS_lb4 F0 G4 n i a1 b_1 (fun i a1 b_1 => brk 0 [.int i, .rows .pt a1, .rows .pt b_1]) (fun v1 => ret ⟨[.bool v1], []⟩) := by kernel_rfl
theorem laws_eqPointS_l4_ev {α : Type} (n : Nat) (i : Int) (a1 : List (Int × Int)) (b_1 : List (Int × Int)) (brk : Nat → List P1 → Option α) (ret : Res → Option α) : ev ((laws_eqPointS_X n).env Try.prog Try.f21 2 []) (findLoop (loopsIn (Try.f21.body.getD .skip)) 4) ((laws_eqPointS_t4.build [.int i, .rows .pt a1, .rows .pt b_1]).getD ⟨[], []⟩) (roundK (2 * 64) laws_eqPointS_t4 (fun q => laws_eqPointS_u4 n q brk ret) brk ret) = laws_eqPointS_u4 (n + 1) [.int i, .rows .pt a1, .rows .pt b_1] brk ret := (laws_eqPointS_l4_gen laws_eqPoint laws_eqPointS_l4 n i a1 b_1 brk ret).trans (by kernel_rfl)
def laws_eqPointS_body {α : Type} (F0 : Nat → Int → Int → Int → Int → (Bool → Option α) → Option α) (G4 : Nat → Int → (List (Int × Int)) → (List (Int × Int)) → (Int → (List (Int × Int)) → (List (Int × Int)) → Option α) → (Bool → Option α) → Option α) (k : Nat) (a : List (Int × Int)) (b_ : List (Int × Int)) (r0 : Bool → Option α) : Option α :=
  bif (!decide ((((List.length a) : Nat) : Int) = (((List.length b_) : Nat) : Int))) then
    r0 false
  else
    G4 k 0 a b_
      (fun i1 a2 b_2 =>
        r0 true)
      r0
theorem laws_eqPointS_gen {α : Type} (F0 : Nat → Int → Int → Int → Int → (Bool → Option α) → Option α) (G4 : Nat → Int → (List (Int × Int)) → (List (Int × Int)) → (Int → (List (Int × Int)) → (List (Int × Int)) → Option α) → (Bool → Option α) → Option α) (n : Nat) (a : List (Int × Int)) (b_ : List (Int × Int)) (κ : Res → Option α) : evFn Try.prog (laws_eqPointS_XG F0 G4 n) Try.f21 (((buildDs laws_eqPointS_sh [.rows .pt a, .rows .pt b_]).map Prod.fst).getD []) κ = laws_eqPointS_body F0 G4 n a b_ (fun v1 => κ ⟨[.bool v1], []⟩) := by kernel_rfl
theorem laws_eqPointS_ev {α : Type} (n : Nat) (a : List (Int × Int)) (b_ : List (Int × Int)) (κ : Res → Option α) : evFn Try.prog (laws_eqPointS_X n) Try.f21 (((buildDs laws_eqPointS_sh [.rows .pt a, .rows .pt b_]).map Prod.fst).getD []) κ = laws_eqPointS_run n [.rows .pt a, .rows .pt b_] κ := (laws_eqPointS_gen laws_eqPoint laws_eqPointS_l4 n a b_ κ).trans (by kernel_rfl)
theorem laws_eqPointS_en (a : List (Int × Int)) (b_ : List (Int × Int)) : (entry 0 (((buildDs laws_eqPointS_sh [.rows .pt a, .rows .pt b_]).map Prod.fst).getD [])).map (fun x => (x.1.length, x.2.lent)) = some (2, []) := by kernel_rfl
theorem laws_eqPointS_good {α : Type} : ∀ n, GoodFn (α := α) Try.prog 21 (byShape laws_eqPointS_sh (laws_eqPointS_run n)) := by
  refine fn_good' Try.func21 (c := (Try.f21.body.getD .skip)) (by kernel_rfl) (by kernel_rfl) (by kernel_rfl) laws_eqPointS_C laws_eqPointS_M eqs laws_eqPointS_lps (fun n => tabC_good (List.forall_mem_cons.2 ⟨(laws_eqPoint_good n), (fun _ h => absurd h List.not_mem_nil)⟩)) eqs_ok laws_eqPointS_Lt ?_ ?_ laws_eqPointS_sh laws_eqPointS_run ?_
  · refine List.forall_mem_cons.2 ⟨?_, (fun _ h => absurd h List.not_mem_nil)⟩
    · intro p brk ret; show laws_eqPointS_u4 0 p brk ret = none; unfold laws_eqPointS_u4 laws_eqPointS_uG4; split <;> rfl
  · refine List.forall_mem_cons.2 ⟨?_, (fun _ h => absurd h List.not_mem_nil)⟩
    · intro np lent hL n p brk ret st r hb hr
      obtain ⟨rfl, rfl⟩ := hL
      rw [← tpl_of hb]
      change laws_eqPointS_u4 (n + 1) p brk ret = some r at hr
      have hr0 := hr
      unfold laws_eqPointS_u4 laws_eqPointS_uG4 at hr
      split at hr
      · exact (laws_eqPointS_l4_ev n _ _ _ brk ret).trans hr0
      · cases hr
  · intro n p κ r ds hd hr
    have hr0 := hr
    unfold laws_eqPointS_run laws_eqPointS_runG at hr
    split at hr
    · rw [← ds_of hd]
      exact ⟨en_of (laws_eqPointS_en _ _) ⟨rfl, rfl⟩, (laws_eqPointS_ev n _ _ κ).trans hr0⟩
    · cases hr

end Go.Proofs.Ytnfpidnnmgedfaa
