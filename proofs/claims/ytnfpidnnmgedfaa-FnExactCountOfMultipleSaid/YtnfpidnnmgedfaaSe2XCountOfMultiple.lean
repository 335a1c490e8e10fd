/- The program's functions hold to their readings without memory: printed by a program of ours. -/
import Derived.Test.YtnfpidnnmgedfaaSe1XCountOfMultiple
namespace Go.Proofs.Ytnfpidnnmgedfaa
open Go Go.Ev Go.Sh Go.Proofs

/-! (loop.example/g01297/impl.polygon).sum -/
def impl_polygon_sum_1F_impl_det_sh : List SkD := [.sl 33 .pt, .fn 115 []]
def impl_polygon_sum_1F_impl_det_runG {α : Type} (F : Nat → (List (Int × Int)) → (Int → Option α) → Option α) (n : Nat) (p : List P1) (κ : Res → Option α) : Option α := match p with
  | [.rows .pt p_] => F n p_ (fun v1 => κ ⟨[.int .i64 v1], []⟩)
  | _ => none
def impl_polygon_sum_1F_impl_det_run {α : Type} (n : Nat) (p : List P1) (κ : Res → Option α) : Option α := impl_polygon_sum_1F_impl_det_runG impl_polygon_sum_1F_impl_det n p κ
def impl_polygon_sum_1F_impl_det_CG {α : Type} (F0 : Nat → (List (Int × Int)) → Int → (Int → Int → Option α) → Option α) (F1 : Nat → Int → Int → Int → Int → (Int → Option α) → Option α) (n : Nat) : FuncId → List D → (Res → Option α) → Option α := tabC [(142, (byShape impl_polygon_next_sh (impl_polygon_next_runG F0 n))), (115, (byShape impl_det_sh (impl_det_runG F1 n)))]
def impl_polygon_sum_1F_impl_det_C {α : Type} (n : Nat) : FuncId → List D → (Res → Option α) → Option α := impl_polygon_sum_1F_impl_det_CG impl_polygon_next impl_det n
def impl_polygon_sum_1F_impl_det_M : FuncId → List Nat := tabM []
def impl_polygon_sum_1F_impl_det_t3 : Tpl := ⟨[.sl 0, .fn 115 [], .any, .any, .any, .int .i64, .any, .any, .sl 0, .int .i64, .int .i64, .any, .any, .any, .any, .any, .any, .any, .any, .any, .any, .any, .any, .any, .any], [(0, .rows 0 33 .pt)], []⟩
def impl_polygon_sum_1F_impl_det_uG3 {α : Type} (G : Nat → Int → Int → Int → (List (Int × Int)) → (Int → Int → Int → (List (Int × Int)) → Option α) → (Int → Option α) → Option α) (n : Nat) (p : List P1) (brk : Nat → List P1 → Option α) (ret : Res → Option α) : Option α := match p with
  | [.int out, .int x, .int x1, .rows .pt p_1] => G n out x x1 p_1 (fun out x x1 p_1 => brk 0 [.int out, .int x, .int x1, .rows .pt p_1]) (fun v1 => ret ⟨[.int .i64 v1], []⟩)
  | _ => none
def impl_polygon_sum_1F_impl_det_u3 {α : Type} (n : Nat) (p : List P1) (brk : Nat → List P1 → Option α) (ret : Res → Option α) : Option α := impl_polygon_sum_1F_impl_det_uG3 impl_polygon_sum_1F_impl_det_l3 n p brk ret
def impl_polygon_sum_1F_impl_det_lpsG {α : Type} (G3 : Nat → Int → Int → Int → (List (Int × Int)) → (Int → Int → Int → (List (Int × Int)) → Option α) → (Int → Option α) → Option α) : List (LoopT α) := [⟨3, impl_polygon_sum_1F_impl_det_t3, impl_polygon_sum_1F_impl_det_uG3 G3⟩]
def impl_polygon_sum_1F_impl_det_lps {α : Type} : List (LoopT α) := impl_polygon_sum_1F_impl_det_lpsG impl_polygon_sum_1F_impl_det_l3
def impl_polygon_sum_1F_impl_det_XG {α : Type} (F0 : Nat → (List (Int × Int)) → Int → (Int → Int → Option α) → Option α) (F1 : Nat → Int → Int → Int → Int → (Int → Option α) → Option α) (G3 : Nat → Int → Int → Int → (List (Int × Int)) → (Int → Int → Int → (List (Int × Int)) → Option α) → (Int → Option α) → Option α) (n : Nat) : Ctx α := ⟨impl_polygon_sum_1F_impl_det_CG F0 F1 n, impl_polygon_sum_1F_impl_det_M, eqs, lpOf (impl_polygon_sum_1F_impl_det_lpsG G3) n⟩
def impl_polygon_sum_1F_impl_det_X {α : Type} (n : Nat) : Ctx α := impl_polygon_sum_1F_impl_det_XG impl_polygon_next impl_det impl_polygon_sum_1F_impl_det_l3 n
def impl_polygon_sum_1F_impl_det_Lt (np : Nat) (lent : List (Bool × Nat × Blk)) : Prop := np = 2 ∧ lent = []
def impl_polygon_sum_1F_impl_det_lb3 {α : Type} (F0 : Nat → (List (Int × Int)) → Int → (Int → Int → Option α) → Option α) (F1 : Nat → Int → Int → Int → Int → (Int → Option α) → Option α) (G3 : Nat → Int → Int → Int → (List (Int × Int)) → (Int → Int → Int → (List (Int × Int)) → Option α) → (Int → Option α) → Option α) (k : Nat) (out : Int) (x : Int) (x1 : Int) (p_1 : List (Int × Int)) (b0 : Int → Int → Int → (List (Int × Int)) → Option α) (r0 : Int → Option α) : Option α :=
  bif decide (x1 < x) then
    bif (decide (0 ≤ x1) && decide (x1 < (((List.length p_1) : Nat) : Int))) then
      (p_1[x1.toNat]?).bind fun e_ =>
      F0 k p_1 x1 fun v v1 =>
      F1 k e_.1 e_.2 v v1 fun v2 =>
      G3 k (w64 (out + v2)) x (w64 (x1 + 1)) p_1 b0 r0
    else
      none
  else
    b0 out x x1 p_1
theorem impl_polygon_sum_1F_impl_det_l3_gen {α : Type} (F0 : Nat → (List (Int × Int)) → Int → (Int → Int → Option α) → Option α) (F1 : Nat → Int → Int → Int → Int → (Int → Option α) → Option α) (G3 : Nat → Int → Int → Int → (List (Int × Int)) → (Int → Int → Int → (List (Int × Int)) → Option α) → (Int → Option α) → Option α) (n : Nat) (out : Int) (x : Int) (x1 : Int) (p_1 : List (Int × Int)) (brk : Nat → List P1 → Option α) (ret : Res → Option α) : ev ((impl_polygon_sum_1F_impl_det_XG F0 F1 G3 n).env Try.prog Try.f117 2 []) (findLoop (loopsIn (Try.f117.body.getD .skip)) 3) ((impl_polygon_sum_1F_impl_det_t3.build [.int out, .int x, .int x1, .rows .pt p_1]).getD ⟨[], []⟩) (roundK (2 * 64) impl_polygon_sum_1F_impl_det_t3 (fun q => impl_polygon_sum_1F_impl_det_uG3 G3 n q brk ret) brk ret) = impl_polygon_sum_1F_impl_det_lb3 F0 F1 G3 n out x x1 p_1 (fun out x x1 p_1 => brk 0 [.int out, .int x, .int x1, .rows .pt p_1]) (fun v1 => ret ⟨[.int .i64 v1], []⟩) := by kernel_rfl
theorem impl_polygon_sum_1F_impl_det_l3_ev {α : Type} (n : Nat) (out : Int) (x : Int) (x1 : Int) (p_1 : List (Int × Int)) (brk : Nat → List P1 → Option α) (ret : Res → Option α) : ev ((impl_polygon_sum_1F_impl_det_X n).env Try.prog Try.f117 2 []) (findLoop (loopsIn (Try.f117.body.getD .skip)) 3) ((impl_polygon_sum_1F_impl_det_t3.build [.int out, .int x, .int x1, .rows .pt p_1]).getD ⟨[], []⟩) (roundK (2 * 64) impl_polygon_sum_1F_impl_det_t3 (fun q => impl_polygon_sum_1F_impl_det_u3 n q brk ret) brk ret) = impl_polygon_sum_1F_impl_det_u3 (n + 1) [.int out, .int x, .int x1, .rows .pt p_1] brk ret := (impl_polygon_sum_1F_impl_det_l3_gen impl_polygon_next impl_det impl_polygon_sum_1F_impl_det_l3 n out x x1 p_1 brk ret).trans (by kernel_rfl)
def impl_polygon_sum_1F_impl_det_body {α : Type} (F0 : Nat → (List (Int × Int)) → Int → (Int → Int → Option α) → Option α) (F1 : Nat → Int → Int → Int → Int → (Int → Option α) → Option α) (G3 : Nat → Int → Int → Int → (List (Int × Int)) → (Int → Int → Int → (List (Int × Int)) → Option α) → (Int → Option α) → Option α) (k : Nat) (p_ : List (Int × Int)) (r0 : Int → Option α) : Option α :=
  G3 k 0 (((List.length p_) : Nat) : Int) 0 p_
    (fun out1 x2 x3 p_2 =>
      r0 out1)
    r0
theorem impl_polygon_sum_1F_impl_det_gen {α : Type} (F0 : Nat → (List (Int × Int)) → Int → (Int → Int → Option α) → Option α) (F1 : Nat → Int → Int → Int → Int → (Int → Option α) → Option α) (G3 : Nat → Int → Int → Int → (List (Int × Int)) → (Int → Int → Int → (List (Int × Int)) → Option α) → (Int → Option α) → Option α) (n : Nat) (p_ : List (Int × Int)) (κ : Res → Option α) : evFn Try.prog (impl_polygon_sum_1F_impl_det_XG F0 F1 G3 n) Try.f117 (((buildDs impl_polygon_sum_1F_impl_det_sh [.rows .pt p_]).map Prod.fst).getD []) κ = impl_polygon_sum_1F_impl_det_body F0 F1 G3 n p_ (fun v1 => κ ⟨[.int .i64 v1], []⟩) := by kernel_rfl
theorem impl_polygon_sum_1F_impl_det_ev {α : Type} (n : Nat) (p_ : List (Int × Int)) (κ : Res → Option α) : evFn Try.prog (impl_polygon_sum_1F_impl_det_X n) Try.f117 (((buildDs impl_polygon_sum_1F_impl_det_sh [.rows .pt p_]).map Prod.fst).getD []) κ = impl_polygon_sum_1F_impl_det_run n [.rows .pt p_] κ := (impl_polygon_sum_1F_impl_det_gen impl_polygon_next impl_det impl_polygon_sum_1F_impl_det_l3 n p_ κ).trans (by kernel_rfl)
theorem impl_polygon_sum_1F_impl_det_en (p_ : List (Int × Int)) : (entry 0 (((buildDs impl_polygon_sum_1F_impl_det_sh [.rows .pt p_]).map Prod.fst).getD [])).map (fun x => (x.1.length, x.2.lent)) = some (2, []) := by kernel_rfl
theorem impl_polygon_sum_1F_impl_det_good {α : Type} : ∀ n, GoodFn (α := α) Try.prog 117 (byShape impl_polygon_sum_1F_impl_det_sh (impl_polygon_sum_1F_impl_det_run n)) := by
  refine fn_good' Try.func117 (c := (Try.f117.body.getD .skip)) (by kernel_rfl) (by kernel_rfl) (by kernel_rfl) impl_polygon_sum_1F_impl_det_C impl_polygon_sum_1F_impl_det_M eqs impl_polygon_sum_1F_impl_det_lps (fun n => tabC_good (List.forall_mem_cons.2 ⟨(impl_polygon_next_good n), (List.forall_mem_cons.2 ⟨(impl_det_good n), (fun _ h => absurd h List.not_mem_nil)⟩)⟩)) eqs_ok impl_polygon_sum_1F_impl_det_Lt ?_ ?_ impl_polygon_sum_1F_impl_det_sh impl_polygon_sum_1F_impl_det_run ?_
  · refine List.forall_mem_cons.2 ⟨?_, (fun _ h => absurd h List.not_mem_nil)⟩
    · intro p brk ret; show impl_polygon_sum_1F_impl_det_u3 0 p brk ret = none; unfold impl_polygon_sum_1F_impl_det_u3 impl_polygon_sum_1F_impl_det_uG3; split <;> rfl
  · refine List.forall_mem_cons.2 ⟨?_, (fun _ h => absurd h List.not_mem_nil)⟩
    · intro np lent hL n p brk ret st r hb hr
      obtain ⟨rfl, rfl⟩ := hL
      rw [← tpl_of hb]
      change impl_polygon_sum_1F_impl_det_u3 (n + 1) p brk ret = some r at hr
      have hr0 := hr
      unfold impl_polygon_sum_1F_impl_det_u3 impl_polygon_sum_1F_impl_det_uG3 at hr
      split at hr
      · exact (impl_polygon_sum_1F_impl_det_l3_ev n _ _ _ _ brk ret).trans hr0
      · cases hr
  · intro n p κ r ds hd hr
    have hr0 := hr
    unfold impl_polygon_sum_1F_impl_det_run impl_polygon_sum_1F_impl_det_runG at hr
    split at hr
    · rw [← ds_of hd]
      exact ⟨en_of (impl_polygon_sum_1F_impl_det_en _) ⟨rfl, rfl⟩, (impl_polygon_sum_1F_impl_det_ev n _ κ).trans hr0⟩
    · cases hr

/-! (loop.example/g01297/impl.polygon).area -/
def impl_polygon_area_sh : List SkD := [.sl 33 .pt]
def impl_polygon_area_runG {α : Type} (F : Nat → (List (Int × Int)) → (Int → Option α) → Option α) (n : Nat) (p : List P1) (κ : Res → Option α) : Option α := match p with
  | [.rows .pt p_] => F n p_ (fun v1 => κ ⟨[.int .i64 v1], []⟩)
  | _ => none
def impl_polygon_area_run {α : Type} (n : Nat) (p : List P1) (κ : Res → Option α) : Option α := impl_polygon_area_runG impl_polygon_area n p κ
def impl_polygon_area_CG {α : Type} (F0 : Nat → (List (Int × Int)) → (Int → Option α) → Option α) (n : Nat) : FuncId → List D → (Res → Option α) → Option α := tabC [(117, (byShape impl_polygon_sum_1F_impl_det_sh (impl_polygon_sum_1F_impl_det_runG F0 n)))]
def impl_polygon_area_C {α : Type} (n : Nat) : FuncId → List D → (Res → Option α) → Option α := impl_polygon_area_CG impl_polygon_sum_1F_impl_det n
def impl_polygon_area_M : FuncId → List Nat := tabM []
def impl_polygon_area_lpsG {α : Type}  : List (LoopT α) := []
def impl_polygon_area_lps {α : Type} : List (LoopT α) := impl_polygon_area_lpsG
def impl_polygon_area_XG {α : Type} (F0 : Nat → (List (Int × Int)) → (Int → Option α) → Option α)  (n : Nat) : Ctx α := ⟨impl_polygon_area_CG F0 n, impl_polygon_area_M, eqs, lpOf (impl_polygon_area_lpsG) n⟩
def impl_polygon_area_X {α : Type} (n : Nat) : Ctx α := impl_polygon_area_XG impl_polygon_sum_1F_impl_det n
def impl_polygon_area_Lt (np : Nat) (lent : List (Bool × Nat × Blk)) : Prop := np = 1 ∧ lent = []
def impl_polygon_area_body {α : Type} (F0 : Nat → (List (Int × Int)) → (Int → Option α) → Option α)  (k : Nat) (p_ : List (Int × Int)) (r0 : Int → Option α) : Option α :=
  F0 k p_ fun v =>
  r0 v
theorem impl_polygon_area_gen {α : Type} (F0 : Nat → (List (Int × Int)) → (Int → Option α) → Option α)  (n : Nat) (p_ : List (Int × Int)) (κ : Res → Option α) : evFn Try.prog (impl_polygon_area_XG F0 n) Try.f71 (((buildDs impl_polygon_area_sh [.rows .pt p_]).map Prod.fst).getD []) κ = impl_polygon_area_body F0 n p_ (fun v1 => κ ⟨[.int .i64 v1], []⟩) := by kernel_rfl
theorem impl_polygon_area_ev {α : Type} (n : Nat) (p_ : List (Int × Int)) (κ : Res → Option α) : evFn Try.prog (impl_polygon_area_X n) Try.f71 (((buildDs impl_polygon_area_sh [.rows .pt p_]).map Prod.fst).getD []) κ = impl_polygon_area_run n [.rows .pt p_] κ := (impl_polygon_area_gen impl_polygon_sum_1F_impl_det n p_ κ).trans (by kernel_rfl)
theorem impl_polygon_area_en (p_ : List (Int × Int)) : (entry 0 (((buildDs impl_polygon_area_sh [.rows .pt p_]).map Prod.fst).getD [])).map (fun x => (x.1.length, x.2.lent)) = some (1, []) := by kernel_rfl
theorem impl_polygon_area_good {α : Type} : ∀ n, GoodFn (α := α) Try.prog 71 (byShape impl_polygon_area_sh (impl_polygon_area_run n)) := by
  refine fn_good' Try.func71 (c := (Try.f71.body.getD .skip)) (by kernel_rfl) (by kernel_rfl) (by kernel_rfl) impl_polygon_area_C impl_polygon_area_M eqs impl_polygon_area_lps (fun n => tabC_good (List.forall_mem_cons.2 ⟨(impl_polygon_sum_1F_impl_det_good n), (fun _ h => absurd h List.not_mem_nil)⟩)) eqs_ok impl_polygon_area_Lt ?_ ?_ impl_polygon_area_sh impl_polygon_area_run ?_
  · exact (fun _ h => absurd h List.not_mem_nil)
  · exact (fun _ h => absurd h List.not_mem_nil)
  · intro n p κ r ds hd hr
    have hr0 := hr
    unfold impl_polygon_area_run impl_polygon_area_runG at hr
    split at hr
    · rw [← ds_of hd]
      exact ⟨en_of (impl_polygon_area_en _) ⟨rfl, rfl⟩, (impl_polygon_area_ev n _ κ).trans hr0⟩
    · cases hr

/-! loop.example/g01297/impl.size -/
def impl_size_sh : List SkD := [.int .i64]
def impl_size_runG {α : Type} (F : Nat → Int → (Int → Option α) → Option α) (n : Nat) (p : List P1) (κ : Res → Option α) : Option α := match p with
  | [.int n_] => F n n_ (fun v1 => κ ⟨[.int .i64 v1], []⟩)
  | _ => none
def impl_size_run {α : Type} (n : Nat) (p : List P1) (κ : Res → Option α) : Option α := impl_size_runG impl_size n p κ
def impl_size_CG {α : Type}  (n : Nat) : FuncId → List D → (Res → Option α) → Option α := tabC []
def impl_size_C {α : Type} (n : Nat) : FuncId → List D → (Res → Option α) → Option α := impl_size_CG n
def impl_size_M : FuncId → List Nat := tabM []
def impl_size_lpsG {α : Type}  : List (LoopT α) := []
def impl_size_lps {α : Type} : List (LoopT α) := impl_size_lpsG
def impl_size_XG {α : Type}   (n : Nat) : Ctx α := ⟨impl_size_CG n, impl_size_M, eqs, lpOf (impl_size_lpsG) n⟩
def impl_size_X {α : Type} (n : Nat) : Ctx α := impl_size_XG n
def impl_size_Lt (np : Nat) (lent : List (Bool × Nat × Blk)) : Prop := np = 1 ∧ lent = []
def impl_size_body {α : Type}   (k : Nat) (n_ : Int) (r0 : Int → Option α) : Option α :=
  r0 (max n_ (w64 (0 - n_)))
theorem impl_size_gen {α : Type}   (n : Nat) (n_ : Int) (κ : Res → Option α) : evFn Try.prog (impl_size_XG n) Try.f116 (((buildDs impl_size_sh [.int n_]).map Prod.fst).getD []) κ = impl_size_body n n_ (fun v1 => κ ⟨[.int .i64 v1], []⟩) := by kernel_rfl
theorem impl_size_ev {α : Type} (n : Nat) (n_ : Int) (κ : Res → Option α) : evFn Try.prog (impl_size_X n) Try.f116 (((buildDs impl_size_sh [.int n_]).map Prod.fst).getD []) κ = impl_size_run n [.int n_] κ := (impl_size_gen n n_ κ).trans (by kernel_rfl)
theorem impl_size_en (n_ : Int) : (entry 0 (((buildDs impl_size_sh [.int n_]).map Prod.fst).getD [])).map (fun x => (x.1.length, x.2.lent)) = some (1, []) := by kernel_rfl
theorem impl_size_good {α : Type} : ∀ n, GoodFn (α := α) Try.prog 116 (byShape impl_size_sh (impl_size_run n)) := by
  refine fn_good' Try.func116 (c := (Try.f116.body.getD .skip)) (by kernel_rfl) (by kernel_rfl) (by kernel_rfl) impl_size_C impl_size_M eqs impl_size_lps (fun n => tabC_good (fun _ h => absurd h List.not_mem_nil)) eqs_ok impl_size_Lt ?_ ?_ impl_size_sh impl_size_run ?_
  · exact (fun _ h => absurd h List.not_mem_nil)
  · exact (fun _ h => absurd h List.not_mem_nil)
  · intro n p κ r ds hd hr
    have hr0 := hr
    unfold impl_size_run impl_size_runG at hr
    split at hr
    · rw [← ds_of hd]
      exact ⟨en_of (impl_size_en _) ⟨rfl, rfl⟩, (impl_size_ev n _ κ).trans hr0⟩
    · cases hr

/-! loop.example/g01297/impl.gcd -/
def impl_gcd_sh : List SkD := [.int .i64, .int .i64]
def impl_gcd_runG {α : Type} (F : Nat → Int → Int → (Int → Option α) → Option α) (n : Nat) (p : List P1) (κ : Res → Option α) : Option α := match p with
  | [.int a, .int b_] => F n a b_ (fun v1 => κ ⟨[.int .i64 v1], []⟩)
  | _ => none
def impl_gcd_run {α : Type} (n : Nat) (p : List P1) (κ : Res → Option α) : Option α := impl_gcd_runG impl_gcd n p κ
def impl_gcd_CG {α : Type} (F0 : Nat → Int → (Int → Option α) → Option α) (n : Nat) : FuncId → List D → (Res → Option α) → Option α := tabC [(116, (byShape impl_size_sh (impl_size_runG F0 n)))]
def impl_gcd_C {α : Type} (n : Nat) : FuncId → List D → (Res → Option α) → Option α := impl_gcd_CG impl_size n
def impl_gcd_M : FuncId → List Nat := tabM []
def impl_gcd_t1 : Tpl := ⟨[.int .i64, .int .i64, .any, .any, .any, .any, .any, .any, .any, .any, .any, .any, .any], [], []⟩
def impl_gcd_uG1 {α : Type} (G : Nat → Int → Int → (Int → Int → Option α) → (Int → Option α) → Option α) (n : Nat) (p : List P1) (brk : Nat → List P1 → Option α) (ret : Res → Option α) : Option α := match p with
  | [.int a1, .int b_1] => G n a1 b_1 (fun a1 b_1 => brk 0 [.int a1, .int b_1]) (fun v1 => ret ⟨[.int .i64 v1], []⟩)
  | _ => none
def impl_gcd_u1 {α : Type} (n : Nat) (p : List P1) (brk : Nat → List P1 → Option α) (ret : Res → Option α) : Option α := impl_gcd_uG1 impl_gcd_l1 n p brk ret
def impl_gcd_lpsG {α : Type} (G1 : Nat → Int → Int → (Int → Int → Option α) → (Int → Option α) → Option α) : List (LoopT α) := [⟨1, impl_gcd_t1, impl_gcd_uG1 G1⟩]
def impl_gcd_lps {α : Type} : List (LoopT α) := impl_gcd_lpsG impl_gcd_l1
def impl_gcd_XG {α : Type} (F0 : Nat → Int → (Int → Option α) → Option α) (G1 : Nat → Int → Int → (Int → Int → Option α) → (Int → Option α) → Option α) (n : Nat) : Ctx α := ⟨impl_gcd_CG F0 n, impl_gcd_M, eqs, lpOf (impl_gcd_lpsG G1) n⟩
def impl_gcd_X {α : Type} (n : Nat) : Ctx α := impl_gcd_XG impl_size impl_gcd_l1 n
def impl_gcd_Lt (np : Nat) (lent : List (Bool × Nat × Blk)) : Prop := np = 2 ∧ lent = []
def impl_gcd_lb1 {α : Type} (F0 : Nat → Int → (Int → Option α) → Option α) (G1 : Nat → Int → Int → (Int → Int → Option α) → (Int → Option α) → Option α) (k : Nat) (a1 : Int) (b_1 : Int) (b0 : Int → Int → Option α) (r0 : Int → Option α) : Option α :=
  bif (!decide (b_1 = 0)) then
    bif decide (b_1 = 0) then
      none
    else
      G1 k b_1 (Int.tmod a1 b_1) b0 r0
  else
    b0 a1 b_1
theorem impl_gcd_l1_gen {α : Type} (F0 : Nat → Int → (Int → Option α) → Option α) (G1 : Nat → Int → Int → (Int → Int → Option α) → (Int → Option α) → Option α) (n : Nat) (a1 : Int) (b_1 : Int) (brk : Nat → List P1 → Option α) (ret : Res → Option α) : ev ((impl_gcd_XG F0 G1 n).env Try.prog Try.f147 2 []) (findLoop (loopsIn (Try.f147.body.getD .skip)) 1) ((impl_gcd_t1.build [.int a1, .int b_1]).getD ⟨[], []⟩) (roundK (2 * 64) impl_gcd_t1 (fun q => impl_gcd_uG1 G1 n q brk ret) brk ret) = impl_gcd_lb1 F0 G1 n a1 b_1 (fun a1 b_1 => brk 0 [.int a1, .int b_1]) (fun v1 => ret ⟨[.int .i64 v1], []⟩) := by kernel_rfl
theorem impl_gcd_l1_ev {α : Type} (n : Nat) (a1 : Int) (b_1 : Int) (brk : Nat → List P1 → Option α) (ret : Res → Option α) : ev ((impl_gcd_X n).env Try.prog Try.f147 2 []) (findLoop (loopsIn (Try.f147.body.getD .skip)) 1) ((impl_gcd_t1.build [.int a1, .int b_1]).getD ⟨[], []⟩) (roundK (2 * 64) impl_gcd_t1 (fun q => impl_gcd_u1 n q brk ret) brk ret) = impl_gcd_u1 (n + 1) [.int a1, .int b_1] brk ret := (impl_gcd_l1_gen impl_size impl_gcd_l1 n a1 b_1 brk ret).trans (by kernel_rfl)
def impl_gcd_body {α : Type} (F0 : Nat → Int → (Int → Option α) → Option α) (G1 : Nat → Int → Int → (Int → Int → Option α) → (Int → Option α) → Option α) (k : Nat) (a : Int) (b_ : Int) (r0 : Int → Option α) : Option α :=
  G1 k a b_
    (fun a2 b_2 =>
      F0 k a2 fun v =>
      r0 v)
    r0
theorem impl_gcd_gen {α : Type} (F0 : Nat → Int → (Int → Option α) → Option α) (G1 : Nat → Int → Int → (Int → Int → Option α) → (Int → Option α) → Option α) (n : Nat) (a : Int) (b_ : Int) (κ : Res → Option α) : evFn Try.prog (impl_gcd_XG F0 G1 n) Try.f147 (((buildDs impl_gcd_sh [.int a, .int b_]).map Prod.fst).getD []) κ = impl_gcd_body F0 G1 n a b_ (fun v1 => κ ⟨[.int .i64 v1], []⟩) := by kernel_rfl
theorem impl_gcd_ev {α : Type} (n : Nat) (a : Int) (b_ : Int) (κ : Res → Option α) : evFn Try.prog (impl_gcd_X n) Try.f147 (((buildDs impl_gcd_sh [.int a, .int b_]).map Prod.fst).getD []) κ = impl_gcd_run n [.int a, .int b_] κ := (impl_gcd_gen impl_size impl_gcd_l1 n a b_ κ).trans (by kernel_rfl)
theorem impl_gcd_en (a : Int) (b_ : Int) : (entry 0 (((buildDs impl_gcd_sh [.int a, .int b_]).map Prod.fst).getD [])).map (fun x => (x.1.length, x.2.lent)) = some (2, []) := by kernel_rfl
theorem impl_gcd_good {α : Type} : ∀ n, GoodFn (α := α) Try.prog 147 (byShape impl_gcd_sh (impl_gcd_run n)) := by
  refine fn_good' Try.func147 (c := (Try.f147.body.getD .skip)) (by kernel_rfl) (by kernel_rfl) (by kernel_rfl) impl_gcd_C impl_gcd_M eqs impl_gcd_lps (fun n => tabC_good (List.forall_mem_cons.2 ⟨(impl_size_good n), (fun _ h => absurd h List.not_mem_nil)⟩)) eqs_ok impl_gcd_Lt ?_ ?_ impl_gcd_sh impl_gcd_run ?_
  · refine List.forall_mem_cons.2 ⟨?_, (fun _ h => absurd h List.not_mem_nil)⟩
    · intro p brk ret; show impl_gcd_u1 0 p brk ret = none; unfold impl_gcd_u1 impl_gcd_uG1; split <;> rfl
  · refine List.forall_mem_cons.2 ⟨?_, (fun _ h => absurd h List.not_mem_nil)⟩
    · intro np lent hL n p brk ret st r hb hr
      obtain ⟨rfl, rfl⟩ := hL
      rw [← tpl_of hb]
      change impl_gcd_u1 (n + 1) p brk ret = some r at hr
      have hr0 := hr
      unfold impl_gcd_u1 impl_gcd_uG1 at hr
      split at hr
      · exact (impl_gcd_l1_ev n _ _ brk ret).trans hr0
      · cases hr
  · intro n p κ r ds hd hr
    have hr0 := hr
    unfold impl_gcd_run impl_gcd_runG at hr
    split at hr
    · rw [← ds_of hd]
      exact ⟨en_of (impl_gcd_en _ _) ⟨rfl, rfl⟩, (impl_gcd_ev n _ _ κ).trans hr0⟩
    · cases hr

/-! (loop.example/g01297/impl.Point).length -/
def impl_Point_length_sh : List SkD := [.agg [.int .i64, .int .i64]]
def impl_Point_length_runG {α : Type} (F : Nat → Int → Int → (Int → Option α) → Option α) (n : Nat) (p : List P1) (κ : Res → Option α) : Option α := match p with
  | [.int a, .int a1] => F n a a1 (fun v1 => κ ⟨[.int .i64 v1], []⟩)
  | _ => none
def impl_Point_length_run {α : Type} (n : Nat) (p : List P1) (κ : Res → Option α) : Option α := impl_Point_length_runG impl_Point_length n p κ
def impl_Point_length_CG {α : Type} (F0 : Nat → Int → Int → (Int → Option α) → Option α) (n : Nat) : FuncId → List D → (Res → Option α) → Option α := tabC [(147, (byShape impl_gcd_sh (impl_gcd_runG F0 n)))]
def impl_Point_length_C {α : Type} (n : Nat) : FuncId → List D → (Res → Option α) → Option α := impl_Point_length_CG impl_gcd n
def impl_Point_length_M : FuncId → List Nat := tabM []
def impl_Point_length_lpsG {α : Type}  : List (LoopT α) := []
def impl_Point_length_lps {α : Type} : List (LoopT α) := impl_Point_length_lpsG
def impl_Point_length_XG {α : Type} (F0 : Nat → Int → Int → (Int → Option α) → Option α)  (n : Nat) : Ctx α := ⟨impl_Point_length_CG F0 n, impl_Point_length_M, eqs, lpOf (impl_Point_length_lpsG) n⟩
def impl_Point_length_X {α : Type} (n : Nat) : Ctx α := impl_Point_length_XG impl_gcd n
def impl_Point_length_Lt (np : Nat) (lent : List (Bool × Nat × Blk)) : Prop := np = 1 ∧ lent = []
def impl_Point_length_body {α : Type} (F0 : Nat → Int → Int → (Int → Option α) → Option α)  (k : Nat) (a : Int) (a1 : Int) (r0 : Int → Option α) : Option α :=
  F0 k a a1 fun v =>
  r0 v
theorem impl_Point_length_gen {α : Type} (F0 : Nat → Int → Int → (Int → Option α) → Option α)  (n : Nat) (a : Int) (a1 : Int) (κ : Res → Option α) : evFn Try.prog (impl_Point_length_XG F0 n) Try.f127 (((buildDs impl_Point_length_sh [.int a, .int a1]).map Prod.fst).getD []) κ = impl_Point_length_body F0 n a a1 (fun v1 => κ ⟨[.int .i64 v1], []⟩) := by kernel_rfl
theorem impl_Point_length_ev {α : Type} (n : Nat) (a : Int) (a1 : Int) (κ : Res → Option α) : evFn Try.prog (impl_Point_length_X n) Try.f127 (((buildDs impl_Point_length_sh [.int a, .int a1]).map Prod.fst).getD []) κ = impl_Point_length_run n [.int a, .int a1] κ := (impl_Point_length_gen impl_gcd n a a1 κ).trans (by kernel_rfl)
theorem impl_Point_length_en (a : Int) (a1 : Int) : (entry 0 (((buildDs impl_Point_length_sh [.int a, .int a1]).map Prod.fst).getD [])).map (fun x => (x.1.length, x.2.lent)) = some (1, []) := by kernel_rfl
theorem impl_Point_length_good {α : Type} : ∀ n, GoodFn (α := α) Try.prog 127 (byShape impl_Point_length_sh (impl_Point_length_run n)) := by
  refine fn_good' Try.func127 (c := (Try.f127.body.getD .skip)) (by kernel_rfl) (by kernel_rfl) (by kernel_rfl) impl_Point_length_C impl_Point_length_M eqs impl_Point_length_lps (fun n => tabC_good (List.forall_mem_cons.2 ⟨(impl_gcd_good n), (fun _ h => absurd h List.not_mem_nil)⟩)) eqs_ok impl_Point_length_Lt ?_ ?_ impl_Point_length_sh impl_Point_length_run ?_
  · exact (fun _ h => absurd h List.not_mem_nil)
  · exact (fun _ h => absurd h List.not_mem_nil)
  · intro n p κ r ds hd hr
    have hr0 := hr
    unfold impl_Point_length_run impl_Point_length_runG at hr
    split at hr
    · rw [← ds_of hd]
      exact ⟨en_of (impl_Point_length_en _ _) ⟨rfl, rfl⟩, (impl_Point_length_ev n _ _ κ).trans hr0⟩
    · cases hr

/-! (loop.example/g01297/impl.polygon).border$1 -/
def impl_polygon_border_1_sh : List SkD := [.agg [.int .i64, .int .i64], .agg [.int .i64, .int .i64]]
def impl_polygon_border_1_runG {α : Type} (F : Nat → Int → Int → Int → Int → (Int → Option α) → Option α) (n : Nat) (p : List P1) (κ : Res → Option α) : Option α := match p with
  | [.int a, .int a1, .int b_, .int b_1] => F n a a1 b_ b_1 (fun v1 => κ ⟨[.int .i64 v1], []⟩)
  | _ => none
def impl_polygon_border_1_run {α : Type} (n : Nat) (p : List P1) (κ : Res → Option α) : Option α := impl_polygon_border_1_runG impl_polygon_border_1 n p κ
def impl_polygon_border_1_CG {α : Type} (F0 : Nat → Int → Int → Int → Int → (Int → Int → Option α) → Option α) (F1 : Nat → Int → Int → (Int → Option α) → Option α) (n : Nat) : FuncId → List D → (Res → Option α) → Option α := tabC [(134, (byShape impl_Point_less_sh (impl_Point_less_runG F0 n))), (127, (byShape impl_Point_length_sh (impl_Point_length_runG F1 n)))]
def impl_polygon_border_1_C {α : Type} (n : Nat) : FuncId → List D → (Res → Option α) → Option α := impl_polygon_border_1_CG impl_Point_less impl_Point_length n
def impl_polygon_border_1_M : FuncId → List Nat := tabM []
def impl_polygon_border_1_lpsG {α : Type}  : List (LoopT α) := []
def impl_polygon_border_1_lps {α : Type} : List (LoopT α) := impl_polygon_border_1_lpsG
def impl_polygon_border_1_XG {α : Type} (F0 : Nat → Int → Int → Int → Int → (Int → Int → Option α) → Option α) (F1 : Nat → Int → Int → (Int → Option α) → Option α)  (n : Nat) : Ctx α := ⟨impl_polygon_border_1_CG F0 F1 n, impl_polygon_border_1_M, eqs, lpOf (impl_polygon_border_1_lpsG) n⟩
def impl_polygon_border_1_X {α : Type} (n : Nat) : Ctx α := impl_polygon_border_1_XG impl_Point_less impl_Point_length n
def impl_polygon_border_1_Lt (np : Nat) (lent : List (Bool × Nat × Blk)) : Prop := np = 2 ∧ lent = []
def impl_polygon_border_1_body {α : Type} (F0 : Nat → Int → Int → Int → Int → (Int → Int → Option α) → Option α) (F1 : Nat → Int → Int → (Int → Option α) → Option α)  (k : Nat) (a : Int) (a1 : Int) (b_ : Int) (b_1 : Int) (r0 : Int → Option α) : Option α :=
  F0 k b_ b_1 a a1 fun v v1 =>
  F1 k v v1 fun v2 =>
  r0 v2
theorem impl_polygon_border_1_gen {α : Type} (F0 : Nat → Int → Int → Int → Int → (Int → Int → Option α) → Option α) (F1 : Nat → Int → Int → (Int → Option α) → Option α)  (n : Nat) (a : Int) (a1 : Int) (b_ : Int) (b_1 : Int) (κ : Res → Option α) : evFn Try.prog (impl_polygon_border_1_XG F0 F1 n) Try.f133 (((buildDs impl_polygon_border_1_sh [.int a, .int a1, .int b_, .int b_1]).map Prod.fst).getD []) κ = impl_polygon_border_1_body F0 F1 n a a1 b_ b_1 (fun v1 => κ ⟨[.int .i64 v1], []⟩) := by kernel_rfl
theorem impl_polygon_border_1_ev {α : Type} (n : Nat) (a : Int) (a1 : Int) (b_ : Int) (b_1 : Int) (κ : Res → Option α) : evFn Try.prog (impl_polygon_border_1_X n) Try.f133 (((buildDs impl_polygon_border_1_sh [.int a, .int a1, .int b_, .int b_1]).map Prod.fst).getD []) κ = impl_polygon_border_1_run n [.int a, .int a1, .int b_, .int b_1] κ := (impl_polygon_border_1_gen impl_Point_less impl_Point_length n a a1 b_ b_1 κ).trans (by kernel_rfl)
theorem impl_polygon_border_1_en (a : Int) (a1 : Int) (b_ : Int) (b_1 : Int) : (entry 0 (((buildDs impl_polygon_border_1_sh [.int a, .int a1, .int b_, .int b_1]).map Prod.fst).getD [])).map (fun x => (x.1.length, x.2.lent)) = some (2, []) := by kernel_rfl
theorem impl_polygon_border_1_good {α : Type} : ∀ n, GoodFn (α := α) Try.prog 133 (byShape impl_polygon_border_1_sh (impl_polygon_border_1_run n)) := by
  refine fn_good' Try.func133 (c := (Try.f133.body.getD .skip)) (by kernel_rfl) (by kernel_rfl) (by kernel_rfl) impl_polygon_border_1_C impl_polygon_border_1_M eqs impl_polygon_border_1_lps (fun n => tabC_good (List.forall_mem_cons.2 ⟨(impl_Point_less_good n), (List.forall_mem_cons.2 ⟨(impl_Point_length_good n), (fun _ h => absurd h List.not_mem_nil)⟩)⟩)) eqs_ok impl_polygon_border_1_Lt ?_ ?_ impl_polygon_border_1_sh impl_polygon_border_1_run ?_
  · exact (fun _ h => absurd h List.not_mem_nil)
  · exact (fun _ h => absurd h List.not_mem_nil)
  · intro n p κ r ds hd hr
    have hr0 := hr
    unfold impl_polygon_border_1_run impl_polygon_border_1_runG at hr
    split at hr
    · rw [← ds_of hd]
      exact ⟨en_of (impl_polygon_border_1_en _ _ _ _) ⟨rfl, rfl⟩, (impl_polygon_border_1_ev n _ _ _ _ κ).trans hr0⟩
    · cases hr

/-! (loop.example/g01297/impl.polygon).sum -/
def impl_polygon_sum_1F_impl_polygon_border_1_sh : List SkD := [.sl 33 .pt, .fn 133 []]
def impl_polygon_sum_1F_impl_polygon_border_1_runG {α : Type} (F : Nat → (List (Int × Int)) → (Int → Option α) → Option α) (n : Nat) (p : List P1) (κ : Res → Option α) : Option α := match p with
  | [.rows .pt p_] => F n p_ (fun v1 => κ ⟨[.int .i64 v1], []⟩)
  | _ => none
def impl_polygon_sum_1F_impl_polygon_border_1_run {α : Type} (n : Nat) (p : List P1) (κ : Res → Option α) : Option α := impl_polygon_sum_1F_impl_polygon_border_1_runG impl_polygon_sum_1F_impl_polygon_border_1 n p κ
def impl_polygon_sum_1F_impl_polygon_border_1_CG {α : Type} (F0 : Nat → (List (Int × Int)) → Int → (Int → Int → Option α) → Option α) (F1 : Nat → Int → Int → Int → Int → (Int → Option α) → Option α) (n : Nat) : FuncId → List D → (Res → Option α) → Option α := tabC [(142, (byShape impl_polygon_next_sh (impl_polygon_next_runG F0 n))), (133, (byShape impl_polygon_border_1_sh (impl_polygon_border_1_runG F1 n)))]
def impl_polygon_sum_1F_impl_polygon_border_1_C {α : Type} (n : Nat) : FuncId → List D → (Res → Option α) → Option α := impl_polygon_sum_1F_impl_polygon_border_1_CG impl_polygon_next impl_polygon_border_1 n
def impl_polygon_sum_1F_impl_polygon_border_1_M : FuncId → List Nat := tabM []
def impl_polygon_sum_1F_impl_polygon_border_1_t3 : Tpl := ⟨[.sl 0, .fn 133 [], .any, .any, .any, .int .i64, .any, .any, .sl 0, .int .i64, .int .i64, .any, .any, .any, .any, .any, .any, .any, .any, .any, .any, .any, .any, .any, .any], [(0, .rows 0 33 .pt)], []⟩
def impl_polygon_sum_1F_impl_polygon_border_1_uG3 {α : Type} (G : Nat → Int → Int → Int → (List (Int × Int)) → (Int → Int → Int → (List (Int × Int)) → Option α) → (Int → Option α) → Option α) (n : Nat) (p : List P1) (brk : Nat → List P1 → Option α) (ret : Res → Option α) : Option α := match p with
  | [.int out, .int x, .int x1, .rows .pt p_1] => G n out x x1 p_1 (fun out x x1 p_1 => brk 0 [.int out, .int x, .int x1, .rows .pt p_1]) (fun v1 => ret ⟨[.int .i64 v1], []⟩)
  | _ => none
def impl_polygon_sum_1F_impl_polygon_border_1_u3 {α : Type} (n : Nat) (p : List P1) (brk : Nat → List P1 → Option α) (ret : Res → Option α) : Option α := impl_polygon_sum_1F_impl_polygon_border_1_uG3 impl_polygon_sum_1F_impl_polygon_border_1_l3 n p brk ret
def impl_polygon_sum_1F_impl_polygon_border_1_lpsG {α : Type} (G3 : Nat → Int → Int → Int → (List (Int × Int)) → (Int → Int → Int → (List (Int × Int)) → Option α) → (Int → Option α) → Option α) : List (LoopT α) := [⟨3, impl_polygon_sum_1F_impl_polygon_border_1_t3, impl_polygon_sum_1F_impl_polygon_border_1_uG3 G3⟩]
def impl_polygon_sum_1F_impl_polygon_border_1_lps {α : Type} : List (LoopT α) := impl_polygon_sum_1F_impl_polygon_border_1_lpsG impl_polygon_sum_1F_impl_polygon_border_1_l3
def impl_polygon_sum_1F_impl_polygon_border_1_XG {α : Type} (F0 : Nat → (List (Int × Int)) → Int → (Int → Int → Option α) → Option α) (F1 : Nat → Int → Int → Int → Int → (Int → Option α) → Option α) (G3 : Nat → Int → Int → Int → (List (Int × Int)) → (Int → Int → Int → (List (Int × Int)) → Option α) → (Int → Option α) → Option α) (n : Nat) : Ctx α := ⟨impl_polygon_sum_1F_impl_polygon_border_1_CG F0 F1 n, impl_polygon_sum_1F_impl_polygon_border_1_M, eqs, lpOf (impl_polygon_sum_1F_impl_polygon_border_1_lpsG G3) n⟩
def impl_polygon_sum_1F_impl_polygon_border_1_X {α : Type} (n : Nat) : Ctx α := impl_polygon_sum_1F_impl_polygon_border_1_XG impl_polygon_next impl_polygon_border_1 impl_polygon_sum_1F_impl_polygon_border_1_l3 n
def impl_polygon_sum_1F_impl_polygon_border_1_Lt (np : Nat) (lent : List (Bool × Nat × Blk)) : Prop := np = 2 ∧ lent = []
def impl_polygon_sum_1F_impl_polygon_border_1_lb3 {α : Type} (F0 : Nat → (List (Int × Int)) → Int → (Int → Int → Option α) → Option α) (F1 : Nat → Int → Int → Int → Int → (Int → Option α) → Option α) (G3 : Nat → Int → Int → Int → (List (Int × Int)) → (Int → Int → Int → (List (Int × Int)) → Option α) → (Int → Option α) → Option α) (k : Nat) (out : Int) (x : Int) (x1 : Int) (p_1 : List (Int × Int)) (b0 : Int → Int → Int → (List (Int × Int)) → Option α) (r0 : Int → Option α) : Option α :=
  bif decide (x1 < x) then
    bif (decide (0 ≤ x1) && decide (x1 < (((List.length p_1) : Nat) : Int))) then
      (p_1[x1.toNat]?).bind fun e_ =>
      F0 k p_1 x1 fun v v1 =>
      F1 k e_.1 e_.2 v v1 fun v2 =>
      G3 k (w64 (out + v2)) x (w64 (x1 + 1)) p_1 b0 r0
    else
      none
  else
    b0 out x x1 p_1
theorem impl_polygon_sum_1F_impl_polygon_border_1_l3_gen {α : Type} (F0 : Nat → (List (Int × Int)) → Int → (Int → Int → Option α) → Option α) (F1 : Nat → Int → Int → Int → Int → (Int → Option α) → Option α) (G3 : Nat → Int → Int → Int → (List (Int × Int)) → (Int → Int → Int → (List (Int × Int)) → Option α) → (Int → Option α) → Option α) (n : Nat) (out : Int) (x : Int) (x1 : Int) (p_1 : List (Int × Int)) (brk : Nat → List P1 → Option α) (ret : Res → Option α) : ev ((impl_polygon_sum_1F_impl_polygon_border_1_XG F0 F1 G3 n).env Try.prog Try.f117 2 []) (findLoop (loopsIn (Try.f117.body.getD .skip)) 3) ((impl_polygon_sum_1F_impl_polygon_border_1_t3.build [.int out, .int x, .int x1, .rows .pt p_1]).getD ⟨[], []⟩) (roundK (2 * 64) impl_polygon_sum_1F_impl_polygon_border_1_t3 (fun q => impl_polygon_sum_1F_impl_polygon_border_1_uG3 G3 n q brk ret) brk ret) = impl_polygon_sum_1F_impl_polygon_border_1_lb3 F0 F1 G3 n out x x1 p_1 (fun out x x1 p_1 => brk 0 [.int out, .int x, .int x1, .rows .pt p_1]) (fun v1 => ret ⟨[.int .i64 v1], []⟩) := by kernel_rfl
theorem impl_polygon_sum_1F_impl_polygon_border_1_l3_ev {α : Type} (n : Nat) (out : Int) (x : Int) (x1 : Int) (p_1 : List (Int × Int)) (brk : Nat → List P1 → Option α) (ret : Res → Option α) : ev ((impl_polygon_sum_1F_impl_polygon_border_1_X n).env Try.prog Try.f117 2 []) (findLoop (loopsIn (Try.f117.body.getD .skip)) 3) ((impl_polygon_sum_1F_impl_polygon_border_1_t3.build [.int out, .int x, .int x1, .rows .pt p_1]).getD ⟨[], []⟩) (roundK (2 * 64) impl_polygon_sum_1F_impl_polygon_border_1_t3 (fun q => impl_polygon_sum_1F_impl_polygon_border_1_u3 n q brk ret) brk ret) = impl_polygon_sum_1F_impl_polygon_border_1_u3 (n + 1) [.int out, .int x, .int x1, .rows .pt p_1] brk ret := (impl_polygon_sum_1F_impl_polygon_border_1_l3_gen impl_polygon_next impl_polygon_border_1 impl_polygon_sum_1F_impl_polygon_border_1_l3 n out x x1 p_1 brk ret).trans (by kernel_rfl)
def impl_polygon_sum_1F_impl_polygon_border_1_body {α : Type} (F0 : Nat → (List (Int × Int)) → Int → (Int → Int → Option α) → Option α) (F1 : Nat → Int → Int → Int → Int → (Int → Option α) → Option α) (G3 : Nat → Int → Int → Int → (List (Int × Int)) → (Int → Int → Int → (List (Int × Int)) → Option α) → (Int → Option α) → Option α) (k : Nat) (p_ : List (Int × Int)) (r0 : Int → Option α) : Option α :=
  G3 k 0 (((List.length p_) : Nat) : Int) 0 p_
    (fun out1 x2 x3 p_2 =>
      r0 out1)
    r0
theorem impl_polygon_sum_1F_impl_polygon_border_1_gen {α : Type} (F0 : Nat → (List (Int × Int)) → Int → (Int → Int → Option α) → Option α) (F1 : Nat → Int → Int → Int → Int → (Int → Option α) → Option α) (G3 : Nat → Int → Int → Int → (List (Int × Int)) → (Int → Int → Int → (List (Int × Int)) → Option α) → (Int → Option α) → Option α) (n : Nat) (p_ : List (Int × Int)) (κ : Res → Option α) : evFn Try.prog (impl_polygon_sum_1F_impl_polygon_border_1_XG F0 F1 G3 n) Try.f117 (((buildDs impl_polygon_sum_1F_impl_polygon_border_1_sh [.rows .pt p_]).map Prod.fst).getD []) κ = impl_polygon_sum_1F_impl_polygon_border_1_body F0 F1 G3 n p_ (fun v1 => κ ⟨[.int .i64 v1], []⟩) := by kernel_rfl
theorem impl_polygon_sum_1F_impl_polygon_border_1_ev {α : Type} (n : Nat) (p_ : List (Int × Int)) (κ : Res → Option α) : evFn Try.prog (impl_polygon_sum_1F_impl_polygon_border_1_X n) Try.f117 (((buildDs impl_polygon_sum_1F_impl_polygon_border_1_sh [.rows .pt p_]).map Prod.fst).getD []) κ = impl_polygon_sum_1F_impl_polygon_border_1_run n [.rows .pt p_] κ := (impl_polygon_sum_1F_impl_polygon_border_1_gen impl_polygon_next impl_polygon_border_1 impl_polygon_sum_1F_impl_polygon_border_1_l3 n p_ κ).trans (by kernel_rfl)
theorem impl_polygon_sum_1F_impl_polygon_border_1_en (p_ : List (Int × Int)) : (entry 0 (((buildDs impl_polygon_sum_1F_impl_polygon_border_1_sh [.rows .pt p_]).map Prod.fst).getD [])).map (fun x => (x.1.length, x.2.lent)) = some (2, []) := by kernel_rfl
theorem impl_polygon_sum_1F_impl_polygon_border_1_good {α : Type} : ∀ n, GoodFn (α := α) Try.prog 117 (byShape impl_polygon_sum_1F_impl_polygon_border_1_sh (impl_polygon_sum_1F_impl_polygon_border_1_run n)) := by
  refine fn_good' Try.func117 (c := (Try.f117.body.getD .skip)) (by kernel_rfl) (by kernel_rfl) (by kernel_rfl) impl_polygon_sum_1F_impl_polygon_border_1_C impl_polygon_sum_1F_impl_polygon_border_1_M eqs impl_polygon_sum_1F_impl_polygon_border_1_lps (fun n => tabC_good (List.forall_mem_cons.2 ⟨(impl_polygon_next_good n), (List.forall_mem_cons.2 ⟨(impl_polygon_border_1_good n), (fun _ h => absurd h List.not_mem_nil)⟩)⟩)) eqs_ok impl_polygon_sum_1F_impl_polygon_border_1_Lt ?_ ?_ impl_polygon_sum_1F_impl_polygon_border_1_sh impl_polygon_sum_1F_impl_polygon_border_1_run ?_
  · refine List.forall_mem_cons.2 ⟨?_, (fun _ h => absurd h List.not_mem_nil)⟩
    · intro p brk ret; show impl_polygon_sum_1F_impl_polygon_border_1_u3 0 p brk ret = none; unfold impl_polygon_sum_1F_impl_polygon_border_1_u3 impl_polygon_sum_1F_impl_polygon_border_1_uG3; split <;> rfl
  · refine List.forall_mem_cons.2 ⟨?_, (fun _ h => absurd h List.not_mem_nil)⟩
    · intro np lent hL n p brk ret st r hb hr
      obtain ⟨rfl, rfl⟩ := hL
      rw [← tpl_of hb]
      change impl_polygon_sum_1F_impl_polygon_border_1_u3 (n + 1) p brk ret = some r at hr
      have hr0 := hr
      unfold impl_polygon_sum_1F_impl_polygon_border_1_u3 impl_polygon_sum_1F_impl_polygon_border_1_uG3 at hr
      split at hr
      · exact (impl_polygon_sum_1F_impl_polygon_border_1_l3_ev n _ _ _ _ brk ret).trans hr0
      · cases hr
  · intro n p κ r ds hd hr
    have hr0 := hr
    unfold impl_polygon_sum_1F_impl_polygon_border_1_run impl_polygon_sum_1F_impl_polygon_border_1_runG at hr
    split at hr
    · rw [← ds_of hd]
      exact ⟨en_of (impl_polygon_sum_1F_impl_polygon_border_1_en _) ⟨rfl, rfl⟩, (impl_polygon_sum_1F_impl_polygon_border_1_ev n _ κ).trans hr0⟩
    · cases hr

/-! (loop.example/g01297/impl.polygon).border -/
def impl_polygon_border_sh : List SkD := [.sl 33 .pt]
def impl_polygon_border_runG {α : Type} (F : Nat → (List (Int × Int)) → (Int → Option α) → Option α) (n : Nat) (p : List P1) (κ : Res → Option α) : Option α := match p with
  | [.rows .pt p_] => F n p_ (fun v1 => κ ⟨[.int .i64 v1], []⟩)
  | _ => none
def impl_polygon_border_run {α : Type} (n : Nat) (p : List P1) (κ : Res → Option α) : Option α := impl_polygon_border_runG impl_polygon_border n p κ
def impl_polygon_border_CG {α : Type} (F0 : Nat → (List (Int × Int)) → (Int → Option α) → Option α) (n : Nat) : FuncId → List D → (Res → Option α) → Option α := tabC [(117, (byShape impl_polygon_sum_1F_impl_polygon_border_1_sh (impl_polygon_sum_1F_impl_polygon_border_1_runG F0 n)))]
def impl_polygon_border_C {α : Type} (n : Nat) : FuncId → List D → (Res → Option α) → Option α := impl_polygon_border_CG impl_polygon_sum_1F_impl_polygon_border_1 n
def impl_polygon_border_M : FuncId → List Nat := tabM []
def impl_polygon_border_lpsG {α : Type}  : List (LoopT α) := []
def impl_polygon_border_lps {α : Type} : List (LoopT α) := impl_polygon_border_lpsG
def impl_polygon_border_XG {α : Type} (F0 : Nat → (List (Int × Int)) → (Int → Option α) → Option α)  (n : Nat) : Ctx α := ⟨impl_polygon_border_CG F0 n, impl_polygon_border_M, eqs, lpOf (impl_polygon_border_lpsG) n⟩
def impl_polygon_border_X {α : Type} (n : Nat) : Ctx α := impl_polygon_border_XG impl_polygon_sum_1F_impl_polygon_border_1 n
def impl_polygon_border_Lt (np : Nat) (lent : List (Bool × Nat × Blk)) : Prop := np = 1 ∧ lent = []
def impl_polygon_border_body {α : Type} (F0 : Nat → (List (Int × Int)) → (Int → Option α) → Option α)  (k : Nat) (p_ : List (Int × Int)) (r0 : Int → Option α) : Option α :=
  F0 k p_ fun v =>
  r0 v
theorem impl_polygon_border_gen {α : Type} (F0 : Nat → (List (Int × Int)) → (Int → Option α) → Option α)  (n : Nat) (p_ : List (Int × Int)) (κ : Res → Option α) : evFn Try.prog (impl_polygon_border_XG F0 n) Try.f83 (((buildDs impl_polygon_border_sh [.rows .pt p_]).map Prod.fst).getD []) κ = impl_polygon_border_body F0 n p_ (fun v1 => κ ⟨[.int .i64 v1], []⟩) := by kernel_rfl
theorem impl_polygon_border_ev {α : Type} (n : Nat) (p_ : List (Int × Int)) (κ : Res → Option α) : evFn Try.prog (impl_polygon_border_X n) Try.f83 (((buildDs impl_polygon_border_sh [.rows .pt p_]).map Prod.fst).getD []) κ = impl_polygon_border_run n [.rows .pt p_] κ := (impl_polygon_border_gen impl_polygon_sum_1F_impl_polygon_border_1 n p_ κ).trans (by kernel_rfl)
theorem impl_polygon_border_en (p_ : List (Int × Int)) : (entry 0 (((buildDs impl_polygon_border_sh [.rows .pt p_]).map Prod.fst).getD [])).map (fun x => (x.1.length, x.2.lent)) = some (1, []) := by kernel_rfl
theorem impl_polygon_border_good {α : Type} : ∀ n, GoodFn (α := α) Try.prog 83 (byShape impl_polygon_border_sh (impl_polygon_border_run n)) := by
  refine fn_good' Try.func83 (c := (Try.f83.body.getD .skip)) (by kernel_rfl) (by kernel_rfl) (by kernel_rfl) impl_polygon_border_C impl_polygon_border_M eqs impl_polygon_border_lps (fun n => tabC_good (List.forall_mem_cons.2 ⟨(impl_polygon_sum_1F_impl_polygon_border_1_good n), (fun _ h => absurd h List.not_mem_nil)⟩)) eqs_ok impl_polygon_border_Lt ?_ ?_ impl_polygon_border_sh impl_polygon_border_run ?_
  · exact (fun _ h => absurd h List.not_mem_nil)
  · exact (fun _ h => absurd h List.not_mem_nil)
  · intro n p κ r ds hd hr
    have hr0 := hr
    unfold impl_polygon_border_run impl_polygon_border_runG at hr
    split at hr
    · rw [← ds_of hd]
      exact ⟨en_of (impl_polygon_border_en _) ⟨rfl, rfl⟩, (impl_polygon_border_ev n _ κ).trans hr0⟩
    · cases hr

/-! loop.example/g01297/impl.CountOfMultiple -/
def impl_CountOfMultiple_sh : List SkD := [.sl 33 .pt, .int .i64]
def impl_CountOfMultiple_runG {α : Type} (F : Nat → (List (Int × Int)) → Int → (Int → Int → Option α) → Option α) (n : Nat) (p : List P1) (κ : Res → Option α) : Option α := match p with
  | [.rows .pt list, .int k_] => F n list k_ (fun v1 v2 => κ ⟨[.int .i64 v1, .int .i64 v2], []⟩)
  | _ => none
def impl_CountOfMultiple_run {α : Type} (n : Nat) (p : List P1) (κ : Res → Option α) : Option α := impl_CountOfMultiple_runG impl_CountOfMultiple n p κ
def impl_CountOfMultiple_CG {α : Type} (F0 : Nat → (List (Int × Int)) → (Bool → Option α) → Option α) (F1 : Nat → Int → Int → Int → (Bool → Option α) → Option α) (F2 : Nat → (List (Int × Int)) → (Int → Option α) → Option α) (F3 : Nat → (List (Int × Int)) → (Int → Option α) → Option α) (n : Nat) : FuncId → List D → (Res → Option α) → Option α := tabC [(87, (byShape impl_IsPolygon_sh (impl_IsPolygon_runG F0 n))), (76, (byShape impl_in_sh (impl_in_runG F1 n))), (71, (byShape impl_polygon_area_sh (impl_polygon_area_runG F2 n))), (83, (byShape impl_polygon_border_sh (impl_polygon_border_runG F3 n)))]
def impl_CountOfMultiple_C {α : Type} (n : Nat) : FuncId → List D → (Res → Option α) → Option α := impl_CountOfMultiple_CG impl_IsPolygon impl_in impl_polygon_area impl_polygon_border n
def impl_CountOfMultiple_M : FuncId → List Nat := tabM []
def impl_CountOfMultiple_lpsG {α : Type}  : List (LoopT α) := []
def impl_CountOfMultiple_lps {α : Type} : List (LoopT α) := impl_CountOfMultiple_lpsG
def impl_CountOfMultiple_XG {α : Type} (F0 : Nat → (List (Int × Int)) → (Bool → Option α) → Option α) (F1 : Nat → Int → Int → Int → (Bool → Option α) → Option α) (F2 : Nat → (List (Int × Int)) → (Int → Option α) → Option α) (F3 : Nat → (List (Int × Int)) → (Int → Option α) → Option α)  (n : Nat) : Ctx α := ⟨impl_CountOfMultiple_CG F0 F1 F2 F3 n, impl_CountOfMultiple_M, eqs, lpOf (impl_CountOfMultiple_lpsG) n⟩
def impl_CountOfMultiple_X {α : Type} (n : Nat) : Ctx α := impl_CountOfMultiple_XG impl_IsPolygon impl_in impl_polygon_area impl_polygon_border n
def impl_CountOfMultiple_Lt (np : Nat) (lent : List (Bool × Nat × Blk)) : Prop := np = 2 ∧ lent = []
def impl_CountOfMultiple_body {α : Type} (F0 : Nat → (List (Int × Int)) → (Bool → Option α) → Option α) (F1 : Nat → Int → Int → Int → (Bool → Option α) → Option α) (F2 : Nat → (List (Int × Int)) → (Int → Option α) → Option α) (F3 : Nat → (List (Int × Int)) → (Int → Option α) → Option α)  (k : Nat) (list : List (Int × Int)) (k_ : Int) (r0 : Int → Int → Option α) : Option α :=
  F0 k list fun v =>
  bif (!v) then
    r0 0 1
  else
    F1 k k_ 0 1000 fun v1 =>
    bif (!v1) then
      r0 0 2
    else
      F2 k list fun v2 =>
      F3 k list fun v3 =>
      r0 (w64 (Int.tdiv (w64 ((w64 ((w64 ((w64 (k_ * k_)) * v2)) + (w64 (k_ * v3)))) + 2)) 2)) 0
theorem impl_CountOfMultiple_gen {α : Type} (F0 : Nat → (List (Int × Int)) → (Bool → Option α) → Option α) (F1 : Nat → Int → Int → Int → (Bool → Option α) → Option α) (F2 : Nat → (List (Int × Int)) → (Int → Option α) → Option α) (F3 : Nat → (List (Int × Int)) → (Int → Option α) → Option α)  (n : Nat) (list : List (Int × Int)) (k_ : Int) (κ : Res → Option α) : evFn Try.prog (impl_CountOfMultiple_XG F0 F1 F2 F3 n) Try.f48 (((buildDs impl_CountOfMultiple_sh [.rows .pt list, .int k_]).map Prod.fst).getD []) κ = impl_CountOfMultiple_body F0 F1 F2 F3 n list k_ (fun v1 v2 => κ ⟨[.int .i64 v1, .int .i64 v2], []⟩) := by kernel_rfl
theorem impl_CountOfMultiple_ev {α : Type} (n : Nat) (list : List (Int × Int)) (k_ : Int) (κ : Res → Option α) : evFn Try.prog (impl_CountOfMultiple_X n) Try.f48 (((buildDs impl_CountOfMultiple_sh [.rows .pt list, .int k_]).map Prod.fst).getD []) κ = impl_CountOfMultiple_run n [.rows .pt list, .int k_] κ := (impl_CountOfMultiple_gen impl_IsPolygon impl_in impl_polygon_area impl_polygon_border n list k_ κ).trans (by kernel_rfl)
theorem impl_CountOfMultiple_en (list : List (Int × Int)) (k_ : Int) : (entry 0 (((buildDs impl_CountOfMultiple_sh [.rows .pt list, .int k_]).map Prod.fst).getD [])).map (fun x => (x.1.length, x.2.lent)) = some (2, []) := by kernel_rfl
theorem impl_CountOfMultiple_good {α : Type} : ∀ n, GoodFn (α := α) Try.prog 48 (byShape impl_CountOfMultiple_sh (impl_CountOfMultiple_run n)) := by
  refine fn_good' Try.func48 (c := (Try.f48.body.getD .skip)) (by kernel_rfl) (by kernel_rfl) (by kernel_rfl) impl_CountOfMultiple_C impl_CountOfMultiple_M eqs impl_CountOfMultiple_lps (fun n => tabC_good (List.forall_mem_cons.2 ⟨(impl_IsPolygon_good n), (List.forall_mem_cons.2 ⟨(impl_in_good n), (List.forall_mem_cons.2 ⟨(impl_polygon_area_good n), (List.forall_mem_cons.2 ⟨(impl_polygon_border_good n), (fun _ h => absurd h List.not_mem_nil)⟩)⟩)⟩)⟩)) eqs_ok impl_CountOfMultiple_Lt ?_ ?_ impl_CountOfMultiple_sh impl_CountOfMultiple_run ?_
  · exact (fun _ h => absurd h List.not_mem_nil)
  · exact (fun _ h => absurd h List.not_mem_nil)
  · intro n p κ r ds hd hr
    have hr0 := hr
    unfold impl_CountOfMultiple_run impl_CountOfMultiple_runG at hr
    split at hr
    · rw [← ds_of hd]
      exact ⟨en_of (impl_CountOfMultiple_en _ _) ⟨rfl, rfl⟩, (impl_CountOfMultiple_ev n _ _ κ).trans hr0⟩
    · cases hr

/-! loop.example/g01297/laws.eqPoint -/
def laws_eqPoint_sh : List SkD := [.agg [.int .i64, .int .i64], .agg [.int .i64, .int .i64]]
def laws_eqPoint_runG {α : Type} (F : Nat → Int → Int → Int → Int → (Bool → Option α) → Option α) (n : Nat) (p : List P1) (κ : Res → Option α) : Option α := match p with
  | [.int a, .int a1, .int b_, .int b_1] => F n a a1 b_ b_1 (fun v1 => κ ⟨[.bool v1], []⟩)
  | _ => none
def laws_eqPoint_run {α : Type} (n : Nat) (p : List P1) (κ : Res → Option α) : Option α := laws_eqPoint_runG laws_eqPoint n p κ
def laws_eqPoint_CG {α : Type}  (n : Nat) : FuncId → List D → (Res → Option α) → Option α := tabC []
def laws_eqPoint_C {α : Type} (n : Nat) : FuncId → List D → (Res → Option α) → Option α := laws_eqPoint_CG n
def laws_eqPoint_M : FuncId → List Nat := tabM []
def laws_eqPoint_lpsG {α : Type}  : List (LoopT α) := []
def laws_eqPoint_lps {α : Type} : List (LoopT α) := laws_eqPoint_lpsG
def laws_eqPoint_XG {α : Type}   (n : Nat) : Ctx α := ⟨laws_eqPoint_CG n, laws_eqPoint_M, eqs, lpOf (laws_eqPoint_lpsG) n⟩
def laws_eqPoint_X {α : Type} (n : Nat) : Ctx α := laws_eqPoint_XG n
def laws_eqPoint_Lt (np : Nat) (lent : List (Bool × Nat × Blk)) : Prop := np = 2 ∧ lent = []
def laws_eqPoint_body {α : Type}   (k : Nat) (a : Int) (a1 : Int) (b_ : Int) (b_1 : Int) (r0 : Bool → Option α) : Option α :=
  bif (!decide (a = b_)) then
    r0 false
  else
  bif (!decide (a1 = b_1)) then
    r0 false
  else
    r0 true
theorem laws_eqPoint_gen {α : Type}   (n : Nat) (a : Int) (a1 : Int) (b_ : Int) (b_1 : Int) (κ : Res → Option α) : evFn Try.prog (laws_eqPoint_XG n) Try.f67 (((buildDs laws_eqPoint_sh [.int a, .int a1, .int b_, .int b_1]).map Prod.fst).getD []) κ = laws_eqPoint_body n a a1 b_ b_1 (fun v1 => κ ⟨[.bool v1], []⟩) := by kernel_rfl
theorem laws_eqPoint_ev {α : Type} (n : Nat) (a : Int) (a1 : Int) (b_ : Int) (b_1 : Int) (κ : Res → Option α) : evFn Try.prog (laws_eqPoint_X n) Try.f67 (((buildDs laws_eqPoint_sh [.int a, .int a1, .int b_, .int b_1]).map Prod.fst).getD []) κ = laws_eqPoint_run n [.int a, .int a1, .int b_, .int b_1] κ := (laws_eqPoint_gen n a a1 b_ b_1 κ).trans (by kernel_rfl)
theorem laws_eqPoint_en (a : Int) (a1 : Int) (b_ : Int) (b_1 : Int) : (entry 0 (((buildDs laws_eqPoint_sh [.int a, .int a1, .int b_, .int b_1]).map Prod.fst).getD [])).map (fun x => (x.1.length, x.2.lent)) = some (2, []) := by kernel_rfl
theorem laws_eqPoint_good {α : Type} : ∀ n, GoodFn (α := α) Try.prog 67 (byShape laws_eqPoint_sh (laws_eqPoint_run n)) := by
  refine fn_good' Try.func67 (c := (Try.f67.body.getD .skip)) (by kernel_rfl) (by kernel_rfl) (by kernel_rfl) laws_eqPoint_C laws_eqPoint_M eqs laws_eqPoint_lps (fun n => tabC_good (fun _ h => absurd h List.not_mem_nil)) eqs_ok laws_eqPoint_Lt ?_ ?_ laws_eqPoint_sh laws_eqPoint_run ?_
  · exact (fun _ h => absurd h List.not_mem_nil)
  · exact (fun _ h => absurd h List.not_mem_nil)
  · intro n p κ r ds hd hr
    have hr0 := hr
    unfold laws_eqPoint_run laws_eqPoint_runG at hr
    split at hr
    · rw [← ds_of hd]
      exact ⟨en_of (laws_eqPoint_en _ _ _ _) ⟨rfl, rfl⟩, (laws_eqPoint_ev n _ _ _ _ κ).trans hr0⟩
    · cases hr

/-! loop.example/g01297/laws.eqPointS -/
def laws_eqPointS_sh : List SkD := [.sl 33 .pt, .sl 33 .pt]
def laws_eqPointS_runG {α : Type} (F : Nat → (List (Int × Int)) → (List (Int × Int)) → (Bool → Option α) → Option α) (n : Nat) (p : List P1) (κ : Res → Option α) : Option α := match p with
  | [.rows .pt a, .rows .pt b_] => F n a b_ (fun v1 => κ ⟨[.bool v1], []⟩)
  | _ => none
def laws_eqPointS_run {α : Type} (n : Nat) (p : List P1) (κ : Res → Option α) : Option α := laws_eqPointS_runG laws_eqPointS n p κ
def laws_eqPointS_CG {α : Type} (F0 : Nat → Int → Int → Int → Int → (Bool → Option α) → Option α) (n : Nat) : FuncId → List D → (Res → Option α) → Option α := tabC [(67, (byShape laws_eqPoint_sh (laws_eqPoint_runG F0 n)))]
def laws_eqPointS_C {α : Type} (n : Nat) : FuncId → List D → (Res → Option α) → Option α := laws_eqPointS_CG laws_eqPoint n
def laws_eqPointS_M : FuncId → List Nat := tabM []
def laws_eqPointS_t4 : Tpl := ⟨[.sl 0, .sl 64, .any, .any, .any, .int .i64, .any, .any, .any, .any, .any, .any, .any, .any, .any, .any, .any, .any, .any, .any, .any, .any, .any, .any, .any, .any, .any], [(0, .rows 0 33 .pt), (64, .rows 0 33 .pt)], []⟩
def laws_eqPointS_uG4 {α : Type} (G : Nat → Int → (List (Int × Int)) → (List (Int × Int)) → (Int → (List (Int × Int)) → (List (Int × Int)) → Option α) → (Bool → Option α) → Option α) (n : Nat) (p : List P1) (brk : Nat → List P1 → Option α) (ret : Res → Option α) : Option α := match p with
  | [.int i, .rows .pt a1, .rows .pt b_1] => G n i a1 b_1 (fun i a1 b_1 => brk 0 [.int i, .rows .pt a1, .rows .pt b_1]) (fun v1 => ret ⟨[.bool v1], []⟩)
  | _ => none
def laws_eqPointS_u4 {α : Type} (n : Nat) (p : List P1) (brk : Nat → List P1 → Option α) (ret : Res → Option α) : Option α := laws_eqPointS_uG4 laws_eqPointS_l4 n p brk ret
def laws_eqPointS_lpsG {α : Type} (G4 : Nat → Int → (List (Int × Int)) → (List (Int × Int)) → (Int → (List (Int × Int)) → (List (Int × Int)) → Option α) → (Bool → Option α) → Option α) : List (LoopT α) := [⟨4, laws_eqPointS_t4, laws_eqPointS_uG4 G4⟩]
def laws_eqPointS_lps {α : Type} : List (LoopT α) := laws_eqPointS_lpsG laws_eqPointS_l4
def laws_eqPointS_XG {α : Type} (F0 : Nat → Int → Int → Int → Int → (Bool → Option α) → Option α) (G4 : Nat → Int → (List (Int × Int)) → (List (Int × Int)) → (Int → (List (Int × Int)) → (List (Int × Int)) → Option α) → (Bool → Option α) → Option α) (n : Nat) : Ctx α := ⟨laws_eqPointS_CG F0 n, laws_eqPointS_M, eqs, lpOf (laws_eqPointS_lpsG G4) n⟩
def laws_eqPointS_X {α : Type} (n : Nat) : Ctx α := laws_eqPointS_XG laws_eqPoint laws_eqPointS_l4 n
def laws_eqPointS_Lt (np : Nat) (lent : List (Bool × Nat × Blk)) : Prop := np = 2 ∧ lent = []
def laws_eqPointS_lb4 {α : Type} (F0 : Nat → Int → Int → Int → Int → (Bool → Option α) → Option α) (G4 : Nat → Int → (List (Int × Int)) → (List (Int × Int)) → (Int → (List (Int × Int)) → (List (Int × Int)) → Option α) → (Bool → Option α) → Option α) (k : Nat) (i : Int) (a1 : List (Int × Int)) (b_1 : List (Int × Int)) (b0 : Int → (List (Int × Int)) → (List (Int × Int)) → Option α) (r0 : Bool → Option α) : Option α :=
  bif decide (i < (((List.length a1) : Nat) : Int)) then
    bif (decide (0 ≤ i) && decide (i < (((List.length a1) : Nat) : Int))) then
      (a1[i.toNat]?).bind fun e_ =>
      bif (decide (0 ≤ i) && decide (i < (((List.length b_1) : Nat) : Int))) then
        (b_1[i.toNat]?).bind fun e_1 =>
        F0 k e_.1 e_.2 e_1.1 e_1.2 fun v =>
        bif (!v) then
          r0 false
        else
          G4 k (w64 (i + 1)) a1 b_1 b0 r0
      else
        none
    else
      none
  else
    b0 i a1 b_1
theorem laws_eqPointS_l4_gen {α : Type} (F0 : Nat → Int → Int → Int → Int → (Bool → Option α) → Option α) (G4 : Nat → Int → (List (Int × Int)) → (List (Int × Int)) → (Int → (List (Int × Int)) → (List (Int × Int)) → Option α) → (Bool → Option α) → Option α) (n : Nat) (i : Int) (a1 : List (Int × Int)) (b_1 : List (Int × Int)) (brk : Nat → List P1 → Option α) (ret : Res → Option α) : ev ((laws_eqPointS_XG F0 G4 n).env Try.prog Try.f21 2 []) (findLoop (loopsIn (Try.f21.body.getD .skip)) 4) ((laws_eqPointS_t4.build [.int i, .rows .pt a1, .rows .pt b_1]).getD ⟨[], []⟩) (roundK (2 * 64) laws_eqPointS_t4 (fun q => laws_eqPointS_uG4 G4 n q brk ret) brk ret) = laws_eqPointS_lb4 F0 G4 n i a1 b_1 (fun i a1 b_1 => brk 0 [.int i, .rows .pt a1, .rows .pt b_1]) (fun v1 => ret ⟨[.bool v1], []⟩) := by kernel_rfl
theorem laws_eqPointS_l4_ev {α : Type} (n : Nat) (i : Int) (a1 : List (Int × Int)) (b_1 : List (Int × Int)) (brk : Nat → List P1 → Option α) (ret : Res → Option α) : ev ((laws_eqPointS_X n).env Try.prog Try.f21 2 []) (findLoop (loopsIn (Try.f21.body.getD .skip)) 4) ((laws_eqPointS_t4.build [.int i, .rows .pt a1, .rows .pt b_1]).getD ⟨[], []⟩) (roundK (2 * 64) laws_eqPointS_t4 (fun q => laws_eqPointS_u4 n q brk ret) brk ret) = laws_eqPointS_u4 (n + 1) [.int i, .rows .pt a1, .rows .pt b_1] brk ret := (laws_eqPointS_l4_gen laws_eqPoint laws_eqPointS_l4 n i a1 b_1 brk ret).trans (by kernel_rfl)
def laws_eqPointS_body {α : Type} (F0 : Nat → Int → Int → Int → Int → (Bool → Option α) → Option α) (G4 : Nat → Int → (List (Int × Int)) → (List (Int × Int)) → (Int → (List (Int × Int)) → (List (Int × Int)) → Option α) → (Bool → Option α) → Option α) (k : Nat) (a : List (Int × Int)) (b_ : List (Int × Int)) (r0 : Bool → Option α) : Option α :=
  bif (!decide ((((List.length a) : Nat) : Int) = (((List.length b_) : Nat) : Int))) then
    r0 false
  else
    G4 k 0 a b_
      (fun i1 a2 b_2 =>
        r0 true)
      r0
theorem laws_eqPointS_gen {α : Type} (F0 : Nat → Int → Int → Int → Int → (Bool → Option α) → Option α) (G4 : Nat → Int → (List (Int × Int)) → (List (Int × Int)) → (Int → (List (Int × Int)) → (List (Int × Int)) → Option α) → (Bool → Option α) → Option α) (n : Nat) (a : List (Int × Int)) (b_ : List (Int × Int)) (κ : Res → Option α) : evFn Try.prog (laws_eqPointS_XG F0 G4 n) Try.f21 (((buildDs laws_eqPointS_sh [.rows .pt a, .rows .pt b_]).map Prod.fst).getD []) κ = laws_eqPointS_body F0 G4 n a b_ (fun v1 => κ ⟨[.bool v1], []⟩) := by kernel_rfl
theorem laws_eqPointS_ev {α : Type} (n : Nat) (a : List (Int × Int)) (b_ : List (Int × Int)) (κ : Res → Option α) : evFn Try.prog (laws_eqPointS_X n) Try.f21 (((buildDs laws_eqPointS_sh [.rows .pt a, .rows .pt b_]).map Prod.fst).getD []) κ = laws_eqPointS_run n [.rows .pt a, .rows .pt b_] κ := (laws_eqPointS_gen laws_eqPoint laws_eqPointS_l4 n a b_ κ).trans (by kernel_rfl)
theorem laws_eqPointS_en (a : List (Int × Int)) (b_ : List (Int × Int)) : (entry 0 (((buildDs laws_eqPointS_sh [.rows .pt a, .rows .pt b_]).map Prod.fst).getD [])).map (fun x => (x.1.length, x.2.lent)) = some (2, []) := by kernel_rfl
theorem laws_eqPointS_good {α : Type} : ∀ n, GoodFn (α := α) Try.prog 21 (byShape laws_eqPointS_sh (laws_eqPointS_run n)) := by
  refine fn_good' Try.func21 (c := (Try.f21.body.getD .skip)) (by kernel_rfl) (by kernel_rfl) (by kernel_rfl) laws_eqPointS_C laws_eqPointS_M eqs laws_eqPointS_lps (fun n => tabC_good (List.forall_mem_cons.2 ⟨(laws_eqPoint_good n), (fun _ h => absurd h List.not_mem_nil)⟩)) eqs_ok laws_eqPointS_Lt ?_ ?_ laws_eqPointS_sh laws_eqPointS_run ?_
  · refine List.forall_mem_cons.2 ⟨?_, (fun _ h => absurd h List.not_mem_nil)⟩
    · intro p brk ret; show laws_eqPointS_u4 0 p brk ret = none; unfold laws_eqPointS_u4 laws_eqPointS_uG4; split <;> rfl
  · refine List.forall_mem_cons.2 ⟨?_, (fun _ h => absurd h List.not_mem_nil)⟩
    · intro np lent hL n p brk ret st r hb hr
      obtain ⟨rfl, rfl⟩ := hL
      rw [← tpl_of hb]
      change laws_eqPointS_u4 (n + 1) p brk ret = some r at hr
      have hr0 := hr
      unfold laws_eqPointS_u4 laws_eqPointS_uG4 at hr
      split at hr
      · exact (laws_eqPointS_l4_ev n _ _ _ brk ret).trans hr0
      · cases hr
  · intro n p κ r ds hd hr
    have hr0 := hr
    unfold laws_eqPointS_run laws_eqPointS_runG at hr
    split at hr
    · rw [← ds_of hd]
      exact ⟨en_of (laws_eqPointS_en _ _) ⟨rfl, rfl⟩, (laws_eqPointS_ev n _ _ κ).trans hr0⟩
    · cases hr

end Go.Proofs.Ytnfpidnnmgedfaa
