/- The program's functions hold to their readings without memory: printed by a program of ours. -/
import Derived.Test.YtjekmhinmcniaaaSe1XAreEqualTriangles
namespace Go.Proofs.Ytjekmhinmcniaaa
open Go Go.Ev Go.Sh Go.Proofs

/-! loop.example/g01297/impl.gcd -/
def impl_gcd_sh : List SkD := [.int .i64, .int .i64]
def impl_gcd_runG {α : Type} (F : Nat → Int → Int → (Int → Option α) → Option α) (n : Nat) (p : List P1) (κ : Res → Option α) : Option α := match p with
  | [.int a, .int b_] => F n a b_ (fun v1 => κ ⟨[.int .i64 v1], []⟩)
  | _ => none
def impl_gcd_run {α : Type} (n : Nat) (p : List P1) (κ : Res → Option α) : Option α := impl_gcd_runG impl_gcd n p κ
def impl_gcd_CG {α : Type} (F0 : Nat → Int → (Int → Option α) → Option α) (n : Nat) : FuncId → List D → (Res → Option α) → Option α := tabC [(266, (byShape impl_size_sh (impl_size_runG F0 n)))]
def impl_gcd_C {α : Type} (n : Nat) : FuncId → List D → (Res → Option α) → Option α := impl_gcd_CG impl_size n
def impl_gcd_M : FuncId → List Nat := tabM []
def impl_gcd_t1 : Tpl := ⟨[.int .i64, .int .i64, .any, .any, .any, .any, .any, .any, .any, .any, .any, .any, .any], [], []⟩
def impl_gcd_uG1 {α : Type} (G : Nat → Int → Int → (Int → Int → Option α) → (Int → Option α) → Option α) (n : Nat) (p : List P1) (brk : Nat → List P1 → Option α) (ret : Res → Option α) : Option α := match p with
  | [.int a1, .int b_1] => G n a1 b_1 (fun a1 b_1 => brk 0 [.int a1, .int b_1]) (fun v1 => ret ⟨[.int .i64 v1], []⟩)
  | _ => none
def impl_gcd_u1 {α : Type} (n : Nat) (p : List P1) (brk : Nat → List P1 → Option α) (ret : Res → Option α) : Option α := impl_gcd_uG1 impl_gcd_l1 n p brk ret
def impl_gcd_lpsG {α : Type} (G1 : Nat → Int → Int → (Int → Int → Option α) → (Int → Option α) → Option α) : List (LoopT α) := [⟨1, impl_gcd_t1, impl_gcd_uG1 G1⟩]
def impl_gcd_lps {α : Type} : List (LoopT α) := impl_gcd_lpsG impl_gcd_l1
def impl_gcd_XG {α : Type} (F0 : Nat → Int → (Int → Option α) → Option α) (G1 : Nat → Int → Int → (Int → Int → Option α) → (Int → Option α) → Option α) (n : Nat) : Ctx α := ⟨impl_gcd_CG F0 n, impl_gcd_M, eqs, lpOf (impl_gcd_lpsG G1) n⟩
def impl_gcd_X {α : Type} (n : Nat) : Ctx α := impl_gcd_XG impl_size impl_gcd_l1 n
def impl_gcd_Lt (np : Nat) (lent : List (Bool × Nat × Blk)) : Prop := np = 2 ∧ lent = []
def impl_gcd_lb1 {α : Type} (F0 : Nat → Int → (Int → Option α) → Option α) (G1 : Nat → Int → Int → (Int → Int → Option α) → (Int → Option α) → Option α) (k : Nat) (a1 : Int) (b_1 : Int) (b0 : Int → Int → Option α) (r0 : Int → Option α) : Option α :=
  bif (!decide (b_1 = 0)) then
    bif decide (b_1 = 0) then
      none
    else
      G1 k b_1 (Int.tmod a1 b_1) b0 r0
  else
    b0 a1 b_1
theorem impl_gcd_l1_gen {α : Type} (F0 : Nat → Int → (Int → Option α) → Option α) (G1 : Nat → Int → Int → (Int → Int → Option α) → (Int → Option α) → Option α) (n : Nat) (a1 : Int) (b_1 : Int) (brk : Nat → List P1 → Option α) (ret : Res → Option α) : ev ((impl_gcd_XG F0 G1 n).env Try.prog Try.f307 2 []) (findLoop (loopsIn (Try.f307.body.getD .skip)) 1) ((impl_gcd_t1.build [.int a1, .int b_1]).getD ⟨[], []⟩) (roundK (2 * 64) impl_gcd_t1 (fun q => impl_gcd_uG1 G1 n q brk ret) brk ret) = impl_gcd_lb1 F0 G1 n a1 b_1 (fun a1 b_1 => brk 0 [.int a1, .int b_1]) (fun v1 => ret ⟨[.int .i64 v1], []⟩) := by kernel_rfl
theorem impl_gcd_l1_eq {α : Type} (k : Nat) (a1 : Int) (b_1 : Int) (b0 : Int → Int → Option α) (r0 : Int → Option α) : impl_gcd_lb1 impl_size impl_gcd_l1 k a1 b_1 b0 r0 = impl_gcd_l1 (k + 1) a1 b_1 b0 r0 := (impl_gcd_lb1.eq_1 impl_size impl_gcd_l1 k a1 b_1 b0 r0).trans (show impl_gcd_l1 (k + 1) a1 b_1 b0 r0 = _ from impl_gcd_l1.eq_2 _ _ _ _ _ ).symm
theorem impl_gcd_l1_rn {α : Type} (G : Nat → Int → Int → (Int → Int → Option α) → (Int → Option α) → Option α) (n : Nat) (a1 : Int) (b_1 : Int) (brk : Nat → List P1 → Option α) (ret : Res → Option α) : impl_gcd_uG1 G n [.int a1, .int b_1] brk ret = G n a1 b_1 (fun a1 b_1 => brk 0 [.int a1, .int b_1]) (fun v1 => ret ⟨[.int .i64 v1], []⟩) := rfl
theorem impl_gcd_l1_ev {α : Type} (n : Nat) (a1 : Int) (b_1 : Int) (brk : Nat → List P1 → Option α) (ret : Res → Option α) : ev ((impl_gcd_X n).env Try.prog Try.f307 2 []) (findLoop (loopsIn (Try.f307.body.getD .skip)) 1) ((impl_gcd_t1.build [.int a1, .int b_1]).getD ⟨[], []⟩) (roundK (2 * 64) impl_gcd_t1 (fun q => impl_gcd_u1 n q brk ret) brk ret) = impl_gcd_u1 (n + 1) [.int a1, .int b_1] brk ret := (impl_gcd_l1_gen impl_size impl_gcd_l1 n a1 b_1 brk ret).trans ((impl_gcd_l1_eq n a1 b_1 (fun a1 b_1 => brk 0 [.int a1, .int b_1]) (fun v1 => ret ⟨[.int .i64 v1], []⟩)).trans ((impl_gcd_u1.eq_1 (n + 1) [.int a1, .int b_1] brk ret).trans (impl_gcd_l1_rn impl_gcd_l1 (n + 1) a1 b_1 brk ret)).symm)
def impl_gcd_body {α : Type} (F0 : Nat → Int → (Int → Option α) → Option α) (G1 : Nat → Int → Int → (Int → Int → Option α) → (Int → Option α) → Option α) (k : Nat) (a : Int) (b_ : Int) (r0 : Int → Option α) : Option α :=
  G1 k a b_
    (fun a2 b_2 =>
      F0 k a2 fun v =>
      r0 v)
    r0
theorem impl_gcd_gen {α : Type} (F0 : Nat → Int → (Int → Option α) → Option α) (G1 : Nat → Int → Int → (Int → Int → Option α) → (Int → Option α) → Option α) (n : Nat) (a : Int) (b_ : Int) (κ : Res → Option α) : evFn Try.prog (impl_gcd_XG F0 G1 n) Try.f307 (((buildDs impl_gcd_sh [.int a, .int b_]).map Prod.fst).getD []) κ = impl_gcd_body F0 G1 n a b_ (fun v1 => κ ⟨[.int .i64 v1], []⟩) := by kernel_rfl
theorem impl_gcd_eq {α : Type} (n : Nat) (a : Int) (b_ : Int) (r0 : Int → Option α) : impl_gcd_body impl_size impl_gcd_l1 n a b_ r0 = impl_gcd n a b_ r0 := (impl_gcd_body.eq_1 impl_size impl_gcd_l1 n a b_ r0).trans (impl_gcd.eq_1 n a b_ r0).symm
theorem impl_gcd_rn {α : Type} (F : Nat → Int → Int → (Int → Option α) → Option α) (n : Nat) (a : Int) (b_ : Int) (κ : Res → Option α) : impl_gcd_runG F n [.int a, .int b_] κ = F n a b_ (fun v1 => κ ⟨[.int .i64 v1], []⟩) := rfl
theorem impl_gcd_ev {α : Type} (n : Nat) (a : Int) (b_ : Int) (κ : Res → Option α) : evFn Try.prog (impl_gcd_X n) Try.f307 (((buildDs impl_gcd_sh [.int a, .int b_]).map Prod.fst).getD []) κ = impl_gcd_run n [.int a, .int b_] κ := (impl_gcd_gen impl_size impl_gcd_l1 n a b_ κ).trans ((impl_gcd_eq n a b_ (fun v1 => κ ⟨[.int .i64 v1], []⟩)).trans ((impl_gcd_run.eq_1 n [.int a, .int b_] κ).trans (impl_gcd_rn impl_gcd n a b_ κ)).symm)
theorem impl_gcd_en (a : Int) (b_ : Int) : (entry 0 (((buildDs impl_gcd_sh [.int a, .int b_]).map Prod.fst).getD [])).map (fun x => (x.1.length, x.2.lent)) = some (2, []) := by kernel_rfl
theorem impl_gcd_good {α : Type} : ∀ n, GoodFn (α := α) Try.prog 307 (byShape impl_gcd_sh (impl_gcd_run n)) := by
  refine fn_good' Try.func307 (c := (Try.f307.body.getD .skip)) (by kernel_rfl) (by kernel_rfl) (by kernel_rfl) impl_gcd_C impl_gcd_M eqs impl_gcd_lps (fun n => tabC_good (List.forall_mem_cons.2 ⟨(impl_size_good n), (fun _ h => absurd h List.not_mem_nil)⟩)) eqs_ok impl_gcd_Lt ?_ ?_ impl_gcd_sh impl_gcd_run ?_
  · refine List.forall_mem_cons.2 ⟨?_, (fun _ h => absurd h List.not_mem_nil)⟩
    · intro p brk ret; show impl_gcd_u1 0 p brk ret = none; unfold impl_gcd_u1 impl_gcd_uG1; split <;> rfl
  · refine List.forall_mem_cons.2 ⟨?_, (fun _ h => absurd h List.not_mem_nil)⟩
    · intro np lent hL n p brk ret st r hb hr
      obtain ⟨rfl, rfl⟩ := hL
      rw [← tpl_of hb]
      change impl_gcd_u1 (n + 1) p brk ret = some r at hr
      have hr0 := hr
      unfold impl_gcd_u1 impl_gcd_uG1 at hr
      split at hr
      · exact (impl_gcd_l1_ev n _ _ brk ret).trans hr0
      · cases hr
  · intro n p κ r ds hd hr
    have hr0 := hr
    unfold impl_gcd_run impl_gcd_runG at hr
    split at hr
    · rw [← ds_of hd]
      exact ⟨en_of (impl_gcd_en _ _) ⟨rfl, rfl⟩, (impl_gcd_ev n _ _ κ).trans hr0⟩
    · cases hr

/-! (loop.example/g01297/impl.Point).length -/
def impl_Point_length_sh : List SkD := [.agg [.int .i64, .int .i64]]
def impl_Point_length_runG {α : Type} (F : Nat → Int → Int → (Int → Option α) → Option α) (n : Nat) (p : List P1) (κ : Res → Option α) : Option α := match p with
  | [.int a, .int a1] => F n a a1 (fun v1 => κ ⟨[.int .i64 v1], []⟩)
  | _ => none
def impl_Point_length_run {α : Type} (n : Nat) (p : List P1) (κ : Res → Option α) : Option α := impl_Point_length_runG impl_Point_length n p κ
def impl_Point_length_CG {α : Type} (F0 : Nat → Int → Int → (Int → Option α) → Option α) (n : Nat) : FuncId → List D → (Res → Option α) → Option α := tabC [(307, (byShape impl_gcd_sh (impl_gcd_runG F0 n)))]
def impl_Point_length_C {α : Type} (n : Nat) : FuncId → List D → (Res → Option α) → Option α := impl_Point_length_CG impl_gcd n
def impl_Point_length_M : FuncId → List Nat := tabM []
def impl_Point_length_lpsG {α : Type}  : List (LoopT α) := []
def impl_Point_length_lps {α : Type} : List (LoopT α) := impl_Point_length_lpsG
def impl_Point_length_XG {α : Type} (F0 : Nat → Int → Int → (Int → Option α) → Option α)  (n : Nat) : Ctx α := ⟨impl_Point_length_CG F0 n, impl_Point_length_M, eqs, lpOf (impl_Point_length_lpsG) n⟩
def impl_Point_length_X {α : Type} (n : Nat) : Ctx α := impl_Point_length_XG impl_gcd n
def impl_Point_length_Lt (np : Nat) (lent : List (Bool × Nat × Blk)) : Prop := np = 1 ∧ lent = []
def impl_Point_length_body {α : Type} (F0 : Nat → Int → Int → (Int → Option α) → Option α)  (k : Nat) (a : Int) (a1 : Int) (r0 : Int → Option α) : Option α :=
  F0 k a a1 fun v =>
  r0 v
theorem impl_Point_length_gen {α : Type} (F0 : Nat → Int → Int → (Int → Option α) → Option α)  (n : Nat) (a : Int) (a1 : Int) (κ : Res → Option α) : evFn Try.prog (impl_Point_length_XG F0 n) Try.f234 (((buildDs impl_Point_length_sh [.int a, .int a1]).map Prod.fst).getD []) κ = impl_Point_length_body F0 n a a1 (fun v1 => κ ⟨[.int .i64 v1], []⟩) := by kernel_rfl
theorem impl_Point_length_eq {α : Type} (n : Nat) (a : Int) (a1 : Int) (r0 : Int → Option α) : impl_Point_length_body impl_gcd n a a1 r0 = impl_Point_length n a a1 r0 := (impl_Point_length_body.eq_1 impl_gcd n a a1 r0).trans (impl_Point_length.eq_1 n a a1 r0).symm
theorem impl_Point_length_rn {α : Type} (F : Nat → Int → Int → (Int → Option α) → Option α) (n : Nat) (a : Int) (a1 : Int) (κ : Res → Option α) : impl_Point_length_runG F n [.int a, .int a1] κ = F n a a1 (fun v1 => κ ⟨[.int .i64 v1], []⟩) := rfl
theorem impl_Point_length_ev {α : Type} (n : Nat) (a : Int) (a1 : Int) (κ : Res → Option α) : evFn Try.prog (impl_Point_length_X n) Try.f234 (((buildDs impl_Point_length_sh [.int a, .int a1]).map Prod.fst).getD []) κ = impl_Point_length_run n [.int a, .int a1] κ := (impl_Point_length_gen impl_gcd n a a1 κ).trans ((impl_Point_length_eq n a a1 (fun v1 => κ ⟨[.int .i64 v1], []⟩)).trans ((impl_Point_length_run.eq_1 n [.int a, .int a1] κ).trans (impl_Point_length_rn impl_Point_length n a a1 κ)).symm)
theorem impl_Point_length_en (a : Int) (a1 : Int) : (entry 0 (((buildDs impl_Point_length_sh [.int a, .int a1]).map Prod.fst).getD [])).map (fun x => (x.1.length, x.2.lent)) = some (1, []) := by kernel_rfl
theorem impl_Point_length_good {α : Type} : ∀ n, GoodFn (α := α) Try.prog 234 (byShape impl_Point_length_sh (impl_Point_length_run n)) := by
  refine fn_good' Try.func234 (c := (Try.f234.body.getD .skip)) (by kernel_rfl) (by kernel_rfl) (by kernel_rfl) impl_Point_length_C impl_Point_length_M eqs impl_Point_length_lps (fun n => tabC_good (List.forall_mem_cons.2 ⟨(impl_gcd_good n), (fun _ h => absurd h List.not_mem_nil)⟩)) eqs_ok impl_Point_length_Lt ?_ ?_ impl_Point_length_sh impl_Point_length_run ?_
  · exact (fun _ h => absurd h List.not_mem_nil)
  · exact (fun _ h => absurd h List.not_mem_nil)
  · intro n p κ r ds hd hr
    have hr0 := hr
    unfold impl_Point_length_run impl_Point_length_runG at hr
    split at hr
    · rw [← ds_of hd]
      exact ⟨en_of (impl_Point_length_en _ _) ⟨rfl, rfl⟩, (impl_Point_length_ev n _ _ κ).trans hr0⟩
    · cases hr

/-! (loop.example/g01297/impl.Triangle).area -/
def impl_Triangle_area_sh : List SkD := [.agg [.int .i64, .int .i64, .int .i64, .int .i64, .int .i64, .int .i64]]
def impl_Triangle_area_runG {α : Type} (F : Nat → Int → Int → Int → Int → Int → Int → (Int → Option α) → Option α) (n : Nat) (p : List P1) (κ : Res → Option α) : Option α := match p with
  | [.int t, .int t1, .int t2, .int t3, .int t4, .int t5] => F n t t1 t2 t3 t4 t5 (fun v1 => κ ⟨[.int .i64 v1], []⟩)
  | _ => none
def impl_Triangle_area_run {α : Type} (n : Nat) (p : List P1) (κ : Res → Option α) : Option α := impl_Triangle_area_runG impl_Triangle_area n p κ
def impl_Triangle_area_CG {α : Type} (F0 : Nat → Int → Int → Int → Int → Int → Int → (Int → Option α) → Option α) (n : Nat) : FuncId → List D → (Res → Option α) → Option α := tabC [(205, (byShape impl_area_sh (impl_area_runG F0 n)))]
def impl_Triangle_area_C {α : Type} (n : Nat) : FuncId → List D → (Res → Option α) → Option α := impl_Triangle_area_CG impl_area n
def impl_Triangle_area_M : FuncId → List Nat := tabM []
def impl_Triangle_area_lpsG {α : Type}  : List (LoopT α) := []
def impl_Triangle_area_lps {α : Type} : List (LoopT α) := impl_Triangle_area_lpsG
def impl_Triangle_area_XG {α : Type} (F0 : Nat → Int → Int → Int → Int → Int → Int → (Int → Option α) → Option α)  (n : Nat) : Ctx α := ⟨impl_Triangle_area_CG F0 n, impl_Triangle_area_M, eqs, lpOf (impl_Triangle_area_lpsG) n⟩
def impl_Triangle_area_X {α : Type} (n : Nat) : Ctx α := impl_Triangle_area_XG impl_area n
def impl_Triangle_area_Lt (np : Nat) (lent : List (Bool × Nat × Blk)) : Prop := np = 1 ∧ lent = []
def impl_Triangle_area_body {α : Type} (F0 : Nat → Int → Int → Int → Int → Int → Int → (Int → Option α) → Option α)  (k : Nat) (t : Int) (t1 : Int) (t2 : Int) (t3 : Int) (t4 : Int) (t5 : Int) (r0 : Int → Option α) : Option α :=
  F0 k t t1 t2 t3 t4 t5 fun v =>
  r0 v
theorem impl_Triangle_area_gen {α : Type} (F0 : Nat → Int → Int → Int → Int → Int → Int → (Int → Option α) → Option α)  (n : Nat) (t : Int) (t1 : Int) (t2 : Int) (t3 : Int) (t4 : Int) (t5 : Int) (κ : Res → Option α) : evFn Try.prog (impl_Triangle_area_XG F0 n) Try.f208 (((buildDs impl_Triangle_area_sh [.int t, .int t1, .int t2, .int t3, .int t4, .int t5]).map Prod.fst).getD []) κ = impl_Triangle_area_body F0 n t t1 t2 t3 t4 t5 (fun v1 => κ ⟨[.int .i64 v1], []⟩) := by kernel_rfl
theorem impl_Triangle_area_eq {α : Type} (n : Nat) (t : Int) (t1 : Int) (t2 : Int) (t3 : Int) (t4 : Int) (t5 : Int) (r0 : Int → Option α) : impl_Triangle_area_body impl_area n t t1 t2 t3 t4 t5 r0 = impl_Triangle_area n t t1 t2 t3 t4 t5 r0 := (impl_Triangle_area_body.eq_1 impl_area n t t1 t2 t3 t4 t5 r0).trans (impl_Triangle_area.eq_1 n t t1 t2 t3 t4 t5 r0).symm
theorem impl_Triangle_area_rn {α : Type} (F : Nat → Int → Int → Int → Int → Int → Int → (Int → Option α) → Option α) (n : Nat) (t : Int) (t1 : Int) (t2 : Int) (t3 : Int) (t4 : Int) (t5 : Int) (κ : Res → Option α) : impl_Triangle_area_runG F n [.int t, .int t1, .int t2, .int t3, .int t4, .int t5] κ = F n t t1 t2 t3 t4 t5 (fun v1 => κ ⟨[.int .i64 v1], []⟩) := rfl
theorem impl_Triangle_area_ev {α : Type} (n : Nat) (t : Int) (t1 : Int) (t2 : Int) (t3 : Int) (t4 : Int) (t5 : Int) (κ : Res → Option α) : evFn Try.prog (impl_Triangle_area_X n) Try.f208 (((buildDs impl_Triangle_area_sh [.int t, .int t1, .int t2, .int t3, .int t4, .int t5]).map Prod.fst).getD []) κ = impl_Triangle_area_run n [.int t, .int t1, .int t2, .int t3, .int t4, .int t5] κ := (impl_Triangle_area_gen impl_area n t t1 t2 t3 t4 t5 κ).trans ((impl_Triangle_area_eq n t t1 t2 t3 t4 t5 (fun v1 => κ ⟨[.int .i64 v1], []⟩)).trans ((impl_Triangle_area_run.eq_1 n [.int t, .int t1, .int t2, .int t3, .int t4, .int t5] κ).trans (impl_Triangle_area_rn impl_Triangle_area n t t1 t2 t3 t4 t5 κ)).symm)
theorem impl_Triangle_area_en (t : Int) (t1 : Int) (t2 : Int) (t3 : Int) (t4 : Int) (t5 : Int) : (entry 0 (((buildDs impl_Triangle_area_sh [.int t, .int t1, .int t2, .int t3, .int t4, .int t5]).map Prod.fst).getD [])).map (fun x => (x.1.length, x.2.lent)) = some (1, []) := by kernel_rfl
theorem impl_Triangle_area_good {α : Type} : ∀ n, GoodFn (α := α) Try.prog 208 (byShape impl_Triangle_area_sh (impl_Triangle_area_run n)) := by
  refine fn_good' Try.func208 (c := (Try.f208.body.getD .skip)) (by kernel_rfl) (by kernel_rfl) (by kernel_rfl) impl_Triangle_area_C impl_Triangle_area_M eqs impl_Triangle_area_lps (fun n => tabC_good (List.forall_mem_cons.2 ⟨(impl_area_good n), (fun _ h => absurd h List.not_mem_nil)⟩)) eqs_ok impl_Triangle_area_Lt ?_ ?_ impl_Triangle_area_sh impl_Triangle_area_run ?_
  · exact (fun _ h => absurd h List.not_mem_nil)
  · exact (fun _ h => absurd h List.not_mem_nil)
  · intro n p κ r ds hd hr
    have hr0 := hr
    unfold impl_Triangle_area_run impl_Triangle_area_runG at hr
    split at hr
    · rw [← ds_of hd]
      exact ⟨en_of (impl_Triangle_area_en _ _ _ _ _ _) ⟨rfl, rfl⟩, (impl_Triangle_area_ev n _ _ _ _ _ _ κ).trans hr0⟩
    · cases hr

/-! (loop.example/g01297/impl.Point).primitive -/
def impl_Point_primitive_sh : List SkD := [.agg [.int .i64, .int .i64]]
def impl_Point_primitive_runG {α : Type} (F : Nat → Int → Int → (Int → Int → Option α) → Option α) (n : Nat) (p : List P1) (κ : Res → Option α) : Option α := match p with
  | [.int a, .int a1] => F n a a1 (fun v1 v2 => κ ⟨[.agg [.int .i64 v1, .int .i64 v2]], []⟩)
  | _ => none
def impl_Point_primitive_run {α : Type} (n : Nat) (p : List P1) (κ : Res → Option α) : Option α := impl_Point_primitive_runG impl_Point_primitive n p κ
def impl_Point_primitive_CG {α : Type} (F0 : Nat → Int → Int → (Int → Option α) → Option α) (n : Nat) : FuncId → List D → (Res → Option α) → Option α := tabC [(234, (byShape impl_Point_length_sh (impl_Point_length_runG F0 n)))]
def impl_Point_primitive_C {α : Type} (n : Nat) : FuncId → List D → (Res → Option α) → Option α := impl_Point_primitive_CG impl_Point_length n
def impl_Point_primitive_M : FuncId → List Nat := tabM []
def impl_Point_primitive_lpsG {α : Type}  : List (LoopT α) := []
def impl_Point_primitive_lps {α : Type} : List (LoopT α) := impl_Point_primitive_lpsG
def impl_Point_primitive_XG {α : Type} (F0 : Nat → Int → Int → (Int → Option α) → Option α)  (n : Nat) : Ctx α := ⟨impl_Point_primitive_CG F0 n, impl_Point_primitive_M, eqs, lpOf (impl_Point_primitive_lpsG) n⟩
def impl_Point_primitive_X {α : Type} (n : Nat) : Ctx α := impl_Point_primitive_XG impl_Point_length n
def impl_Point_primitive_Lt (np : Nat) (lent : List (Bool × Nat × Blk)) : Prop := np = 1 ∧ lent = []
def impl_Point_primitive_body {α : Type} (F0 : Nat → Int → Int → (Int → Option α) → Option α)  (k : Nat) (a : Int) (a1 : Int) (r0 : Int → Int → Option α) : Option α :=
  F0 k a a1 fun v =>
  bif decide (v = 0) then
    none
  else
  bif decide (v = 0) then
    none
  else
    r0 (w64 (Int.tdiv a v)) (w64 (Int.tdiv a1 v))
theorem impl_Point_primitive_gen {α : Type} (F0 : Nat → Int → Int → (Int → Option α) → Option α)  (n : Nat) (a : Int) (a1 : Int) (κ : Res → Option α) : evFn Try.prog (impl_Point_primitive_XG F0 n) Try.f243 (((buildDs impl_Point_primitive_sh [.int a, .int a1]).map Prod.fst).getD []) κ = impl_Point_primitive_body F0 n a a1 (fun v1 v2 => κ ⟨[.agg [.int .i64 v1, .int .i64 v2]], []⟩) := by kernel_rfl
theorem impl_Point_primitive_eq {α : Type} (n : Nat) (a : Int) (a1 : Int) (r0 : Int → Int → Option α) : impl_Point_primitive_body impl_Point_length n a a1 r0 = impl_Point_primitive n a a1 r0 := (impl_Point_primitive_body.eq_1 impl_Point_length n a a1 r0).trans (impl_Point_primitive.eq_1 n a a1 r0).symm
theorem impl_Point_primitive_rn {α : Type} (F : Nat → Int → Int → (Int → Int → Option α) → Option α) (n : Nat) (a : Int) (a1 : Int) (κ : Res → Option α) : impl_Point_primitive_runG F n [.int a, .int a1] κ = F n a a1 (fun v1 v2 => κ ⟨[.agg [.int .i64 v1, .int .i64 v2]], []⟩) := rfl
theorem impl_Point_primitive_ev {α : Type} (n : Nat) (a : Int) (a1 : Int) (κ : Res → Option α) : evFn Try.prog (impl_Point_primitive_X n) Try.f243 (((buildDs impl_Point_primitive_sh [.int a, .int a1]).map Prod.fst).getD []) κ = impl_Point_primitive_run n [.int a, .int a1] κ := (impl_Point_primitive_gen impl_Point_length n a a1 κ).trans ((impl_Point_primitive_eq n a a1 (fun v1 v2 => κ ⟨[.agg [.int .i64 v1, .int .i64 v2]], []⟩)).trans ((impl_Point_primitive_run.eq_1 n [.int a, .int a1] κ).trans (impl_Point_primitive_rn impl_Point_primitive n a a1 κ)).symm)
theorem impl_Point_primitive_en (a : Int) (a1 : Int) : (entry 0 (((buildDs impl_Point_primitive_sh [.int a, .int a1]).map Prod.fst).getD [])).map (fun x => (x.1.length, x.2.lent)) = some (1, []) := by kernel_rfl
theorem impl_Point_primitive_good {α : Type} : ∀ n, GoodFn (α := α) Try.prog 243 (byShape impl_Point_primitive_sh (impl_Point_primitive_run n)) := by
  refine fn_good' Try.func243 (c := (Try.f243.body.getD .skip)) (by kernel_rfl) (by kernel_rfl) (by kernel_rfl) impl_Point_primitive_C impl_Point_primitive_M eqs impl_Point_primitive_lps (fun n => tabC_good (List.forall_mem_cons.2 ⟨(impl_Point_length_good n), (fun _ h => absurd h List.not_mem_nil)⟩)) eqs_ok impl_Point_primitive_Lt ?_ ?_ impl_Point_primitive_sh impl_Point_primitive_run ?_
  · exact (fun _ h => absurd h List.not_mem_nil)
  · exact (fun _ h => absurd h List.not_mem_nil)
  · intro n p κ r ds hd hr
    have hr0 := hr
    unfold impl_Point_primitive_run impl_Point_primitive_runG at hr
    split at hr
    · rw [← ds_of hd]
      exact ⟨en_of (impl_Point_primitive_en _ _) ⟨rfl, rfl⟩, (impl_Point_primitive_ev n _ _ κ).trans hr0⟩
    · cases hr

/-! loop.example/g01297/impl.floor -/
def impl_floor_sh : List SkD := [.int .i64, .int .i64]
def impl_floor_runG {α : Type} (F : Nat → Int → Int → (Int → Option α) → Option α) (n : Nat) (p : List P1) (κ : Res → Option α) : Option α := match p with
  | [.int a, .int b_] => F n a b_ (fun v1 => κ ⟨[.int .i64 v1], []⟩)
  | _ => none
def impl_floor_run {α : Type} (n : Nat) (p : List P1) (κ : Res → Option α) : Option α := impl_floor_runG impl_floor n p κ
def impl_floor_CG {α : Type}  (n : Nat) : FuncId → List D → (Res → Option α) → Option α := tabC []
def impl_floor_C {α : Type} (n : Nat) : FuncId → List D → (Res → Option α) → Option α := impl_floor_CG n
def impl_floor_M : FuncId → List Nat := tabM []
def impl_floor_lpsG {α : Type}  : List (LoopT α) := []
def impl_floor_lps {α : Type} : List (LoopT α) := impl_floor_lpsG
def impl_floor_XG {α : Type}   (n : Nat) : Ctx α := ⟨impl_floor_CG n, impl_floor_M, eqs, lpOf (impl_floor_lpsG) n⟩
def impl_floor_X {α : Type} (n : Nat) : Ctx α := impl_floor_XG n
def impl_floor_Lt (np : Nat) (lent : List (Bool × Nat × Blk)) : Prop := np = 2 ∧ lent = []
def impl_floor_body {α : Type}   (k : Nat) (a : Int) (b_ : Int) (r0 : Int → Option α) : Option α :=
  bif decide (b_ = 0) then
    none
  else
  bif decide (b_ = 0) then
    none
  else
  bif (!decide ((Int.tmod a b_) = 0)) then
    bif (!(decide (a < 0) == decide (b_ < 0))) then
      r0 (w64 ((w64 (Int.tdiv a b_)) - 1))
    else
      r0 (w64 (Int.tdiv a b_))
  else
    r0 (w64 (Int.tdiv a b_))
theorem impl_floor_gen {α : Type}   (n : Nat) (a : Int) (b_ : Int) (κ : Res → Option α) : evFn Try.prog (impl_floor_XG n) Try.f156 (((buildDs impl_floor_sh [.int a, .int b_]).map Prod.fst).getD []) κ = impl_floor_body n a b_ (fun v1 => κ ⟨[.int .i64 v1], []⟩) := by kernel_rfl
theorem impl_floor_eq {α : Type} (n : Nat) (a : Int) (b_ : Int) (r0 : Int → Option α) : impl_floor_body n a b_ r0 = impl_floor n a b_ r0 := (impl_floor_body.eq_1 n a b_ r0).trans (impl_floor.eq_1 n a b_ r0).symm
theorem impl_floor_rn {α : Type} (F : Nat → Int → Int → (Int → Option α) → Option α) (n : Nat) (a : Int) (b_ : Int) (κ : Res → Option α) : impl_floor_runG F n [.int a, .int b_] κ = F n a b_ (fun v1 => κ ⟨[.int .i64 v1], []⟩) := rfl
theorem impl_floor_ev {α : Type} (n : Nat) (a : Int) (b_ : Int) (κ : Res → Option α) : evFn Try.prog (impl_floor_X n) Try.f156 (((buildDs impl_floor_sh [.int a, .int b_]).map Prod.fst).getD []) κ = impl_floor_run n [.int a, .int b_] κ := (impl_floor_gen n a b_ κ).trans ((impl_floor_eq n a b_ (fun v1 => κ ⟨[.int .i64 v1], []⟩)).trans ((impl_floor_run.eq_1 n [.int a, .int b_] κ).trans (impl_floor_rn impl_floor n a b_ κ)).symm)
theorem impl_floor_en (a : Int) (b_ : Int) : (entry 0 (((buildDs impl_floor_sh [.int a, .int b_]).map Prod.fst).getD [])).map (fun x => (x.1.length, x.2.lent)) = some (2, []) := by kernel_rfl
theorem impl_floor_good {α : Type} : ∀ n, GoodFn (α := α) Try.prog 156 (byShape impl_floor_sh (impl_floor_run n)) := by
  refine fn_good' Try.func156 (c := (Try.f156.body.getD .skip)) (by kernel_rfl) (by kernel_rfl) (by kernel_rfl) impl_floor_C impl_floor_M eqs impl_floor_lps (fun n => tabC_good (fun _ h => absurd h List.not_mem_nil)) eqs_ok impl_floor_Lt ?_ ?_ impl_floor_sh impl_floor_run ?_
  · exact (fun _ h => absurd h List.not_mem_nil)
  · exact (fun _ h => absurd h List.not_mem_nil)
  · intro n p κ r ds hd hr
    have hr0 := hr
    unfold impl_floor_run impl_floor_runG at hr
    split at hr
    · rw [← ds_of hd]
      exact ⟨en_of (impl_floor_en _ _) ⟨rfl, rfl⟩, (impl_floor_ev n _ _ κ).trans hr0⟩
    · cases hr

/-! loop.example/g01297/impl.mod -/
def impl_mod_sh : List SkD := [.int .i64, .int .i64]
def impl_mod_runG {α : Type} (F : Nat → Int → Int → (Int → Option α) → Option α) (n : Nat) (p : List P1) (κ : Res → Option α) : Option α := match p with
  | [.int a, .int b_] => F n a b_ (fun v1 => κ ⟨[.int .i64 v1], []⟩)
  | _ => none
def impl_mod_run {α : Type} (n : Nat) (p : List P1) (κ : Res → Option α) : Option α := impl_mod_runG impl_mod n p κ
def impl_mod_CG {α : Type} (F0 : Nat → Int → Int → (Int → Option α) → Option α) (n : Nat) : FuncId → List D → (Res → Option α) → Option α := tabC [(156, (byShape impl_floor_sh (impl_floor_runG F0 n)))]
def impl_mod_C {α : Type} (n : Nat) : FuncId → List D → (Res → Option α) → Option α := impl_mod_CG impl_floor n
def impl_mod_M : FuncId → List Nat := tabM []
def impl_mod_lpsG {α : Type}  : List (LoopT α) := []
def impl_mod_lps {α : Type} : List (LoopT α) := impl_mod_lpsG
def impl_mod_XG {α : Type} (F0 : Nat → Int → Int → (Int → Option α) → Option α)  (n : Nat) : Ctx α := ⟨impl_mod_CG F0 n, impl_mod_M, eqs, lpOf (impl_mod_lpsG) n⟩
def impl_mod_X {α : Type} (n : Nat) : Ctx α := impl_mod_XG impl_floor n
def impl_mod_Lt (np : Nat) (lent : List (Bool × Nat × Blk)) : Prop := np = 2 ∧ lent = []
def impl_mod_body {α : Type} (F0 : Nat → Int → Int → (Int → Option α) → Option α)  (k : Nat) (a : Int) (b_ : Int) (r0 : Int → Option α) : Option α :=
  F0 k a b_ fun v =>
  r0 (w64 (a - (w64 (b_ * v))))
theorem impl_mod_gen {α : Type} (F0 : Nat → Int → Int → (Int → Option α) → Option α)  (n : Nat) (a : Int) (b_ : Int) (κ : Res → Option α) : evFn Try.prog (impl_mod_XG F0 n) Try.f274 (((buildDs impl_mod_sh [.int a, .int b_]).map Prod.fst).getD []) κ = impl_mod_body F0 n a b_ (fun v1 => κ ⟨[.int .i64 v1], []⟩) := by kernel_rfl
theorem impl_mod_eq {α : Type} (n : Nat) (a : Int) (b_ : Int) (r0 : Int → Option α) : impl_mod_body impl_floor n a b_ r0 = impl_mod n a b_ r0 := (impl_mod_body.eq_1 impl_floor n a b_ r0).trans (impl_mod.eq_1 n a b_ r0).symm
theorem impl_mod_rn {α : Type} (F : Nat → Int → Int → (Int → Option α) → Option α) (n : Nat) (a : Int) (b_ : Int) (κ : Res → Option α) : impl_mod_runG F n [.int a, .int b_] κ = F n a b_ (fun v1 => κ ⟨[.int .i64 v1], []⟩) := rfl
theorem impl_mod_ev {α : Type} (n : Nat) (a : Int) (b_ : Int) (κ : Res → Option α) : evFn Try.prog (impl_mod_X n) Try.f274 (((buildDs impl_mod_sh [.int a, .int b_]).map Prod.fst).getD []) κ = impl_mod_run n [.int a, .int b_] κ := (impl_mod_gen impl_floor n a b_ κ).trans ((impl_mod_eq n a b_ (fun v1 => κ ⟨[.int .i64 v1], []⟩)).trans ((impl_mod_run.eq_1 n [.int a, .int b_] κ).trans (impl_mod_rn impl_mod n a b_ κ)).symm)
theorem impl_mod_en (a : Int) (b_ : Int) : (entry 0 (((buildDs impl_mod_sh [.int a, .int b_]).map Prod.fst).getD [])).map (fun x => (x.1.length, x.2.lent)) = some (2, []) := by kernel_rfl
theorem impl_mod_good {α : Type} : ∀ n, GoodFn (α := α) Try.prog 274 (byShape impl_mod_sh (impl_mod_run n)) := by
  refine fn_good' Try.func274 (c := (Try.f274.body.getD .skip)) (by kernel_rfl) (by kernel_rfl) (by kernel_rfl) impl_mod_C impl_mod_M eqs impl_mod_lps (fun n => tabC_good (List.forall_mem_cons.2 ⟨(impl_floor_good n), (fun _ h => absurd h List.not_mem_nil)⟩)) eqs_ok impl_mod_Lt ?_ ?_ impl_mod_sh impl_mod_run ?_
  · exact (fun _ h => absurd h List.not_mem_nil)
  · exact (fun _ h => absurd h List.not_mem_nil)
  · intro n p κ r ds hd hr
    have hr0 := hr
    unfold impl_mod_run impl_mod_runG at hr
    split at hr
    · rw [← ds_of hd]
      exact ⟨en_of (impl_mod_en _ _) ⟨rfl, rfl⟩, (impl_mod_ev n _ _ κ).trans hr0⟩
    · cases hr

/-! loop.example/g01297/impl.bezout -/
def impl_bezout_sh : List SkD := [.int .i64, .int .i64]
def impl_bezout_runG {α : Type} (F : Nat → Int → Int → (Int → Option α) → Option α) (n : Nat) (p : List P1) (κ : Res → Option α) : Option α := match p with
  | [.int a, .int m] => F n a m (fun v1 => κ ⟨[.int .i64 v1], []⟩)
  | _ => none
def impl_bezout_run {α : Type} (n : Nat) (p : List P1) (κ : Res → Option α) : Option α := impl_bezout_runG impl_bezout n p κ
def impl_bezout_CG {α : Type} (F0 : Nat → Int → Int → (Int → Option α) → Option α) (n : Nat) : FuncId → List D → (Res → Option α) → Option α := tabC [(274, (byShape impl_mod_sh (impl_mod_runG F0 n)))]
def impl_bezout_C {α : Type} (n : Nat) : FuncId → List D → (Res → Option α) → Option α := impl_bezout_CG impl_mod n
def impl_bezout_M : FuncId → List Nat := tabM []
def impl_bezout_t2 : Tpl := ⟨[.any, .int .i64, .any, .any, .any, .int .i64, .int .i64, .int .i64, .int .i64, .any, .any, .any, .any, .any, .any, .any, .any, .any, .any, .any, .any, .any, .any, .any, .any, .any, .any, .any, .any, .any, .any, .any, .any, .any], [], []⟩
def impl_bezout_uG2 {α : Type} (G : Nat → Int → Int → Int → Int → Int → (Int → Int → Int → Int → Int → Option α) → (Int → Option α) → Option α) (n : Nat) (p : List P1) (brk : Nat → List P1 → Option α) (ret : Res → Option α) : Option α := match p with
  | [.int m1, .int r_, .int s, .int x, .int y] => G n m1 r_ s x y (fun m1 r_ s x y => brk 0 [.int m1, .int r_, .int s, .int x, .int y]) (fun v1 => ret ⟨[.int .i64 v1], []⟩)
  | _ => none
def impl_bezout_u2 {α : Type} (n : Nat) (p : List P1) (brk : Nat → List P1 → Option α) (ret : Res → Option α) : Option α := impl_bezout_uG2 impl_bezout_l2 n p brk ret
def impl_bezout_lpsG {α : Type} (G2 : Nat → Int → Int → Int → Int → Int → (Int → Int → Int → Int → Int → Option α) → (Int → Option α) → Option α) : List (LoopT α) := [⟨2, impl_bezout_t2, impl_bezout_uG2 G2⟩]
def impl_bezout_lps {α : Type} : List (LoopT α) := impl_bezout_lpsG impl_bezout_l2
def impl_bezout_XG {α : Type} (F0 : Nat → Int → Int → (Int → Option α) → Option α) (G2 : Nat → Int → Int → Int → Int → Int → (Int → Int → Int → Int → Int → Option α) → (Int → Option α) → Option α) (n : Nat) : Ctx α := ⟨impl_bezout_CG F0 n, impl_bezout_M, eqs, lpOf (impl_bezout_lpsG G2) n⟩
def impl_bezout_X {α : Type} (n : Nat) : Ctx α := impl_bezout_XG impl_mod impl_bezout_l2 n
def impl_bezout_Lt (np : Nat) (lent : List (Bool × Nat × Blk)) : Prop := np = 2 ∧ lent = []
def impl_bezout_lb2 {α : Type} (F0 : Nat → Int → Int → (Int → Option α) → Option α) (G2 : Nat → Int → Int → Int → Int → Int → (Int → Int → Int → Int → Int → Option α) → (Int → Option α) → Option α) (k : Nat) (m1 : Int) (r_ : Int) (s : Int) (x : Int) (y : Int) (b0 : Int → Int → Int → Int → Int → Option α) (r0 : Int → Option α) : Option α :=
  bif (!decide (s = 0)) then
    bif decide (s = 0) then
      none
    else
      G2 k m1 s (w64 (r_ - (w64 ((w64 (Int.tdiv r_ s)) * s)))) y (w64 (x - (w64 ((w64 (Int.tdiv r_ s)) * y)))) b0 r0
  else
    b0 m1 r_ s x y
theorem impl_bezout_l2_gen {α : Type} (F0 : Nat → Int → Int → (Int → Option α) → Option α) (G2 : Nat → Int → Int → Int → Int → Int → (Int → Int → Int → Int → Int → Option α) → (Int → Option α) → Option α) (n : Nat) (m1 : Int) (r_ : Int) (s : Int) (x : Int) (y : Int) (brk : Nat → List P1 → Option α) (ret : Res → Option α) : ev ((impl_bezout_XG F0 G2 n).env Try.prog Try.f308 2 []) (findLoop (loopsIn (Try.f308.body.getD .skip)) 2) ((impl_bezout_t2.build [.int m1, .int r_, .int s, .int x, .int y]).getD ⟨[], []⟩) (roundK (2 * 64) impl_bezout_t2 (fun q => impl_bezout_uG2 G2 n q brk ret) brk ret) = impl_bezout_lb2 F0 G2 n m1 r_ s x y (fun m1 r_ s x y => brk 0 [.int m1, .int r_, .int s, .int x, .int y]) (fun v1 => ret ⟨[.int .i64 v1], []⟩) := by kernel_rfl
theorem impl_bezout_l2_eq {α : Type} (k : Nat) (m1 : Int) (r_ : Int) (s : Int) (x : Int) (y : Int) (b0 : Int → Int → Int → Int → Int → Option α) (r0 : Int → Option α) : impl_bezout_lb2 impl_mod impl_bezout_l2 k m1 r_ s x y b0 r0 = impl_bezout_l2 (k + 1) m1 r_ s x y b0 r0 := (impl_bezout_lb2.eq_1 impl_mod impl_bezout_l2 k m1 r_ s x y b0 r0).trans (show impl_bezout_l2 (k + 1) m1 r_ s x y b0 r0 = _ from impl_bezout_l2.eq_2 _ _ _ _ _ _ _ _ ).symm
theorem impl_bezout_l2_rn {α : Type} (G : Nat → Int → Int → Int → Int → Int → (Int → Int → Int → Int → Int → Option α) → (Int → Option α) → Option α) (n : Nat) (m1 : Int) (r_ : Int) (s : Int) (x : Int) (y : Int) (brk : Nat → List P1 → Option α) (ret : Res → Option α) : impl_bezout_uG2 G n [.int m1, .int r_, .int s, .int x, .int y] brk ret = G n m1 r_ s x y (fun m1 r_ s x y => brk 0 [.int m1, .int r_, .int s, .int x, .int y]) (fun v1 => ret ⟨[.int .i64 v1], []⟩) := rfl
theorem impl_bezout_l2_ev {α : Type} (n : Nat) (m1 : Int) (r_ : Int) (s : Int) (x : Int) (y : Int) (brk : Nat → List P1 → Option α) (ret : Res → Option α) : ev ((impl_bezout_X n).env Try.prog Try.f308 2 []) (findLoop (loopsIn (Try.f308.body.getD .skip)) 2) ((impl_bezout_t2.build [.int m1, .int r_, .int s, .int x, .int y]).getD ⟨[], []⟩) (roundK (2 * 64) impl_bezout_t2 (fun q => impl_bezout_u2 n q brk ret) brk ret) = impl_bezout_u2 (n + 1) [.int m1, .int r_, .int s, .int x, .int y] brk ret := (impl_bezout_l2_gen impl_mod impl_bezout_l2 n m1 r_ s x y brk ret).trans ((impl_bezout_l2_eq n m1 r_ s x y (fun m1 r_ s x y => brk 0 [.int m1, .int r_, .int s, .int x, .int y]) (fun v1 => ret ⟨[.int .i64 v1], []⟩)).trans ((impl_bezout_u2.eq_1 (n + 1) [.int m1, .int r_, .int s, .int x, .int y] brk ret).trans (impl_bezout_l2_rn impl_bezout_l2 (n + 1) m1 r_ s x y brk ret)).symm)
def impl_bezout_body {α : Type} (F0 : Nat → Int → Int → (Int → Option α) → Option α) (G2 : Nat → Int → Int → Int → Int → Int → (Int → Int → Int → Int → Int → Option α) → (Int → Option α) → Option α) (k : Nat) (a : Int) (m : Int) (r0 : Int → Option α) : Option α :=
  F0 k a m fun v =>
  G2 k m v m 1 0
    (fun m2 r_1 s1 x1 y1 =>
      F0 k x1 m2 fun v1 =>
      r0 v1)
    r0
theorem impl_bezout_gen {α : Type} (F0 : Nat → Int → Int → (Int → Option α) → Option α) (G2 : Nat → Int → Int → Int → Int → Int → (Int → Int → Int → Int → Int → Option α) → (Int → Option α) → Option α) (n : Nat) (a : Int) (m : Int) (κ : Res → Option α) : evFn Try.prog (impl_bezout_XG F0 G2 n) Try.f308 (((buildDs impl_bezout_sh [.int a, .int m]).map Prod.fst).getD []) κ = impl_bezout_body F0 G2 n a m (fun v1 => κ ⟨[.int .i64 v1], []⟩) := by kernel_rfl
theorem impl_bezout_eq {α : Type} (n : Nat) (a : Int) (m : Int) (r0 : Int → Option α) : impl_bezout_body impl_mod impl_bezout_l2 n a m r0 = impl_bezout n a m r0 := (impl_bezout_body.eq_1 impl_mod impl_bezout_l2 n a m r0).trans (impl_bezout.eq_1 n a m r0).symm
theorem impl_bezout_rn {α : Type} (F : Nat → Int → Int → (Int → Option α) → Option α) (n : Nat) (a : Int) (m : Int) (κ : Res → Option α) : impl_bezout_runG F n [.int a, .int m] κ = F n a m (fun v1 => κ ⟨[.int .i64 v1], []⟩) := rfl
theorem impl_bezout_ev {α : Type} (n : Nat) (a : Int) (m : Int) (κ : Res → Option α) : evFn Try.prog (impl_bezout_X n) Try.f308 (((buildDs impl_bezout_sh [.int a, .int m]).map Prod.fst).getD []) κ = impl_bezout_run n [.int a, .int m] κ := (impl_bezout_gen impl_mod impl_bezout_l2 n a m κ).trans ((impl_bezout_eq n a m (fun v1 => κ ⟨[.int .i64 v1], []⟩)).trans ((impl_bezout_run.eq_1 n [.int a, .int m] κ).trans (impl_bezout_rn impl_bezout n a m κ)).symm)
theorem impl_bezout_en (a : Int) (m : Int) : (entry 0 (((buildDs impl_bezout_sh [.int a, .int m]).map Prod.fst).getD [])).map (fun x => (x.1.length, x.2.lent)) = some (2, []) := by kernel_rfl
theorem impl_bezout_good {α : Type} : ∀ n, GoodFn (α := α) Try.prog 308 (byShape impl_bezout_sh (impl_bezout_run n)) := by
  refine fn_good' Try.func308 (c := (Try.f308.body.getD .skip)) (by kernel_rfl) (by kernel_rfl) (by kernel_rfl) impl_bezout_C impl_bezout_M eqs impl_bezout_lps (fun n => tabC_good (List.forall_mem_cons.2 ⟨(impl_mod_good n), (fun _ h => absurd h List.not_mem_nil)⟩)) eqs_ok impl_bezout_Lt ?_ ?_ impl_bezout_sh impl_bezout_run ?_
  · refine List.forall_mem_cons.2 ⟨?_, (fun _ h => absurd h List.not_mem_nil)⟩
    · intro p brk ret; show impl_bezout_u2 0 p brk ret = none; unfold impl_bezout_u2 impl_bezout_uG2; split <;> rfl
  · refine List.forall_mem_cons.2 ⟨?_, (fun _ h => absurd h List.not_mem_nil)⟩
    · intro np lent hL n p brk ret st r hb hr
      obtain ⟨rfl, rfl⟩ := hL
      rw [← tpl_of hb]
      change impl_bezout_u2 (n + 1) p brk ret = some r at hr
      have hr0 := hr
      unfold impl_bezout_u2 impl_bezout_uG2 at hr
      split at hr
      · exact (impl_bezout_l2_ev n _ _ _ _ _ brk ret).trans hr0
      · cases hr
  · intro n p κ r ds hd hr
    have hr0 := hr
    unfold impl_bezout_run impl_bezout_runG at hr
    split at hr
    · rw [← ds_of hd]
      exact ⟨en_of (impl_bezout_en _ _) ⟨rfl, rfl⟩, (impl_bezout_ev n _ _ κ).trans hr0⟩
    · cases hr

/-! (loop.example/g01297/impl.Point).mate -/
def impl_Point_mate_sh : List SkD := [.agg [.int .i64, .int .i64]]
def impl_Point_mate_runG {α : Type} (F : Nat → Int → Int → (Int → Int → Option α) → Option α) (n : Nat) (p : List P1) (κ : Res → Option α) : Option α := match p with
  | [.int a, .int a1] => F n a a1 (fun v1 v2 => κ ⟨[.agg [.int .i64 v1, .int .i64 v2]], []⟩)
  | _ => none
def impl_Point_mate_run {α : Type} (n : Nat) (p : List P1) (κ : Res → Option α) : Option α := impl_Point_mate_runG impl_Point_mate n p κ
def impl_Point_mate_CG {α : Type} (F0 : Nat → Int → (Int → Option α) → Option α) (F1 : Nat → Int → Int → (Int → Option α) → Option α) (F2 : Nat → Int → Int → (Int → Option α) → Option α) (n : Nat) : FuncId → List D → (Res → Option α) → Option α := tabC [(266, (byShape impl_size_sh (impl_size_runG F0 n))), (308, (byShape impl_bezout_sh (impl_bezout_runG F1 n))), (274, (byShape impl_mod_sh (impl_mod_runG F2 n)))]
def impl_Point_mate_C {α : Type} (n : Nat) : FuncId → List D → (Res → Option α) → Option α := impl_Point_mate_CG impl_size impl_bezout impl_mod n
def impl_Point_mate_M : FuncId → List Nat := tabM []
def impl_Point_mate_lpsG {α : Type}  : List (LoopT α) := []
def impl_Point_mate_lps {α : Type} : List (LoopT α) := impl_Point_mate_lpsG
def impl_Point_mate_XG {α : Type} (F0 : Nat → Int → (Int → Option α) → Option α) (F1 : Nat → Int → Int → (Int → Option α) → Option α) (F2 : Nat → Int → Int → (Int → Option α) → Option α)  (n : Nat) : Ctx α := ⟨impl_Point_mate_CG F0 F1 F2 n, impl_Point_mate_M, eqs, lpOf (impl_Point_mate_lpsG) n⟩
def impl_Point_mate_X {α : Type} (n : Nat) : Ctx α := impl_Point_mate_XG impl_size impl_bezout impl_mod n
def impl_Point_mate_Lt (np : Nat) (lent : List (Bool × Nat × Blk)) : Prop := np = 1 ∧ lent = []
def impl_Point_mate_body {α : Type} (F0 : Nat → Int → (Int → Option α) → Option α) (F1 : Nat → Int → Int → (Int → Option α) → Option α) (F2 : Nat → Int → Int → (Int → Option α) → Option α)  (k : Nat) (a : Int) (a1 : Int) (r0 : Int → Int → Option α) : Option α :=
  bif decide (a = 0) then
    r0 (w64 (0 - a1)) 0
  else
    F0 k a fun v =>
    F1 k a1 v fun v1 =>
    F0 k a fun v2 =>
    F2 k (w64 (0 - v1)) v2 fun v3 =>
    bif decide (a = 0) then
      none
    else
      r0 v3 (w64 (Int.tdiv (w64 (1 + (w64 (a1 * v3)))) a))
theorem impl_Point_mate_gen {α : Type} (F0 : Nat → Int → (Int → Option α) → Option α) (F1 : Nat → Int → Int → (Int → Option α) → Option α) (F2 : Nat → Int → Int → (Int → Option α) → Option α)  (n : Nat) (a : Int) (a1 : Int) (κ : Res → Option α) : evFn Try.prog (impl_Point_mate_XG F0 F1 F2 n) Try.f239 (((buildDs impl_Point_mate_sh [.int a, .int a1]).map Prod.fst).getD []) κ = impl_Point_mate_body F0 F1 F2 n a a1 (fun v1 v2 => κ ⟨[.agg [.int .i64 v1, .int .i64 v2]], []⟩) := by kernel_rfl
theorem impl_Point_mate_eq {α : Type} (n : Nat) (a : Int) (a1 : Int) (r0 : Int → Int → Option α) : impl_Point_mate_body impl_size impl_bezout impl_mod n a a1 r0 = impl_Point_mate n a a1 r0 := (impl_Point_mate_body.eq_1 impl_size impl_bezout impl_mod n a a1 r0).trans (impl_Point_mate.eq_1 n a a1 r0).symm
theorem impl_Point_mate_rn {α : Type} (F : Nat → Int → Int → (Int → Int → Option α) → Option α) (n : Nat) (a : Int) (a1 : Int) (κ : Res → Option α) : impl_Point_mate_runG F n [.int a, .int a1] κ = F n a a1 (fun v1 v2 => κ ⟨[.agg [.int .i64 v1, .int .i64 v2]], []⟩) := rfl
theorem impl_Point_mate_ev {α : Type} (n : Nat) (a : Int) (a1 : Int) (κ : Res → Option α) : evFn Try.prog (impl_Point_mate_X n) Try.f239 (((buildDs impl_Point_mate_sh [.int a, .int a1]).map Prod.fst).getD []) κ = impl_Point_mate_run n [.int a, .int a1] κ := (impl_Point_mate_gen impl_size impl_bezout impl_mod n a a1 κ).trans ((impl_Point_mate_eq n a a1 (fun v1 v2 => κ ⟨[.agg [.int .i64 v1, .int .i64 v2]], []⟩)).trans ((impl_Point_mate_run.eq_1 n [.int a, .int a1] κ).trans (impl_Point_mate_rn impl_Point_mate n a a1 κ)).symm)
theorem impl_Point_mate_en (a : Int) (a1 : Int) : (entry 0 (((buildDs impl_Point_mate_sh [.int a, .int a1]).map Prod.fst).getD [])).map (fun x => (x.1.length, x.2.lent)) = some (1, []) := by kernel_rfl
theorem impl_Point_mate_good {α : Type} : ∀ n, GoodFn (α := α) Try.prog 239 (byShape impl_Point_mate_sh (impl_Point_mate_run n)) := by
  refine fn_good' Try.func239 (c := (Try.f239.body.getD .skip)) (by kernel_rfl) (by kernel_rfl) (by kernel_rfl) impl_Point_mate_C impl_Point_mate_M eqs impl_Point_mate_lps (fun n => tabC_good (List.forall_mem_cons.2 ⟨(impl_size_good n), (List.forall_mem_cons.2 ⟨(impl_bezout_good n), (List.forall_mem_cons.2 ⟨(impl_mod_good n), (fun _ h => absurd h List.not_mem_nil)⟩)⟩)⟩)) eqs_ok impl_Point_mate_Lt ?_ ?_ impl_Point_mate_sh impl_Point_mate_run ?_
  · exact (fun _ h => absurd h List.not_mem_nil)
  · exact (fun _ h => absurd h List.not_mem_nil)
  · intro n p κ r ds hd hr
    have hr0 := hr
    unfold impl_Point_mate_run impl_Point_mate_runG at hr
    split at hr
    · rw [← ds_of hd]
      exact ⟨en_of (impl_Point_mate_en _ _) ⟨rfl, rfl⟩, (impl_Point_mate_ev n _ _ κ).trans hr0⟩
    · cases hr

/-! (loop.example/g01297/impl.Triangle).shape -/
def impl_Triangle_shape_sh : List SkD := [.agg [.int .i64, .int .i64, .int .i64, .int .i64, .int .i64, .int .i64], .int .i64, .int .i64]
def impl_Triangle_shape_runG {α : Type} (F : Nat → Int → Int → Int → Int → Int → Int → Int → Int → (Int → Int → Int → Option α) → Option α) (n : Nat) (p : List P1) (κ : Res → Option α) : Option α := match p with
  | [.int t, .int t1, .int t2, .int t3, .int t4, .int t5, .int i, .int j] => F n t t1 t2 t3 t4 t5 i j (fun v1 v2 v3 => κ ⟨[.agg [.int .i64 v1, .int .i64 v2, .int .i64 v3]], []⟩)
  | _ => none
def impl_Triangle_shape_run {α : Type} (n : Nat) (p : List P1) (κ : Res → Option α) : Option α := impl_Triangle_shape_runG impl_Triangle_shape n p κ
def impl_Triangle_shape_CG {α : Type} (F0 : Nat → Int → Int → Int → Int → Int → Int → Int → Int → (Int → Int → Option α) → Option α) (F1 : Nat → Int → Int → (Int → Option α) → Option α) (F2 : Nat → Int → Int → Int → Int → Int → Int → (Int → Option α) → Option α) (F3 : Nat → Int → Int → (Int → Int → Option α) → Option α) (F4 : Nat → Int → Int → (Int → Int → Option α) → Option α) (F5 : Nat → Int → Int → Int → Int → (Int → Option α) → Option α) (F6 : Nat → Int → Int → (Int → Option α) → Option α) (n : Nat) : FuncId → List D → (Res → Option α) → Option α := tabC [(295, (byShape impl_Triangle_side_sh (impl_Triangle_side_runG F0 n))), (234, (byShape impl_Point_length_sh (impl_Point_length_runG F1 n))), (208, (byShape impl_Triangle_area_sh (impl_Triangle_area_runG F2 n))), (243, (byShape impl_Point_primitive_sh (impl_Point_primitive_runG F3 n))), (239, (byShape impl_Point_mate_sh (impl_Point_mate_runG F4 n))), (167, (byShape impl_det_sh (impl_det_runG F5 n))), (274, (byShape impl_mod_sh (impl_mod_runG F6 n)))]
def impl_Triangle_shape_C {α : Type} (n : Nat) : FuncId → List D → (Res → Option α) → Option α := impl_Triangle_shape_CG impl_Triangle_side impl_Point_length impl_Triangle_area impl_Point_primitive impl_Point_mate impl_det impl_mod n
def impl_Triangle_shape_M : FuncId → List Nat := tabM []
def impl_Triangle_shape_lpsG {α : Type}  : List (LoopT α) := []
def impl_Triangle_shape_lps {α : Type} : List (LoopT α) := impl_Triangle_shape_lpsG
def impl_Triangle_shape_XG {α : Type} (F0 : Nat → Int → Int → Int → Int → Int → Int → Int → Int → (Int → Int → Option α) → Option α) (F1 : Nat → Int → Int → (Int → Option α) → Option α) (F2 : Nat → Int → Int → Int → Int → Int → Int → (Int → Option α) → Option α) (F3 : Nat → Int → Int → (Int → Int → Option α) → Option α) (F4 : Nat → Int → Int → (Int → Int → Option α) → Option α) (F5 : Nat → Int → Int → Int → Int → (Int → Option α) → Option α) (F6 : Nat → Int → Int → (Int → Option α) → Option α)  (n : Nat) : Ctx α := ⟨impl_Triangle_shape_CG F0 F1 F2 F3 F4 F5 F6 n, impl_Triangle_shape_M, eqs, lpOf (impl_Triangle_shape_lpsG) n⟩
def impl_Triangle_shape_X {α : Type} (n : Nat) : Ctx α := impl_Triangle_shape_XG impl_Triangle_side impl_Point_length impl_Triangle_area impl_Point_primitive impl_Point_mate impl_det impl_mod n
def impl_Triangle_shape_Lt (np : Nat) (lent : List (Bool × Nat × Blk)) : Prop := np = 3 ∧ lent = []
def impl_Triangle_shape_body {α : Type} (F0 : Nat → Int → Int → Int → Int → Int → Int → Int → Int → (Int → Int → Option α) → Option α) (F1 : Nat → Int → Int → (Int → Option α) → Option α) (F2 : Nat → Int → Int → Int → Int → Int → Int → (Int → Option α) → Option α) (F3 : Nat → Int → Int → (Int → Int → Option α) → Option α) (F4 : Nat → Int → Int → (Int → Int → Option α) → Option α) (F5 : Nat → Int → Int → Int → Int → (Int → Option α) → Option α) (F6 : Nat → Int → Int → (Int → Option α) → Option α)  (k : Nat) (t : Int) (t1 : Int) (t2 : Int) (t3 : Int) (t4 : Int) (t5 : Int) (i : Int) (j : Int) (r0 : Int → Int → Int → Option α) : Option α :=
  F0 k t t1 t2 t3 t4 t5 i j fun v v1 =>
  F0 k t t1 t2 t3 t4 t5 i (w64 ((w64 (3 - i)) - j)) fun v2 v3 =>
  F1 k v v1 fun v4 =>
  F2 k t t1 t2 t3 t4 t5 fun v5 =>
  bif decide (v4 = 0) then
    none
  else
    F3 k v v1 fun v6 v7 =>
    F4 k v6 v7 fun v8 v9 =>
    F5 k v2 v3 v8 v9 fun v10 =>
    F6 k v10 (w64 (Int.tdiv v5 v4)) fun v11 =>
    r0 v4 v11 (w64 (Int.tdiv v5 v4))
theorem impl_Triangle_shape_gen {α : Type} (F0 : Nat → Int → Int → Int → Int → Int → Int → Int → Int → (Int → Int → Option α) → Option α) (F1 : Nat → Int → Int → (Int → Option α) → Option α) (F2 : Nat → Int → Int → Int → Int → Int → Int → (Int → Option α) → Option α) (F3 : Nat → Int → Int → (Int → Int → Option α) → Option α) (F4 : Nat → Int → Int → (Int → Int → Option α) → Option α) (F5 : Nat → Int → Int → Int → Int → (Int → Option α) → Option α) (F6 : Nat → Int → Int → (Int → Option α) → Option α)  (n : Nat) (t : Int) (t1 : Int) (t2 : Int) (t3 : Int) (t4 : Int) (t5 : Int) (i : Int) (j : Int) (κ : Res → Option α) : evFn Try.prog (impl_Triangle_shape_XG F0 F1 F2 F3 F4 F5 F6 n) Try.f264 (((buildDs impl_Triangle_shape_sh [.int t, .int t1, .int t2, .int t3, .int t4, .int t5, .int i, .int j]).map Prod.fst).getD []) κ = impl_Triangle_shape_body F0 F1 F2 F3 F4 F5 F6 n t t1 t2 t3 t4 t5 i j (fun v1 v2 v3 => κ ⟨[.agg [.int .i64 v1, .int .i64 v2, .int .i64 v3]], []⟩) := by kernel_rfl
theorem impl_Triangle_shape_eq {α : Type} (n : Nat) (t : Int) (t1 : Int) (t2 : Int) (t3 : Int) (t4 : Int) (t5 : Int) (i : Int) (j : Int) (r0 : Int → Int → Int → Option α) : impl_Triangle_shape_body impl_Triangle_side impl_Point_length impl_Triangle_area impl_Point_primitive impl_Point_mate impl_det impl_mod n t t1 t2 t3 t4 t5 i j r0 = impl_Triangle_shape n t t1 t2 t3 t4 t5 i j r0 := (impl_Triangle_shape_body.eq_1 impl_Triangle_side impl_Point_length impl_Triangle_area impl_Point_primitive impl_Point_mate impl_det impl_mod n t t1 t2 t3 t4 t5 i j r0).trans (impl_Triangle_shape.eq_1 n t t1 t2 t3 t4 t5 i j r0).symm
theorem impl_Triangle_shape_rn {α : Type} (F : Nat → Int → Int → Int → Int → Int → Int → Int → Int → (Int → Int → Int → Option α) → Option α) (n : Nat) (t : Int) (t1 : Int) (t2 : Int) (t3 : Int) (t4 : Int) (t5 : Int) (i : Int) (j : Int) (κ : Res → Option α) : impl_Triangle_shape_runG F n [.int t, .int t1, .int t2, .int t3, .int t4, .int t5, .int i, .int j] κ = F n t t1 t2 t3 t4 t5 i j (fun v1 v2 v3 => κ ⟨[.agg [.int .i64 v1, .int .i64 v2, .int .i64 v3]], []⟩) := rfl
theorem impl_Triangle_shape_ev {α : Type} (n : Nat) (t : Int) (t1 : Int) (t2 : Int) (t3 : Int) (t4 : Int) (t5 : Int) (i : Int) (j : Int) (κ : Res → Option α) : evFn Try.prog (impl_Triangle_shape_X n) Try.f264 (((buildDs impl_Triangle_shape_sh [.int t, .int t1, .int t2, .int t3, .int t4, .int t5, .int i, .int j]).map Prod.fst).getD []) κ = impl_Triangle_shape_run n [.int t, .int t1, .int t2, .int t3, .int t4, .int t5, .int i, .int j] κ := (impl_Triangle_shape_gen impl_Triangle_side impl_Point_length impl_Triangle_area impl_Point_primitive impl_Point_mate impl_det impl_mod n t t1 t2 t3 t4 t5 i j κ).trans ((impl_Triangle_shape_eq n t t1 t2 t3 t4 t5 i j (fun v1 v2 v3 => κ ⟨[.agg [.int .i64 v1, .int .i64 v2, .int .i64 v3]], []⟩)).trans ((impl_Triangle_shape_run.eq_1 n [.int t, .int t1, .int t2, .int t3, .int t4, .int t5, .int i, .int j] κ).trans (impl_Triangle_shape_rn impl_Triangle_shape n t t1 t2 t3 t4 t5 i j κ)).symm)
theorem impl_Triangle_shape_en (t : Int) (t1 : Int) (t2 : Int) (t3 : Int) (t4 : Int) (t5 : Int) (i : Int) (j : Int) : (entry 0 (((buildDs impl_Triangle_shape_sh [.int t, .int t1, .int t2, .int t3, .int t4, .int t5, .int i, .int j]).map Prod.fst).getD [])).map (fun x => (x.1.length, x.2.lent)) = some (3, []) := by kernel_rfl
theorem impl_Triangle_shape_good {α : Type} : ∀ n, GoodFn (α := α) Try.prog 264 (byShape impl_Triangle_shape_sh (impl_Triangle_shape_run n)) := by
  refine fn_good' Try.func264 (c := (Try.f264.body.getD .skip)) (by kernel_rfl) (by kernel_rfl) (by kernel_rfl) impl_Triangle_shape_C impl_Triangle_shape_M eqs impl_Triangle_shape_lps (fun n => tabC_good (List.forall_mem_cons.2 ⟨(impl_Triangle_side_good n), (List.forall_mem_cons.2 ⟨(impl_Point_length_good n), (List.forall_mem_cons.2 ⟨(impl_Triangle_area_good n), (List.forall_mem_cons.2 ⟨(impl_Point_primitive_good n), (List.forall_mem_cons.2 ⟨(impl_Point_mate_good n), (List.forall_mem_cons.2 ⟨(impl_det_good n), (List.forall_mem_cons.2 ⟨(impl_mod_good n), (fun _ h => absurd h List.not_mem_nil)⟩)⟩)⟩)⟩)⟩)⟩)⟩)) eqs_ok impl_Triangle_shape_Lt ?_ ?_ impl_Triangle_shape_sh impl_Triangle_shape_run ?_
  · exact (fun _ h => absurd h List.not_mem_nil)
  · exact (fun _ h => absurd h List.not_mem_nil)
  · intro n p κ r ds hd hr
    have hr0 := hr
    unfold impl_Triangle_shape_run impl_Triangle_shape_runG at hr
    split at hr
    · rw [← ds_of hd]
      exact ⟨en_of (impl_Triangle_shape_en _ _ _ _ _ _ _ _) ⟨rfl, rfl⟩, (impl_Triangle_shape_ev n _ _ _ _ _ _ _ _ κ).trans hr0⟩
    · cases hr

/-! cmp.isNaN[int64] -/
def cmp_isNaN_int64_sh : List SkD := [.int .i64]
def cmp_isNaN_int64_runG {α : Type} (F : Nat → Int → (Bool → Option α) → Option α) (n : Nat) (p : List P1) (κ : Res → Option α) : Option α := match p with
  | [.int x] => F n x (fun v1 => κ ⟨[.bool v1], []⟩)
  | _ => none
def cmp_isNaN_int64_run {α : Type} (n : Nat) (p : List P1) (κ : Res → Option α) : Option α := cmp_isNaN_int64_runG cmp_isNaN_int64 n p κ
def cmp_isNaN_int64_CG {α : Type}  (n : Nat) : FuncId → List D → (Res → Option α) → Option α := tabC []
def cmp_isNaN_int64_C {α : Type} (n : Nat) : FuncId → List D → (Res → Option α) → Option α := cmp_isNaN_int64_CG n
def cmp_isNaN_int64_M : FuncId → List Nat := tabM []
def cmp_isNaN_int64_lpsG {α : Type}  : List (LoopT α) := []
def cmp_isNaN_int64_lps {α : Type} : List (LoopT α) := cmp_isNaN_int64_lpsG
def cmp_isNaN_int64_XG {α : Type}   (n : Nat) : Ctx α := ⟨cmp_isNaN_int64_CG n, cmp_isNaN_int64_M, eqs, lpOf (cmp_isNaN_int64_lpsG) n⟩
def cmp_isNaN_int64_X {α : Type} (n : Nat) : Ctx α := cmp_isNaN_int64_XG n
def cmp_isNaN_int64_Lt (np : Nat) (lent : List (Bool × Nat × Blk)) : Prop := np = 1 ∧ lent = []
def cmp_isNaN_int64_body {α : Type}   (k : Nat) (x : Int) (r0 : Bool → Option α) : Option α :=
  r0 (!decide (x = x))
theorem cmp_isNaN_int64_gen {α : Type}   (n : Nat) (x : Int) (κ : Res → Option α) : evFn Try.prog (cmp_isNaN_int64_XG n) Try.f293 (((buildDs cmp_isNaN_int64_sh [.int x]).map Prod.fst).getD []) κ = cmp_isNaN_int64_body n x (fun v1 => κ ⟨[.bool v1], []⟩) := by kernel_rfl
theorem cmp_isNaN_int64_eq {α : Type} (n : Nat) (x : Int) (r0 : Bool → Option α) : cmp_isNaN_int64_body n x r0 = cmp_isNaN_int64 n x r0 := (cmp_isNaN_int64_body.eq_1 n x r0).trans (cmp_isNaN_int64.eq_1 n x r0).symm
theorem cmp_isNaN_int64_rn {α : Type} (F : Nat → Int → (Bool → Option α) → Option α) (n : Nat) (x : Int) (κ : Res → Option α) : cmp_isNaN_int64_runG F n [.int x] κ = F n x (fun v1 => κ ⟨[.bool v1], []⟩) := rfl
theorem cmp_isNaN_int64_ev {α : Type} (n : Nat) (x : Int) (κ : Res → Option α) : evFn Try.prog (cmp_isNaN_int64_X n) Try.f293 (((buildDs cmp_isNaN_int64_sh [.int x]).map Prod.fst).getD []) κ = cmp_isNaN_int64_run n [.int x] κ := (cmp_isNaN_int64_gen n x κ).trans ((cmp_isNaN_int64_eq n x (fun v1 => κ ⟨[.bool v1], []⟩)).trans ((cmp_isNaN_int64_run.eq_1 n [.int x] κ).trans (cmp_isNaN_int64_rn cmp_isNaN_int64 n x κ)).symm)
theorem cmp_isNaN_int64_en (x : Int) : (entry 0 (((buildDs cmp_isNaN_int64_sh [.int x]).map Prod.fst).getD [])).map (fun x => (x.1.length, x.2.lent)) = some (1, []) := by kernel_rfl
theorem cmp_isNaN_int64_good {α : Type} : ∀ n, GoodFn (α := α) Try.prog 293 (byShape cmp_isNaN_int64_sh (cmp_isNaN_int64_run n)) := by
  refine fn_good' Try.func293 (c := (Try.f293.body.getD .skip)) (by kernel_rfl) (by kernel_rfl) (by kernel_rfl) cmp_isNaN_int64_C cmp_isNaN_int64_M eqs cmp_isNaN_int64_lps (fun n => tabC_good (fun _ h => absurd h List.not_mem_nil)) eqs_ok cmp_isNaN_int64_Lt ?_ ?_ cmp_isNaN_int64_sh cmp_isNaN_int64_run ?_
  · exact (fun _ h => absurd h List.not_mem_nil)
  · exact (fun _ h => absurd h List.not_mem_nil)
  · intro n p κ r ds hd hr
    have hr0 := hr
    unfold cmp_isNaN_int64_run cmp_isNaN_int64_runG at hr
    split at hr
    · rw [← ds_of hd]
      exact ⟨en_of (cmp_isNaN_int64_en _) ⟨rfl, rfl⟩, (cmp_isNaN_int64_ev n _ κ).trans hr0⟩
    · cases hr

/-! cmp.Compare[int64] -/
def cmp_Compare_int64_sh : List SkD := [.int .i64, .int .i64]
def cmp_Compare_int64_runG {α : Type} (F : Nat → Int → Int → (Int → Option α) → Option α) (n : Nat) (p : List P1) (κ : Res → Option α) : Option α := match p with
  | [.int x, .int y] => F n x y (fun v1 => κ ⟨[.int .i64 v1], []⟩)
  | _ => none
def cmp_Compare_int64_run {α : Type} (n : Nat) (p : List P1) (κ : Res → Option α) : Option α := cmp_Compare_int64_runG cmp_Compare_int64 n p κ
def cmp_Compare_int64_CG {α : Type} (F0 : Nat → Int → (Bool → Option α) → Option α) (n : Nat) : FuncId → List D → (Res → Option α) → Option α := tabC [(293, (byShape cmp_isNaN_int64_sh (cmp_isNaN_int64_runG F0 n)))]
def cmp_Compare_int64_C {α : Type} (n : Nat) : FuncId → List D → (Res → Option α) → Option α := cmp_Compare_int64_CG cmp_isNaN_int64 n
def cmp_Compare_int64_M : FuncId → List Nat := tabM []
def cmp_Compare_int64_lpsG {α : Type}  : List (LoopT α) := []
def cmp_Compare_int64_lps {α : Type} : List (LoopT α) := cmp_Compare_int64_lpsG
def cmp_Compare_int64_XG {α : Type} (F0 : Nat → Int → (Bool → Option α) → Option α)  (n : Nat) : Ctx α := ⟨cmp_Compare_int64_CG F0 n, cmp_Compare_int64_M, eqs, lpOf (cmp_Compare_int64_lpsG) n⟩
def cmp_Compare_int64_X {α : Type} (n : Nat) : Ctx α := cmp_Compare_int64_XG cmp_isNaN_int64 n
def cmp_Compare_int64_Lt (np : Nat) (lent : List (Bool × Nat × Blk)) : Prop := np = 2 ∧ lent = []
def cmp_Compare_int64_body {α : Type} (F0 : Nat → Int → (Bool → Option α) → Option α)  (k : Nat) (x : Int) (y : Int) (r0 : Int → Option α) : Option α :=
  F0 k x fun v =>
  F0 k y fun v1 =>
  bif v then
    bif v1 then
      r0 0
    else
      r0 (-1)
  else
  bif v1 then
    r0 1
  else
  bif decide (x < y) then
    r0 (-1)
  else
  bif decide (y < x) then
    r0 1
  else
    r0 0
theorem cmp_Compare_int64_gen {α : Type} (F0 : Nat → Int → (Bool → Option α) → Option α)  (n : Nat) (x : Int) (y : Int) (κ : Res → Option α) : evFn Try.prog (cmp_Compare_int64_XG F0 n) Try.f198 (((buildDs cmp_Compare_int64_sh [.int x, .int y]).map Prod.fst).getD []) κ = cmp_Compare_int64_body F0 n x y (fun v1 => κ ⟨[.int .i64 v1], []⟩) := by kernel_rfl
theorem cmp_Compare_int64_eq {α : Type} (n : Nat) (x : Int) (y : Int) (r0 : Int → Option α) : cmp_Compare_int64_body cmp_isNaN_int64 n x y r0 = cmp_Compare_int64 n x y r0 := (cmp_Compare_int64_body.eq_1 cmp_isNaN_int64 n x y r0).trans (cmp_Compare_int64.eq_1 n x y r0).symm
theorem cmp_Compare_int64_rn {α : Type} (F : Nat → Int → Int → (Int → Option α) → Option α) (n : Nat) (x : Int) (y : Int) (κ : Res → Option α) : cmp_Compare_int64_runG F n [.int x, .int y] κ = F n x y (fun v1 => κ ⟨[.int .i64 v1], []⟩) := rfl
theorem cmp_Compare_int64_ev {α : Type} (n : Nat) (x : Int) (y : Int) (κ : Res → Option α) : evFn Try.prog (cmp_Compare_int64_X n) Try.f198 (((buildDs cmp_Compare_int64_sh [.int x, .int y]).map Prod.fst).getD []) κ = cmp_Compare_int64_run n [.int x, .int y] κ := (cmp_Compare_int64_gen cmp_isNaN_int64 n x y κ).trans ((cmp_Compare_int64_eq n x y (fun v1 => κ ⟨[.int .i64 v1], []⟩)).trans ((cmp_Compare_int64_run.eq_1 n [.int x, .int y] κ).trans (cmp_Compare_int64_rn cmp_Compare_int64 n x y κ)).symm)
theorem cmp_Compare_int64_en (x : Int) (y : Int) : (entry 0 (((buildDs cmp_Compare_int64_sh [.int x, .int y]).map Prod.fst).getD [])).map (fun x => (x.1.length, x.2.lent)) = some (2, []) := by kernel_rfl
theorem cmp_Compare_int64_good {α : Type} : ∀ n, GoodFn (α := α) Try.prog 198 (byShape cmp_Compare_int64_sh (cmp_Compare_int64_run n)) := by
  refine fn_good' Try.func198 (c := (Try.f198.body.getD .skip)) (by kernel_rfl) (by kernel_rfl) (by kernel_rfl) cmp_Compare_int64_C cmp_Compare_int64_M eqs cmp_Compare_int64_lps (fun n => tabC_good (List.forall_mem_cons.2 ⟨(cmp_isNaN_int64_good n), (fun _ h => absurd h List.not_mem_nil)⟩)) eqs_ok cmp_Compare_int64_Lt ?_ ?_ cmp_Compare_int64_sh cmp_Compare_int64_run ?_
  · exact (fun _ h => absurd h List.not_mem_nil)
  · exact (fun _ h => absurd h List.not_mem_nil)
  · intro n p κ r ds hd hr
    have hr0 := hr
    unfold cmp_Compare_int64_run cmp_Compare_int64_runG at hr
    split at hr
    · rw [← ds_of hd]
      exact ⟨en_of (cmp_Compare_int64_en _ _) ⟨rfl, rfl⟩, (cmp_Compare_int64_ev n _ _ κ).trans hr0⟩
    · cases hr

/-! cmp.Or[int] -/
def cmp_Or_int_sh : List SkD := [.sl 3 (.int .i64)]
def cmp_Or_int_runG {α : Type} (F : Nat → List Int → (Int → Option α) → Option α) (n : Nat) (p : List P1) (κ : Res → Option α) : Option α := match p with
  | [.rows (.int .i64) vals] => F n vals (fun v1 => κ ⟨[.int .i64 v1], []⟩)
  | _ => none
def cmp_Or_int_run {α : Type} (n : Nat) (p : List P1) (κ : Res → Option α) : Option α := cmp_Or_int_runG cmp_Or_int n p κ
def cmp_Or_int_CG {α : Type}  (n : Nat) : FuncId → List D → (Res → Option α) → Option α := tabC []
def cmp_Or_int_C {α : Type} (n : Nat) : FuncId → List D → (Res → Option α) → Option α := cmp_Or_int_CG n
def cmp_Or_int_M : FuncId → List Nat := tabM []
def cmp_Or_int_t3 : Tpl := ⟨[.any, .any, .any, .int .i64, .any, .any, .sl 0, .int .i64, .int .i64, .any, .any, .any, .any, .any, .any, .any, .any, .any], [(0, .rows 0 3 (.int .i64))], []⟩
def cmp_Or_int_uG3 {α : Type} (G : Nat → Int → Int → Int → List Int → (Int → Int → Int → List Int → Option α) → (Int → Option α) → Option α) (n : Nat) (p : List P1) (brk : Nat → List P1 → Option α) (ret : Res → Option α) : Option α := match p with
  | [.int zero, .int x, .int x1, .rows (.int .i64) x2] => G n zero x x1 x2 (fun zero x x1 x2 => brk 0 [.int zero, .int x, .int x1, .rows (.int .i64) x2]) (fun v1 => ret ⟨[.int .i64 v1], []⟩)
  | _ => none
def cmp_Or_int_u3 {α : Type} (n : Nat) (p : List P1) (brk : Nat → List P1 → Option α) (ret : Res → Option α) : Option α := cmp_Or_int_uG3 cmp_Or_int_l3 n p brk ret
def cmp_Or_int_lpsG {α : Type} (G3 : Nat → Int → Int → Int → List Int → (Int → Int → Int → List Int → Option α) → (Int → Option α) → Option α) : List (LoopT α) := [⟨3, cmp_Or_int_t3, cmp_Or_int_uG3 G3⟩]
def cmp_Or_int_lps {α : Type} : List (LoopT α) := cmp_Or_int_lpsG cmp_Or_int_l3
def cmp_Or_int_XG {α : Type}  (G3 : Nat → Int → Int → Int → List Int → (Int → Int → Int → List Int → Option α) → (Int → Option α) → Option α) (n : Nat) : Ctx α := ⟨cmp_Or_int_CG n, cmp_Or_int_M, eqs, lpOf (cmp_Or_int_lpsG G3) n⟩
def cmp_Or_int_X {α : Type} (n : Nat) : Ctx α := cmp_Or_int_XG cmp_Or_int_l3 n
def cmp_Or_int_Lt (np : Nat) (lent : List (Bool × Nat × Blk)) : Prop := np = 1 ∧ lent = []
def cmp_Or_int_lb3 {α : Type}  (G3 : Nat → Int → Int → Int → List Int → (Int → Int → Int → List Int → Option α) → (Int → Option α) → Option α) (k : Nat) (zero : Int) (x : Int) (x1 : Int) (x2 : List Int) (b0 : Int → Int → Int → List Int → Option α) (r0 : Int → Option α) : Option α :=
  bif decide (x1 < x) then
    bif (decide (0 ≤ x1) && decide (x1 < (((List.length x2) : Nat) : Int))) then
      (x2[x1.toNat]?).bind fun e_ =>
      bif (!decide (e_ = zero)) then
        r0 e_
      else
        G3 k zero x (w64 (x1 + 1)) x2 b0 r0
    else
      none
  else
    b0 zero x x1 x2
theorem cmp_Or_int_l3_gen {α : Type}  (G3 : Nat → Int → Int → Int → List Int → (Int → Int → Int → List Int → Option α) → (Int → Option α) → Option α) (n : Nat) (zero : Int) (x : Int) (x1 : Int) (x2 : List Int) (brk : Nat → List P1 → Option α) (ret : Res → Option α) : ev ((cmp_Or_int_XG G3 n).env Try.prog Try.f312 1 []) (findLoop (loopsIn (Try.f312.body.getD .skip)) 3) ((cmp_Or_int_t3.build [.int zero, .int x, .int x1, .rows (.int .i64) x2]).getD ⟨[], []⟩) (roundK (1 * 64) cmp_Or_int_t3 (fun q => cmp_Or_int_uG3 G3 n q brk ret) brk ret) = cmp_Or_int_lb3 G3 n zero x x1 x2 (fun zero x x1 x2 => brk 0 [.int zero, .int x, .int x1, .rows (.int .i64) x2]) (fun v1 => ret ⟨[.int .i64 v1], []⟩) := by kernel_rfl
theorem cmp_Or_int_l3_eq {α : Type} (k : Nat) (zero : Int) (x : Int) (x1 : Int) (x2 : List Int) (b0 : Int → Int → Int → List Int → Option α) (r0 : Int → Option α) : cmp_Or_int_lb3 cmp_Or_int_l3 k zero x x1 x2 b0 r0 = cmp_Or_int_l3 (k + 1) zero x x1 x2 b0 r0 := (cmp_Or_int_lb3.eq_1 cmp_Or_int_l3 k zero x x1 x2 b0 r0).trans (show cmp_Or_int_l3 (k + 1) zero x x1 x2 b0 r0 = _ from cmp_Or_int_l3.eq_2 _ _ _ _ _ _ _ ).symm
theorem cmp_Or_int_l3_rn {α : Type} (G : Nat → Int → Int → Int → List Int → (Int → Int → Int → List Int → Option α) → (Int → Option α) → Option α) (n : Nat) (zero : Int) (x : Int) (x1 : Int) (x2 : List Int) (brk : Nat → List P1 → Option α) (ret : Res → Option α) : cmp_Or_int_uG3 G n [.int zero, .int x, .int x1, .rows (.int .i64) x2] brk ret = G n zero x x1 x2 (fun zero x x1 x2 => brk 0 [.int zero, .int x, .int x1, .rows (.int .i64) x2]) (fun v1 => ret ⟨[.int .i64 v1], []⟩) := rfl
theorem cmp_Or_int_l3_ev {α : Type} (n : Nat) (zero : Int) (x : Int) (x1 : Int) (x2 : List Int) (brk : Nat → List P1 → Option α) (ret : Res → Option α) : ev ((cmp_Or_int_X n).env Try.prog Try.f312 1 []) (findLoop (loopsIn (Try.f312.body.getD .skip)) 3) ((cmp_Or_int_t3.build [.int zero, .int x, .int x1, .rows (.int .i64) x2]).getD ⟨[], []⟩) (roundK (1 * 64) cmp_Or_int_t3 (fun q => cmp_Or_int_u3 n q brk ret) brk ret) = cmp_Or_int_u3 (n + 1) [.int zero, .int x, .int x1, .rows (.int .i64) x2] brk ret := (cmp_Or_int_l3_gen cmp_Or_int_l3 n zero x x1 x2 brk ret).trans ((cmp_Or_int_l3_eq n zero x x1 x2 (fun zero x x1 x2 => brk 0 [.int zero, .int x, .int x1, .rows (.int .i64) x2]) (fun v1 => ret ⟨[.int .i64 v1], []⟩)).trans ((cmp_Or_int_u3.eq_1 (n + 1) [.int zero, .int x, .int x1, .rows (.int .i64) x2] brk ret).trans (cmp_Or_int_l3_rn cmp_Or_int_l3 (n + 1) zero x x1 x2 brk ret)).symm)
def cmp_Or_int_body {α : Type}  (G3 : Nat → Int → Int → Int → List Int → (Int → Int → Int → List Int → Option α) → (Int → Option α) → Option α) (k : Nat) (vals : List Int) (r0 : Int → Option α) : Option α :=
  G3 k 0 (((List.length vals) : Nat) : Int) 0 vals
    (fun zero1 x3 x4 x5 =>
      r0 zero1)
    r0
theorem cmp_Or_int_gen {α : Type}  (G3 : Nat → Int → Int → Int → List Int → (Int → Int → Int → List Int → Option α) → (Int → Option α) → Option α) (n : Nat) (vals : List Int) (κ : Res → Option α) : evFn Try.prog (cmp_Or_int_XG G3 n) Try.f312 (((buildDs cmp_Or_int_sh [.rows (.int .i64) vals]).map Prod.fst).getD []) κ = cmp_Or_int_body G3 n vals (fun v1 => κ ⟨[.int .i64 v1], []⟩) := by kernel_rfl
theorem cmp_Or_int_eq {α : Type} (n : Nat) (vals : List Int) (r0 : Int → Option α) : cmp_Or_int_body cmp_Or_int_l3 n vals r0 = cmp_Or_int n vals r0 := (cmp_Or_int_body.eq_1 cmp_Or_int_l3 n vals r0).trans (cmp_Or_int.eq_1 n vals r0).symm
theorem cmp_Or_int_rn {α : Type} (F : Nat → List Int → (Int → Option α) → Option α) (n : Nat) (vals : List Int) (κ : Res → Option α) : cmp_Or_int_runG F n [.rows (.int .i64) vals] κ = F n vals (fun v1 => κ ⟨[.int .i64 v1], []⟩) := rfl
theorem cmp_Or_int_ev {α : Type} (n : Nat) (vals : List Int) (κ : Res → Option α) : evFn Try.prog (cmp_Or_int_X n) Try.f312 (((buildDs cmp_Or_int_sh [.rows (.int .i64) vals]).map Prod.fst).getD []) κ = cmp_Or_int_run n [.rows (.int .i64) vals] κ := (cmp_Or_int_gen cmp_Or_int_l3 n vals κ).trans ((cmp_Or_int_eq n vals (fun v1 => κ ⟨[.int .i64 v1], []⟩)).trans ((cmp_Or_int_run.eq_1 n [.rows (.int .i64) vals] κ).trans (cmp_Or_int_rn cmp_Or_int n vals κ)).symm)
theorem cmp_Or_int_en (vals : List Int) : (entry 0 (((buildDs cmp_Or_int_sh [.rows (.int .i64) vals]).map Prod.fst).getD [])).map (fun x => (x.1.length, x.2.lent)) = some (1, []) := by kernel_rfl
theorem cmp_Or_int_good {α : Type} : ∀ n, GoodFn (α := α) Try.prog 312 (byShape cmp_Or_int_sh (cmp_Or_int_run n)) := by
  refine fn_good' Try.func312 (c := (Try.f312.body.getD .skip)) (by kernel_rfl) (by kernel_rfl) (by kernel_rfl) cmp_Or_int_C cmp_Or_int_M eqs cmp_Or_int_lps (fun n => tabC_good (fun _ h => absurd h List.not_mem_nil)) eqs_ok cmp_Or_int_Lt ?_ ?_ cmp_Or_int_sh cmp_Or_int_run ?_
  · refine List.forall_mem_cons.2 ⟨?_, (fun _ h => absurd h List.not_mem_nil)⟩
    · intro p brk ret; show cmp_Or_int_u3 0 p brk ret = none; unfold cmp_Or_int_u3 cmp_Or_int_uG3; split <;> rfl
  · refine List.forall_mem_cons.2 ⟨?_, (fun _ h => absurd h List.not_mem_nil)⟩
    · intro np lent hL n p brk ret st r hb hr
      obtain ⟨rfl, rfl⟩ := hL
      rw [← tpl_of hb]
      change cmp_Or_int_u3 (n + 1) p brk ret = some r at hr
      have hr0 := hr
      unfold cmp_Or_int_u3 cmp_Or_int_uG3 at hr
      split at hr
      · exact (cmp_Or_int_l3_ev n _ _ _ _ brk ret).trans hr0
      · cases hr
  · intro n p κ r ds hd hr
    have hr0 := hr
    unfold cmp_Or_int_run cmp_Or_int_runG at hr
    split at hr
    · rw [← ds_of hd]
      exact ⟨en_of (cmp_Or_int_en _) ⟨rfl, rfl⟩, (cmp_Or_int_ev n _ κ).trans hr0⟩
    · cases hr

/-! loop.example/g01297/impl.shapeOrder -/
def impl_shapeOrder_sh : List SkD := [.agg [.int .i64, .int .i64, .int .i64], .agg [.int .i64, .int .i64, .int .i64]]
def impl_shapeOrder_runG {α : Type} (F : Nat → Int → Int → Int → Int → Int → Int → (Int → Option α) → Option α) (n : Nat) (p : List P1) (κ : Res → Option α) : Option α := match p with
  | [.int a, .int a1, .int a2, .int b_, .int b_1, .int b_2] => F n a a1 a2 b_ b_1 b_2 (fun v1 => κ ⟨[.int .i64 v1], []⟩)
  | _ => none
def impl_shapeOrder_run {α : Type} (n : Nat) (p : List P1) (κ : Res → Option α) : Option α := impl_shapeOrder_runG impl_shapeOrder n p κ
def impl_shapeOrder_CG {α : Type} (F0 : Nat → Int → Int → (Int → Option α) → Option α) (F1 : Nat → List Int → (Int → Option α) → Option α) (n : Nat) : FuncId → List D → (Res → Option α) → Option α := tabC [(198, (byShape cmp_Compare_int64_sh (cmp_Compare_int64_runG F0 n))), (312, (byShape cmp_Or_int_sh (cmp_Or_int_runG F1 n)))]
def impl_shapeOrder_C {α : Type} (n : Nat) : FuncId → List D → (Res → Option α) → Option α := impl_shapeOrder_CG cmp_Compare_int64 cmp_Or_int n
def impl_shapeOrder_M : FuncId → List Nat := tabM []
def impl_shapeOrder_lpsG {α : Type}  : List (LoopT α) := []
def impl_shapeOrder_lps {α : Type} : List (LoopT α) := impl_shapeOrder_lpsG
def impl_shapeOrder_XG {α : Type} (F0 : Nat → Int → Int → (Int → Option α) → Option α) (F1 : Nat → List Int → (Int → Option α) → Option α)  (n : Nat) : Ctx α := ⟨impl_shapeOrder_CG F0 F1 n, impl_shapeOrder_M, eqs, lpOf (impl_shapeOrder_lpsG) n⟩
def impl_shapeOrder_X {α : Type} (n : Nat) : Ctx α := impl_shapeOrder_XG cmp_Compare_int64 cmp_Or_int n
def impl_shapeOrder_Lt (np : Nat) (lent : List (Bool × Nat × Blk)) : Prop := np = 2 ∧ lent = []
def impl_shapeOrder_body {α : Type} (F0 : Nat → Int → Int → (Int → Option α) → Option α) (F1 : Nat → List Int → (Int → Option α) → Option α)  (k : Nat) (a : Int) (a1 : Int) (a2 : Int) (b_ : Int) (b_1 : Int) (b_2 : Int) (r0 : Int → Option α) : Option α :=
  F0 k a b_ fun v =>
  F0 k a1 b_1 fun v1 =>
  F0 k a2 b_2 fun v2 =>
  F1 k [v, v1, v2] fun v3 =>
  r0 v3
theorem impl_shapeOrder_gen {α : Type} (F0 : Nat → Int → Int → (Int → Option α) → Option α) (F1 : Nat → List Int → (Int → Option α) → Option α)  (n : Nat) (a : Int) (a1 : Int) (a2 : Int) (b_ : Int) (b_1 : Int) (b_2 : Int) (κ : Res → Option α) : evFn Try.prog (impl_shapeOrder_XG F0 F1 n) Try.f265 (((buildDs impl_shapeOrder_sh [.int a, .int a1, .int a2, .int b_, .int b_1, .int b_2]).map Prod.fst).getD []) κ = impl_shapeOrder_body F0 F1 n a a1 a2 b_ b_1 b_2 (fun v1 => κ ⟨[.int .i64 v1], []⟩) := by kernel_rfl
theorem impl_shapeOrder_eq {α : Type} (n : Nat) (a : Int) (a1 : Int) (a2 : Int) (b_ : Int) (b_1 : Int) (b_2 : Int) (r0 : Int → Option α) : impl_shapeOrder_body cmp_Compare_int64 cmp_Or_int n a a1 a2 b_ b_1 b_2 r0 = impl_shapeOrder n a a1 a2 b_ b_1 b_2 r0 := (impl_shapeOrder_body.eq_1 cmp_Compare_int64 cmp_Or_int n a a1 a2 b_ b_1 b_2 r0).trans (impl_shapeOrder.eq_1 n a a1 a2 b_ b_1 b_2 r0).symm
theorem impl_shapeOrder_rn {α : Type} (F : Nat → Int → Int → Int → Int → Int → Int → (Int → Option α) → Option α) (n : Nat) (a : Int) (a1 : Int) (a2 : Int) (b_ : Int) (b_1 : Int) (b_2 : Int) (κ : Res → Option α) : impl_shapeOrder_runG F n [.int a, .int a1, .int a2, .int b_, .int b_1, .int b_2] κ = F n a a1 a2 b_ b_1 b_2 (fun v1 => κ ⟨[.int .i64 v1], []⟩) := rfl
theorem impl_shapeOrder_ev {α : Type} (n : Nat) (a : Int) (a1 : Int) (a2 : Int) (b_ : Int) (b_1 : Int) (b_2 : Int) (κ : Res → Option α) : evFn Try.prog (impl_shapeOrder_X n) Try.f265 (((buildDs impl_shapeOrder_sh [.int a, .int a1, .int a2, .int b_, .int b_1, .int b_2]).map Prod.fst).getD []) κ = impl_shapeOrder_run n [.int a, .int a1, .int a2, .int b_, .int b_1, .int b_2] κ := (impl_shapeOrder_gen cmp_Compare_int64 cmp_Or_int n a a1 a2 b_ b_1 b_2 κ).trans ((impl_shapeOrder_eq n a a1 a2 b_ b_1 b_2 (fun v1 => κ ⟨[.int .i64 v1], []⟩)).trans ((impl_shapeOrder_run.eq_1 n [.int a, .int a1, .int a2, .int b_, .int b_1, .int b_2] κ).trans (impl_shapeOrder_rn impl_shapeOrder n a a1 a2 b_ b_1 b_2 κ)).symm)
theorem impl_shapeOrder_en (a : Int) (a1 : Int) (a2 : Int) (b_ : Int) (b_1 : Int) (b_2 : Int) : (entry 0 (((buildDs impl_shapeOrder_sh [.int a, .int a1, .int a2, .int b_, .int b_1, .int b_2]).map Prod.fst).getD [])).map (fun x => (x.1.length, x.2.lent)) = some (2, []) := by kernel_rfl
theorem impl_shapeOrder_good {α : Type} : ∀ n, GoodFn (α := α) Try.prog 265 (byShape impl_shapeOrder_sh (impl_shapeOrder_run n)) := by
  refine fn_good' Try.func265 (c := (Try.f265.body.getD .skip)) (by kernel_rfl) (by kernel_rfl) (by kernel_rfl) impl_shapeOrder_C impl_shapeOrder_M eqs impl_shapeOrder_lps (fun n => tabC_good (List.forall_mem_cons.2 ⟨(cmp_Compare_int64_good n), (List.forall_mem_cons.2 ⟨(cmp_Or_int_good n), (fun _ h => absurd h List.not_mem_nil)⟩)⟩)) eqs_ok impl_shapeOrder_Lt ?_ ?_ impl_shapeOrder_sh impl_shapeOrder_run ?_
  · exact (fun _ h => absurd h List.not_mem_nil)
  · exact (fun _ h => absurd h List.not_mem_nil)
  · intro n p κ r ds hd hr
    have hr0 := hr
    unfold impl_shapeOrder_run impl_shapeOrder_runG at hr
    split at hr
    · rw [← ds_of hd]
      exact ⟨en_of (impl_shapeOrder_en _ _ _ _ _ _) ⟨rfl, rfl⟩, (impl_shapeOrder_ev n _ _ _ _ _ _ κ).trans hr0⟩
    · cases hr

/-! (loop.example/g01297/impl.Triangle).normal -/
def impl_Triangle_normal_sh : List SkD := [.agg [.int .i64, .int .i64, .int .i64, .int .i64, .int .i64, .int .i64]]
def impl_Triangle_normal_runG {α : Type} (F : Nat → Int → Int → Int → Int → Int → Int → (Int → Int → Int → Option α) → Option α) (n : Nat) (p : List P1) (κ : Res → Option α) : Option α := match p with
  | [.int t, .int t1, .int t2, .int t3, .int t4, .int t5] => F n t t1 t2 t3 t4 t5 (fun v1 v2 v3 => κ ⟨[.agg [.int .i64 v1, .int .i64 v2, .int .i64 v3]], []⟩)
  | _ => none
def impl_Triangle_normal_run {α : Type} (n : Nat) (p : List P1) (κ : Res → Option α) : Option α := impl_Triangle_normal_runG impl_Triangle_normal n p κ
def impl_Triangle_normal_CG {α : Type} (F0 : Nat → Int → Int → Int → Int → Int → Int → Int → Int → (Int → Int → Int → Option α) → Option α) (F1 : Nat → Int → Int → Int → Int → Int → Int → (Int → Option α) → Option α) (n : Nat) : FuncId → List D → (Res → Option α) → Option α := tabC [(264, (byShape impl_Triangle_shape_sh (impl_Triangle_shape_runG F0 n))), (265, (byShape impl_shapeOrder_sh (impl_shapeOrder_runG F1 n)))]
def impl_Triangle_normal_C {α : Type} (n : Nat) : FuncId → List D → (Res → Option α) → Option α := impl_Triangle_normal_CG impl_Triangle_shape impl_shapeOrder n
def impl_Triangle_normal_M : FuncId → List Nat := tabM []
def impl_Triangle_normal_t3 : Tpl := ⟨[.any, .ptr 64 0 0, .ptr 128 0 0, .ptr 192 0 0, .any, .any, .any, .any, .int .i64, .any, .any, .any, .any, .any, .any, .any, .any, .any, .any, .any, .any, .any, .any, .any, .any, .any, .any, .any, .any, .any, .any, .any, .any], [(64, .ints 2 28 .i64 6), (128, .ints 2 46 .i64 3), (192, .ints 2 46 .i64 3)], []⟩
def impl_Triangle_normal_uG3 {α : Type} (G : Nat → Int → Int → Int → Int → Int → Int → Int → Int → Int → Int → Int → Int → Int → (Int → Int → Int → Int → Int → Int → Int → Int → Int → Int → Int → Int → Int → Option α) → (Int → Int → Int → Option α) → Option α) (n : Nat) (p : List P1) (brk : Nat → List P1 → Option α) (ret : Res → Option α) : Option α := match p with
  | [.int x, .int t6, .int t7, .int t8, .int t9, .int t10, .int t11, .int x1, .int x2, .int x3, .int out, .int out1, .int out2] => G n x t6 t7 t8 t9 t10 t11 x1 x2 x3 out out1 out2 (fun x t6 t7 t8 t9 t10 t11 x1 x2 x3 out out1 out2 => brk 0 [.int x, .int t6, .int t7, .int t8, .int t9, .int t10, .int t11, .int x1, .int x2, .int x3, .int out, .int out1, .int out2]) (fun v1 v2 v3 => ret ⟨[.agg [.int .i64 v1, .int .i64 v2, .int .i64 v3]], []⟩)
  | _ => none
def impl_Triangle_normal_u3 {α : Type} (n : Nat) (p : List P1) (brk : Nat → List P1 → Option α) (ret : Res → Option α) : Option α := impl_Triangle_normal_uG3 impl_Triangle_normal_l3 n p brk ret
def impl_Triangle_normal_lpsG {α : Type} (G3 : Nat → Int → Int → Int → Int → Int → Int → Int → Int → Int → Int → Int → Int → Int → (Int → Int → Int → Int → Int → Int → Int → Int → Int → Int → Int → Int → Int → Option α) → (Int → Int → Int → Option α) → Option α) : List (LoopT α) := [⟨3, impl_Triangle_normal_t3, impl_Triangle_normal_uG3 G3⟩]
def impl_Triangle_normal_lps {α : Type} : List (LoopT α) := impl_Triangle_normal_lpsG impl_Triangle_normal_l3
def impl_Triangle_normal_XG {α : Type} (F0 : Nat → Int → Int → Int → Int → Int → Int → Int → Int → (Int → Int → Int → Option α) → Option α) (F1 : Nat → Int → Int → Int → Int → Int → Int → (Int → Option α) → Option α) (G3 : Nat → Int → Int → Int → Int → Int → Int → Int → Int → Int → Int → Int → Int → Int → (Int → Int → Int → Int → Int → Int → Int → Int → Int → Int → Int → Int → Int → Option α) → (Int → Int → Int → Option α) → Option α) (n : Nat) : Ctx α := ⟨impl_Triangle_normal_CG F0 F1 n, impl_Triangle_normal_M, eqs, lpOf (impl_Triangle_normal_lpsG G3) n⟩
def impl_Triangle_normal_X {α : Type} (n : Nat) : Ctx α := impl_Triangle_normal_XG impl_Triangle_shape impl_shapeOrder impl_Triangle_normal_l3 n
def impl_Triangle_normal_Lt (np : Nat) (lent : List (Bool × Nat × Blk)) : Prop := np = 1 ∧ lent = []
def impl_Triangle_normal_lb3 {α : Type} (F0 : Nat → Int → Int → Int → Int → Int → Int → Int → Int → (Int → Int → Int → Option α) → Option α) (F1 : Nat → Int → Int → Int → Int → Int → Int → (Int → Option α) → Option α) (G3 : Nat → Int → Int → Int → Int → Int → Int → Int → Int → Int → Int → Int → Int → Int → (Int → Int → Int → Int → Int → Int → Int → Int → Int → Int → Int → Int → Int → Option α) → (Int → Int → Int → Option α) → Option α) (k : Nat) (x : Int) (t6 : Int) (t7 : Int) (t8 : Int) (t9 : Int) (t10 : Int) (t11 : Int) (x1 : Int) (x2 : Int) (x3 : Int) (out : Int) (out1 : Int) (out2 : Int) (b0 : Int → Int → Int → Int → Int → Int → Int → Int → Int → Int → Int → Int → Int → Option α) (r0 : Int → Int → Int → Option α) : Option α :=
  bif decide (x < 3) then
    bif (!decide (x = 0)) then
      F0 k t6 t7 t8 t9 t10 t11 x 0 fun v3 v4 v5 =>
      F1 k v3 v4 v5 out out1 out2 fun v6 =>
      bif decide (v6 < 0) then
        F0 k t6 t7 t8 t9 t10 t11 x 0 fun v7 v8 v9 =>
        bif (!decide (x = 1)) then
          F0 k t6 t7 t8 t9 t10 t11 x 1 fun v10 v11 v12 =>
          F1 k v10 v11 v12 v7 v8 v9 fun v13 =>
          bif decide (v13 < 0) then
            F0 k t6 t7 t8 t9 t10 t11 x 1 fun v14 v15 v16 =>
            bif (!decide (x = 2)) then
              F0 k t6 t7 t8 t9 t10 t11 x 2 fun v17 v18 v19 =>
              F1 k v17 v18 v19 v14 v15 v16 fun v20 =>
              bif decide (v20 < 0) then
                F0 k t6 t7 t8 t9 t10 t11 x 2 fun v21 v22 v23 =>
                G3 k (w64 (x + 1)) t6 t7 t8 t9 t10 t11 x1 x2 x3 v21 v22 v23 b0 r0
              else
                G3 k (w64 (x + 1)) t6 t7 t8 t9 t10 t11 x1 x2 x3 v14 v15 v16 b0 r0
            else
              G3 k (w64 (x + 1)) t6 t7 t8 t9 t10 t11 x1 x2 x3 v14 v15 v16 b0 r0
          else
          bif (!decide (x = 2)) then
            F0 k t6 t7 t8 t9 t10 t11 x 2 fun v24 v25 v26 =>
            F1 k v24 v25 v26 v7 v8 v9 fun v27 =>
            bif decide (v27 < 0) then
              F0 k t6 t7 t8 t9 t10 t11 x 2 fun v28 v29 v30 =>
              G3 k (w64 (x + 1)) t6 t7 t8 t9 t10 t11 x1 x2 x3 v28 v29 v30 b0 r0
            else
              G3 k (w64 (x + 1)) t6 t7 t8 t9 t10 t11 x1 x2 x3 v7 v8 v9 b0 r0
          else
            G3 k (w64 (x + 1)) t6 t7 t8 t9 t10 t11 x1 x2 x3 v7 v8 v9 b0 r0
        else
        bif (!decide (x = 2)) then
          F0 k t6 t7 t8 t9 t10 t11 x 2 fun v31 v32 v33 =>
          F1 k v31 v32 v33 v7 v8 v9 fun v34 =>
          bif decide (v34 < 0) then
            F0 k t6 t7 t8 t9 t10 t11 x 2 fun v35 v36 v37 =>
            G3 k (w64 (x + 1)) t6 t7 t8 t9 t10 t11 x1 x2 x3 v35 v36 v37 b0 r0
          else
            G3 k (w64 (x + 1)) t6 t7 t8 t9 t10 t11 x1 x2 x3 v7 v8 v9 b0 r0
        else
          G3 k (w64 (x + 1)) t6 t7 t8 t9 t10 t11 x1 x2 x3 v7 v8 v9 b0 r0
      else
      bif (!decide (x = 1)) then
        F0 k t6 t7 t8 t9 t10 t11 x 1 fun v38 v39 v40 =>
        F1 k v38 v39 v40 out out1 out2 fun v41 =>
        bif decide (v41 < 0) then
          F0 k t6 t7 t8 t9 t10 t11 x 1 fun v42 v43 v44 =>
          bif (!decide (x = 2)) then
            F0 k t6 t7 t8 t9 t10 t11 x 2 fun v45 v46 v47 =>
            F1 k v45 v46 v47 v42 v43 v44 fun v48 =>
            bif decide (v48 < 0) then
              F0 k t6 t7 t8 t9 t10 t11 x 2 fun v49 v50 v51 =>
              G3 k (w64 (x + 1)) t6 t7 t8 t9 t10 t11 x1 x2 x3 v49 v50 v51 b0 r0
            else
              G3 k (w64 (x + 1)) t6 t7 t8 t9 t10 t11 x1 x2 x3 v42 v43 v44 b0 r0
          else
            G3 k (w64 (x + 1)) t6 t7 t8 t9 t10 t11 x1 x2 x3 v42 v43 v44 b0 r0
        else
        bif (!decide (x = 2)) then
          F0 k t6 t7 t8 t9 t10 t11 x 2 fun v52 v53 v54 =>
          F1 k v52 v53 v54 out out1 out2 fun v55 =>
          bif decide (v55 < 0) then
            F0 k t6 t7 t8 t9 t10 t11 x 2 fun v56 v57 v58 =>
            G3 k (w64 (x + 1)) t6 t7 t8 t9 t10 t11 x1 x2 x3 v56 v57 v58 b0 r0
          else
            G3 k (w64 (x + 1)) t6 t7 t8 t9 t10 t11 x1 x2 x3 out out1 out2 b0 r0
        else
          G3 k (w64 (x + 1)) t6 t7 t8 t9 t10 t11 x1 x2 x3 out out1 out2 b0 r0
      else
      bif (!decide (x = 2)) then
        F0 k t6 t7 t8 t9 t10 t11 x 2 fun v59 v60 v61 =>
        F1 k v59 v60 v61 out out1 out2 fun v62 =>
        bif decide (v62 < 0) then
          F0 k t6 t7 t8 t9 t10 t11 x 2 fun v63 v64 v65 =>
          G3 k (w64 (x + 1)) t6 t7 t8 t9 t10 t11 x1 x2 x3 v63 v64 v65 b0 r0
        else
          G3 k (w64 (x + 1)) t6 t7 t8 t9 t10 t11 x1 x2 x3 out out1 out2 b0 r0
      else
        G3 k (w64 (x + 1)) t6 t7 t8 t9 t10 t11 x1 x2 x3 out out1 out2 b0 r0
    else
    bif (!decide (x = 1)) then
      F0 k t6 t7 t8 t9 t10 t11 x 1 fun v66 v67 v68 =>
      F1 k v66 v67 v68 out out1 out2 fun v69 =>
      bif decide (v69 < 0) then
        F0 k t6 t7 t8 t9 t10 t11 x 1 fun v70 v71 v72 =>
        bif (!decide (x = 2)) then
          F0 k t6 t7 t8 t9 t10 t11 x 2 fun v73 v74 v75 =>
          F1 k v73 v74 v75 v70 v71 v72 fun v76 =>
          bif decide (v76 < 0) then
            F0 k t6 t7 t8 t9 t10 t11 x 2 fun v77 v78 v79 =>
            G3 k (w64 (x + 1)) t6 t7 t8 t9 t10 t11 x1 x2 x3 v77 v78 v79 b0 r0
          else
            G3 k (w64 (x + 1)) t6 t7 t8 t9 t10 t11 x1 x2 x3 v70 v71 v72 b0 r0
        else
          G3 k (w64 (x + 1)) t6 t7 t8 t9 t10 t11 x1 x2 x3 v70 v71 v72 b0 r0
      else
      bif (!decide (x = 2)) then
        F0 k t6 t7 t8 t9 t10 t11 x 2 fun v80 v81 v82 =>
        F1 k v80 v81 v82 out out1 out2 fun v83 =>
        bif decide (v83 < 0) then
          F0 k t6 t7 t8 t9 t10 t11 x 2 fun v84 v85 v86 =>
          G3 k (w64 (x + 1)) t6 t7 t8 t9 t10 t11 x1 x2 x3 v84 v85 v86 b0 r0
        else
          G3 k (w64 (x + 1)) t6 t7 t8 t9 t10 t11 x1 x2 x3 out out1 out2 b0 r0
      else
        G3 k (w64 (x + 1)) t6 t7 t8 t9 t10 t11 x1 x2 x3 out out1 out2 b0 r0
    else
    bif (!decide (x = 2)) then
      F0 k t6 t7 t8 t9 t10 t11 x 2 fun v87 v88 v89 =>
      F1 k v87 v88 v89 out out1 out2 fun v90 =>
      bif decide (v90 < 0) then
        F0 k t6 t7 t8 t9 t10 t11 x 2 fun v91 v92 v93 =>
        G3 k (w64 (x + 1)) t6 t7 t8 t9 t10 t11 x1 x2 x3 v91 v92 v93 b0 r0
      else
        G3 k (w64 (x + 1)) t6 t7 t8 t9 t10 t11 x1 x2 x3 out out1 out2 b0 r0
    else
      G3 k (w64 (x + 1)) t6 t7 t8 t9 t10 t11 x1 x2 x3 out out1 out2 b0 r0
  else
    b0 x t6 t7 t8 t9 t10 t11 x1 x2 x3 out out1 out2
theorem impl_Triangle_normal_l3_gen {α : Type} (F0 : Nat → Int → Int → Int → Int → Int → Int → Int → Int → (Int → Int → Int → Option α) → Option α) (F1 : Nat → Int → Int → Int → Int → Int → Int → (Int → Option α) → Option α) (G3 : Nat → Int → Int → Int → Int → Int → Int → Int → Int → Int → Int → Int → Int → Int → (Int → Int → Int → Int → Int → Int → Int → Int → Int → Int → Int → Int → Int → Option α) → (Int → Int → Int → Option α) → Option α) (n : Nat) (x : Int) (t6 : Int) (t7 : Int) (t8 : Int) (t9 : Int) (t10 : Int) (t11 : Int) (x1 : Int) (x2 : Int) (x3 : Int) (out : Int) (out1 : Int) (out2 : Int) (brk : Nat → List P1 → Option α) (ret : Res → Option α) : ev ((impl_Triangle_normal_XG F0 F1 G3 n).env Try.prog Try.f150 1 []) (findLoop (loopsIn (Try.f150.body.getD .skip)) 3) ((impl_Triangle_normal_t3.build [.int x, .int t6, .int t7, .int t8, .int t9, .int t10, .int t11, .int x1, .int x2, .int x3, .int out, .int out1, .int out2]).getD ⟨[], []⟩) (roundK (1 * 64) impl_Triangle_normal_t3 (fun q => impl_Triangle_normal_uG3 G3 n q brk ret) brk ret) = impl_Triangle_normal_lb3 F0 F1 G3 n x t6 t7 t8 t9 t10 t11 x1 x2 x3 out out1 out2 (fun x t6 t7 t8 t9 t10 t11 x1 x2 x3 out out1 out2 => brk 0 [.int x, .int t6, .int t7, .int t8, .int t9, .int t10, .int t11, .int x1, .int x2, .int x3, .int out, .int out1, .int out2]) (fun v1 v2 v3 => ret ⟨[.agg [.int .i64 v1, .int .i64 v2, .int .i64 v3]], []⟩) := by kernel_rfl
theorem impl_Triangle_normal_l3_eq {α : Type} (k : Nat) (x : Int) (t6 : Int) (t7 : Int) (t8 : Int) (t9 : Int) (t10 : Int) (t11 : Int) (x1 : Int) (x2 : Int) (x3 : Int) (out : Int) (out1 : Int) (out2 : Int) (b0 : Int → Int → Int → Int → Int → Int → Int → Int → Int → Int → Int → Int → Int → Option α) (r0 : Int → Int → Int → Option α) : impl_Triangle_normal_lb3 impl_Triangle_shape impl_shapeOrder impl_Triangle_normal_l3 k x t6 t7 t8 t9 t10 t11 x1 x2 x3 out out1 out2 b0 r0 = impl_Triangle_normal_l3 (k + 1) x t6 t7 t8 t9 t10 t11 x1 x2 x3 out out1 out2 b0 r0 := (impl_Triangle_normal_lb3.eq_1 impl_Triangle_shape impl_shapeOrder impl_Triangle_normal_l3 k x t6 t7 t8 t9 t10 t11 x1 x2 x3 out out1 out2 b0 r0).trans (show impl_Triangle_normal_l3 (k + 1) x t6 t7 t8 t9 t10 t11 x1 x2 x3 out out1 out2 b0 r0 = _ from impl_Triangle_normal_l3.eq_2 _ _ _ _ _ _ _ _ _ _ _ _ _ _ _ _ ).symm
theorem impl_Triangle_normal_l3_rn {α : Type} (G : Nat → Int → Int → Int → Int → Int → Int → Int → Int → Int → Int → Int → Int → Int → (Int → Int → Int → Int → Int → Int → Int → Int → Int → Int → Int → Int → Int → Option α) → (Int → Int → Int → Option α) → Option α) (n : Nat) (x : Int) (t6 : Int) (t7 : Int) (t8 : Int) (t9 : Int) (t10 : Int) (t11 : Int) (x1 : Int) (x2 : Int) (x3 : Int) (out : Int) (out1 : Int) (out2 : Int) (brk : Nat → List P1 → Option α) (ret : Res → Option α) : impl_Triangle_normal_uG3 G n [.int x, .int t6, .int t7, .int t8, .int t9, .int t10, .int t11, .int x1, .int x2, .int x3, .int out, .int out1, .int out2] brk ret = G n x t6 t7 t8 t9 t10 t11 x1 x2 x3 out out1 out2 (fun x t6 t7 t8 t9 t10 t11 x1 x2 x3 out out1 out2 => brk 0 [.int x, .int t6, .int t7, .int t8, .int t9, .int t10, .int t11, .int x1, .int x2, .int x3, .int out, .int out1, .int out2]) (fun v1 v2 v3 => ret ⟨[.agg [.int .i64 v1, .int .i64 v2, .int .i64 v3]], []⟩) := rfl
theorem impl_Triangle_normal_l3_ev {α : Type} (n : Nat) (x : Int) (t6 : Int) (t7 : Int) (t8 : Int) (t9 : Int) (t10 : Int) (t11 : Int) (x1 : Int) (x2 : Int) (x3 : Int) (out : Int) (out1 : Int) (out2 : Int) (brk : Nat → List P1 → Option α) (ret : Res → Option α) : ev ((impl_Triangle_normal_X n).env Try.prog Try.f150 1 []) (findLoop (loopsIn (Try.f150.body.getD .skip)) 3) ((impl_Triangle_normal_t3.build [.int x, .int t6, .int t7, .int t8, .int t9, .int t10, .int t11, .int x1, .int x2, .int x3, .int out, .int out1, .int out2]).getD ⟨[], []⟩) (roundK (1 * 64) impl_Triangle_normal_t3 (fun q => impl_Triangle_normal_u3 n q brk ret) brk ret) = impl_Triangle_normal_u3 (n + 1) [.int x, .int t6, .int t7, .int t8, .int t9, .int t10, .int t11, .int x1, .int x2, .int x3, .int out, .int out1, .int out2] brk ret := (impl_Triangle_normal_l3_gen impl_Triangle_shape impl_shapeOrder impl_Triangle_normal_l3 n x t6 t7 t8 t9 t10 t11 x1 x2 x3 out out1 out2 brk ret).trans ((impl_Triangle_normal_l3_eq n x t6 t7 t8 t9 t10 t11 x1 x2 x3 out out1 out2 (fun x t6 t7 t8 t9 t10 t11 x1 x2 x3 out out1 out2 => brk 0 [.int x, .int t6, .int t7, .int t8, .int t9, .int t10, .int t11, .int x1, .int x2, .int x3, .int out, .int out1, .int out2]) (fun v1 v2 v3 => ret ⟨[.agg [.int .i64 v1, .int .i64 v2, .int .i64 v3]], []⟩)).trans ((impl_Triangle_normal_u3.eq_1 (n + 1) [.int x, .int t6, .int t7, .int t8, .int t9, .int t10, .int t11, .int x1, .int x2, .int x3, .int out, .int out1, .int out2] brk ret).trans (impl_Triangle_normal_l3_rn impl_Triangle_normal_l3 (n + 1) x t6 t7 t8 t9 t10 t11 x1 x2 x3 out out1 out2 brk ret)).symm)
def impl_Triangle_normal_body {α : Type} (F0 : Nat → Int → Int → Int → Int → Int → Int → Int → Int → (Int → Int → Int → Option α) → Option α) (F1 : Nat → Int → Int → Int → Int → Int → Int → (Int → Option α) → Option α) (G3 : Nat → Int → Int → Int → Int → Int → Int → Int → Int → Int → Int → Int → Int → Int → (Int → Int → Int → Int → Int → Int → Int → Int → Int → Int → Int → Int → Int → Option α) → (Int → Int → Int → Option α) → Option α) (k : Nat) (t : Int) (t1 : Int) (t2 : Int) (t3 : Int) (t4 : Int) (t5 : Int) (r0 : Int → Int → Int → Option α) : Option α :=
  F0 k t t1 t2 t3 t4 t5 0 1 fun v v1 v2 =>
  G3 k 0 t t1 t2 t3 t4 t5 0 0 0 v v1 v2
    (fun x4 t12 t13 t14 t15 t16 t17 x5 x6 x7 out3 out4 out5 =>
      r0 out3 out4 out5)
    r0
theorem impl_Triangle_normal_gen {α : Type} (F0 : Nat → Int → Int → Int → Int → Int → Int → Int → Int → (Int → Int → Int → Option α) → Option α) (F1 : Nat → Int → Int → Int → Int → Int → Int → (Int → Option α) → Option α) (G3 : Nat → Int → Int → Int → Int → Int → Int → Int → Int → Int → Int → Int → Int → Int → (Int → Int → Int → Int → Int → Int → Int → Int → Int → Int → Int → Int → Int → Option α) → (Int → Int → Int → Option α) → Option α) (n : Nat) (t : Int) (t1 : Int) (t2 : Int) (t3 : Int) (t4 : Int) (t5 : Int) (κ : Res → Option α) : evFn Try.prog (impl_Triangle_normal_XG F0 F1 G3 n) Try.f150 (((buildDs impl_Triangle_normal_sh [.int t, .int t1, .int t2, .int t3, .int t4, .int t5]).map Prod.fst).getD []) κ = impl_Triangle_normal_body F0 F1 G3 n t t1 t2 t3 t4 t5 (fun v1 v2 v3 => κ ⟨[.agg [.int .i64 v1, .int .i64 v2, .int .i64 v3]], []⟩) := by kernel_rfl
theorem impl_Triangle_normal_eq {α : Type} (n : Nat) (t : Int) (t1 : Int) (t2 : Int) (t3 : Int) (t4 : Int) (t5 : Int) (r0 : Int → Int → Int → Option α) : impl_Triangle_normal_body impl_Triangle_shape impl_shapeOrder impl_Triangle_normal_l3 n t t1 t2 t3 t4 t5 r0 = impl_Triangle_normal n t t1 t2 t3 t4 t5 r0 := (impl_Triangle_normal_body.eq_1 impl_Triangle_shape impl_shapeOrder impl_Triangle_normal_l3 n t t1 t2 t3 t4 t5 r0).trans (impl_Triangle_normal.eq_1 n t t1 t2 t3 t4 t5 r0).symm
theorem impl_Triangle_normal_rn {α : Type} (F : Nat → Int → Int → Int → Int → Int → Int → (Int → Int → Int → Option α) → Option α) (n : Nat) (t : Int) (t1 : Int) (t2 : Int) (t3 : Int) (t4 : Int) (t5 : Int) (κ : Res → Option α) : impl_Triangle_normal_runG F n [.int t, .int t1, .int t2, .int t3, .int t4, .int t5] κ = F n t t1 t2 t3 t4 t5 (fun v1 v2 v3 => κ ⟨[.agg [.int .i64 v1, .int .i64 v2, .int .i64 v3]], []⟩) := rfl
theorem impl_Triangle_normal_ev {α : Type} (n : Nat) (t : Int) (t1 : Int) (t2 : Int) (t3 : Int) (t4 : Int) (t5 : Int) (κ : Res → Option α) : evFn Try.prog (impl_Triangle_normal_X n) Try.f150 (((buildDs impl_Triangle_normal_sh [.int t, .int t1, .int t2, .int t3, .int t4, .int t5]).map Prod.fst).getD []) κ = impl_Triangle_normal_run n [.int t, .int t1, .int t2, .int t3, .int t4, .int t5] κ := (impl_Triangle_normal_gen impl_Triangle_shape impl_shapeOrder impl_Triangle_normal_l3 n t t1 t2 t3 t4 t5 κ).trans ((impl_Triangle_normal_eq n t t1 t2 t3 t4 t5 (fun v1 v2 v3 => κ ⟨[.agg [.int .i64 v1, .int .i64 v2, .int .i64 v3]], []⟩)).trans ((impl_Triangle_normal_run.eq_1 n [.int t, .int t1, .int t2, .int t3, .int t4, .int t5] κ).trans (impl_Triangle_normal_rn impl_Triangle_normal n t t1 t2 t3 t4 t5 κ)).symm)
theorem impl_Triangle_normal_en (t : Int) (t1 : Int) (t2 : Int) (t3 : Int) (t4 : Int) (t5 : Int) : (entry 0 (((buildDs impl_Triangle_normal_sh [.int t, .int t1, .int t2, .int t3, .int t4, .int t5]).map Prod.fst).getD [])).map (fun x => (x.1.length, x.2.lent)) = some (1, []) := by kernel_rfl
theorem impl_Triangle_normal_good {α : Type} : ∀ n, GoodFn (α := α) Try.prog 150 (byShape impl_Triangle_normal_sh (impl_Triangle_normal_run n)) := by
  refine fn_good' Try.func150 (c := (Try.f150.body.getD .skip)) (by kernel_rfl) (by kernel_rfl) (by kernel_rfl) impl_Triangle_normal_C impl_Triangle_normal_M eqs impl_Triangle_normal_lps (fun n => tabC_good (List.forall_mem_cons.2 ⟨(impl_Triangle_shape_good n), (List.forall_mem_cons.2 ⟨(impl_shapeOrder_good n), (fun _ h => absurd h List.not_mem_nil)⟩)⟩)) eqs_ok impl_Triangle_normal_Lt ?_ ?_ impl_Triangle_normal_sh impl_Triangle_normal_run ?_
  · refine List.forall_mem_cons.2 ⟨?_, (fun _ h => absurd h List.not_mem_nil)⟩
    · intro p brk ret; show impl_Triangle_normal_u3 0 p brk ret = none; unfold impl_Triangle_normal_u3 impl_Triangle_normal_uG3; split <;> rfl
  · refine List.forall_mem_cons.2 ⟨?_, (fun _ h => absurd h List.not_mem_nil)⟩
    · intro np lent hL n p brk ret st r hb hr
      obtain ⟨rfl, rfl⟩ := hL
      rw [← tpl_of hb]
      change impl_Triangle_normal_u3 (n + 1) p brk ret = some r at hr
      have hr0 := hr
      unfold impl_Triangle_normal_u3 impl_Triangle_normal_uG3 at hr
      split at hr
      · exact (impl_Triangle_normal_l3_ev n _ _ _ _ _ _ _ _ _ _ _ _ _ brk ret).trans hr0
      · cases hr
  · intro n p κ r ds hd hr
    have hr0 := hr
    unfold impl_Triangle_normal_run impl_Triangle_normal_runG at hr
    split at hr
    · rw [← ds_of hd]
      exact ⟨en_of (impl_Triangle_normal_en _ _ _ _ _ _) ⟨rfl, rfl⟩, (impl_Triangle_normal_ev n _ _ _ _ _ _ κ).trans hr0⟩
    · cases hr

/-! loop.example/g01297/impl.AreEqualTriangles -/
def impl_AreEqualTriangles_sh : List SkD := [.agg [.int .i64, .int .i64, .int .i64, .int .i64, .int .i64, .int .i64], .agg [.int .i64, .int .i64, .int .i64, .int .i64, .int .i64, .int .i64]]
def impl_AreEqualTriangles_runG {α : Type} (F : Nat → Int → Int → Int → Int → Int → Int → Int → Int → Int → Int → Int → Int → (Bool → Int → Option α) → Option α) (n : Nat) (p : List P1) (κ : Res → Option α) : Option α := match p with
  | [.int t, .int t1, .int t2, .int t3, .int t4, .int t5, .int u, .int u1, .int u2, .int u3, .int u4, .int u5] => F n t t1 t2 t3 t4 t5 u u1 u2 u3 u4 u5 (fun v1 v2 => κ ⟨[.bool v1, .int .i64 v2], []⟩)
  | _ => none
def impl_AreEqualTriangles_run {α : Type} (n : Nat) (p : List P1) (κ : Res → Option α) : Option α := impl_AreEqualTriangles_runG impl_AreEqualTriangles n p κ
def impl_AreEqualTriangles_CG {α : Type} (F0 : Nat → Int → Int → Int → Int → Int → Int → (Bool → Option α) → Option α) (F1 : Nat → Int → Int → Int → Int → Int → Int → (Int → Int → Int → Option α) → Option α) (n : Nat) : FuncId → List D → (Res → Option α) → Option α := tabC [(69, (byShape impl_IsTriangle_sh (impl_IsTriangle_runG F0 n))), (150, (byShape impl_Triangle_normal_sh (impl_Triangle_normal_runG F1 n)))]
def impl_AreEqualTriangles_C {α : Type} (n : Nat) : FuncId → List D → (Res → Option α) → Option α := impl_AreEqualTriangles_CG impl_IsTriangle impl_Triangle_normal n
def impl_AreEqualTriangles_M : FuncId → List Nat := tabM []
def impl_AreEqualTriangles_lpsG {α : Type}  : List (LoopT α) := []
def impl_AreEqualTriangles_lps {α : Type} : List (LoopT α) := impl_AreEqualTriangles_lpsG
def impl_AreEqualTriangles_XG {α : Type} (F0 : Nat → Int → Int → Int → Int → Int → Int → (Bool → Option α) → Option α) (F1 : Nat → Int → Int → Int → Int → Int → Int → (Int → Int → Int → Option α) → Option α)  (n : Nat) : Ctx α := ⟨impl_AreEqualTriangles_CG F0 F1 n, impl_AreEqualTriangles_M, eqs, lpOf (impl_AreEqualTriangles_lpsG) n⟩
def impl_AreEqualTriangles_X {α : Type} (n : Nat) : Ctx α := impl_AreEqualTriangles_XG impl_IsTriangle impl_Triangle_normal n
def impl_AreEqualTriangles_Lt (np : Nat) (lent : List (Bool × Nat × Blk)) : Prop := np = 2 ∧ lent = []
def impl_AreEqualTriangles_body {α : Type} (F0 : Nat → Int → Int → Int → Int → Int → Int → (Bool → Option α) → Option α) (F1 : Nat → Int → Int → Int → Int → Int → Int → (Int → Int → Int → Option α) → Option α)  (k : Nat) (t : Int) (t1 : Int) (t2 : Int) (t3 : Int) (t4 : Int) (t5 : Int) (u : Int) (u1 : Int) (u2 : Int) (u3 : Int) (u4 : Int) (u5 : Int) (r0 : Bool → Int → Option α) : Option α :=
  F0 k t t1 t2 t3 t4 t5 fun v =>
  bif (!v) then
    r0 false 1
  else
    F0 k u u1 u2 u3 u4 u5 fun v1 =>
    bif (!v1) then
      r0 false 1
    else
      F1 k t t1 t2 t3 t4 t5 fun v2 v3 v4 =>
      F1 k u u1 u2 u3 u4 u5 fun v5 v6 v7 =>
      r0 (decide (v2 = v5) && (decide (v3 = v6) && decide (v4 = v7))) 0
theorem impl_AreEqualTriangles_gen {α : Type} (F0 : Nat → Int → Int → Int → Int → Int → Int → (Bool → Option α) → Option α) (F1 : Nat → Int → Int → Int → Int → Int → Int → (Int → Int → Int → Option α) → Option α)  (n : Nat) (t : Int) (t1 : Int) (t2 : Int) (t3 : Int) (t4 : Int) (t5 : Int) (u : Int) (u1 : Int) (u2 : Int) (u3 : Int) (u4 : Int) (u5 : Int) (κ : Res → Option α) : evFn Try.prog (impl_AreEqualTriangles_XG F0 F1 n) Try.f17 (((buildDs impl_AreEqualTriangles_sh [.int t, .int t1, .int t2, .int t3, .int t4, .int t5, .int u, .int u1, .int u2, .int u3, .int u4, .int u5]).map Prod.fst).getD []) κ = impl_AreEqualTriangles_body F0 F1 n t t1 t2 t3 t4 t5 u u1 u2 u3 u4 u5 (fun v1 v2 => κ ⟨[.bool v1, .int .i64 v2], []⟩) := by kernel_rfl
theorem impl_AreEqualTriangles_eq {α : Type} (n : Nat) (t : Int) (t1 : Int) (t2 : Int) (t3 : Int) (t4 : Int) (t5 : Int) (u : Int) (u1 : Int) (u2 : Int) (u3 : Int) (u4 : Int) (u5 : Int) (r0 : Bool → Int → Option α) : impl_AreEqualTriangles_body impl_IsTriangle impl_Triangle_normal n t t1 t2 t3 t4 t5 u u1 u2 u3 u4 u5 r0 = impl_AreEqualTriangles n t t1 t2 t3 t4 t5 u u1 u2 u3 u4 u5 r0 := (impl_AreEqualTriangles_body.eq_1 impl_IsTriangle impl_Triangle_normal n t t1 t2 t3 t4 t5 u u1 u2 u3 u4 u5 r0).trans (impl_AreEqualTriangles.eq_1 n t t1 t2 t3 t4 t5 u u1 u2 u3 u4 u5 r0).symm
theorem impl_AreEqualTriangles_rn {α : Type} (F : Nat → Int → Int → Int → Int → Int → Int → Int → Int → Int → Int → Int → Int → (Bool → Int → Option α) → Option α) (n : Nat) (t : Int) (t1 : Int) (t2 : Int) (t3 : Int) (t4 : Int) (t5 : Int) (u : Int) (u1 : Int) (u2 : Int) (u3 : Int) (u4 : Int) (u5 : Int) (κ : Res → Option α) : impl_AreEqualTriangles_runG F n [.int t, .int t1, .int t2, .int t3, .int t4, .int t5, .int u, .int u1, .int u2, .int u3, .int u4, .int u5] κ = F n t t1 t2 t3 t4 t5 u u1 u2 u3 u4 u5 (fun v1 v2 => κ ⟨[.bool v1, .int .i64 v2], []⟩) := rfl
theorem impl_AreEqualTriangles_ev {α : Type} (n : Nat) (t : Int) (t1 : Int) (t2 : Int) (t3 : Int) (t4 : Int) (t5 : Int) (u : Int) (u1 : Int) (u2 : Int) (u3 : Int) (u4 : Int) (u5 : Int) (κ : Res → Option α) : evFn Try.prog (impl_AreEqualTriangles_X n) Try.f17 (((buildDs impl_AreEqualTriangles_sh [.int t, .int t1, .int t2, .int t3, .int t4, .int t5, .int u, .int u1, .int u2, .int u3, .int u4, .int u5]).map Prod.fst).getD []) κ = impl_AreEqualTriangles_run n [.int t, .int t1, .int t2, .int t3, .int t4, .int t5, .int u, .int u1, .int u2, .int u3, .int u4, .int u5] κ := (impl_AreEqualTriangles_gen impl_IsTriangle impl_Triangle_normal n t t1 t2 t3 t4 t5 u u1 u2 u3 u4 u5 κ).trans ((impl_AreEqualTriangles_eq n t t1 t2 t3 t4 t5 u u1 u2 u3 u4 u5 (fun v1 v2 => κ ⟨[.bool v1, .int .i64 v2], []⟩)).trans ((impl_AreEqualTriangles_run.eq_1 n [.int t, .int t1, .int t2, .int t3, .int t4, .int t5, .int u, .int u1, .int u2, .int u3, .int u4, .int u5] κ).trans (impl_AreEqualTriangles_rn impl_AreEqualTriangles n t t1 t2 t3 t4 t5 u u1 u2 u3 u4 u5 κ)).symm)
theorem impl_AreEqualTriangles_en (t : Int) (t1 : Int) (t2 : Int) (t3 : Int) (t4 : Int) (t5 : Int) (u : Int) (u1 : Int) (u2 : Int) (u3 : Int) (u4 : Int) (u5 : Int) : (entry 0 (((buildDs impl_AreEqualTriangles_sh [.int t, .int t1, .int t2, .int t3, .int t4, .int t5, .int u, .int u1, .int u2, .int u3, .int u4, .int u5]).map Prod.fst).getD [])).map (fun x => (x.1.length, x.2.lent)) = some (2, []) := by kernel_rfl
theorem impl_AreEqualTriangles_good {α : Type} : ∀ n, GoodFn (α := α) Try.prog 17 (byShape impl_AreEqualTriangles_sh (impl_AreEqualTriangles_run n)) := by
  refine fn_good' Try.func17 (c := (Try.f17.body.getD .skip)) (by kernel_rfl) (by kernel_rfl) (by kernel_rfl) impl_AreEqualTriangles_C impl_AreEqualTriangles_M eqs impl_AreEqualTriangles_lps (fun n => tabC_good (List.forall_mem_cons.2 ⟨(impl_IsTriangle_good n), (List.forall_mem_cons.2 ⟨(impl_Triangle_normal_good n), (fun _ h => absurd h List.not_mem_nil)⟩)⟩)) eqs_ok impl_AreEqualTriangles_Lt ?_ ?_ impl_AreEqualTriangles_sh impl_AreEqualTriangles_run ?_
  · exact (fun _ h => absurd h List.not_mem_nil)
  · exact (fun _ h => absurd h List.not_mem_nil)
  · intro n p κ r ds hd hr
    have hr0 := hr
    unfold impl_AreEqualTriangles_run impl_AreEqualTriangles_runG at hr
    split at hr
    · rw [← ds_of hd]
      exact ⟨en_of (impl_AreEqualTriangles_en _ _ _ _ _ _ _ _ _ _ _ _) ⟨rfl, rfl⟩, (impl_AreEqualTriangles_ev n _ _ _ _ _ _ _ _ _ _ _ _ κ).trans hr0⟩
    · cases hr

end Go.Proofs.Ytjekmhinmcniaaa
