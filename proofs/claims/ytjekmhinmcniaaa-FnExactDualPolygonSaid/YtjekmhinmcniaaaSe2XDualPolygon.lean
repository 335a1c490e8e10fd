/- The program's functions hold to their readings without memory: printed by a program of ours. -/
import Derived.Test.YtjekmhinmcniaaaSe1XDualPolygon
namespace Go.Proofs.Ytjekmhinmcniaaa
open Go Go.Ev Go.Sh Go.Proofs

/-! slices.IndexFunc[[]loop.example/g01297/impl.Point,loop.example/g01297/impl.Point] -/
def slices_IndexFunc_impl_Point_impl_Point_1F_impl_IsPolygon_1_sh : List SkD := [.sl 26 .pt, .fn 277 []]
def slices_IndexFunc_impl_Point_impl_Point_1F_impl_IsPolygon_1_runG {α : Type} (F : Nat → (List (Int × Int)) → (Int → Option α) → Option α) (n : Nat) (p : List P1) (κ : Res → Option α) : Option α := match p with
  | [.rows .pt s] => F n s (fun v1 => κ ⟨[.int .i64 v1], []⟩)
  | _ => none
def slices_IndexFunc_impl_Point_impl_Point_1F_impl_IsPolygon_1_run {α : Type} (n : Nat) (p : List P1) (κ : Res → Option α) : Option α := slices_IndexFunc_impl_Point_impl_Point_1F_impl_IsPolygon_1_runG slices_IndexFunc_impl_Point_impl_Point_1F_impl_IsPolygon_1 n p κ
def slices_IndexFunc_impl_Point_impl_Point_1F_impl_IsPolygon_1_CG {α : Type} (F0 : Nat → Int → Int → (Bool → Option α) → Option α) (n : Nat) : FuncId → List D → (Res → Option α) → Option α := tabC [(277, (byShape impl_IsPolygon_1_sh (impl_IsPolygon_1_runG F0 n)))]
def slices_IndexFunc_impl_Point_impl_Point_1F_impl_IsPolygon_1_C {α : Type} (n : Nat) : FuncId → List D → (Res → Option α) → Option α := slices_IndexFunc_impl_Point_impl_Point_1F_impl_IsPolygon_1_CG impl_IsPolygon_1 n
def slices_IndexFunc_impl_Point_impl_Point_1F_impl_IsPolygon_1_M : FuncId → List Nat := tabM []
def slices_IndexFunc_impl_Point_impl_Point_1F_impl_IsPolygon_1_t2 : Tpl := ⟨[.sl 0, .fn 277 [], .any, .any, .any, .any, .any, .int .i64, .int .i64, .any, .any, .any, .any, .any, .any, .any, .any, .any, .any], [(0, .rows 0 26 .pt)], []⟩
def slices_IndexFunc_impl_Point_impl_Point_1F_impl_IsPolygon_1_uG2 {α : Type} (G : Nat → Int → Int → (List (Int × Int)) → (Int → Int → (List (Int × Int)) → Option α) → (Int → Option α) → Option α) (n : Nat) (p : List P1) (brk : Nat → List P1 → Option α) (ret : Res → Option α) : Option α := match p with
  | [.int x, .int x1, .rows .pt s1] => G n x x1 s1 (fun x x1 s1 => brk 0 [.int x, .int x1, .rows .pt s1]) (fun v1 => ret ⟨[.int .i64 v1], []⟩)
  | _ => none
def slices_IndexFunc_impl_Point_impl_Point_1F_impl_IsPolygon_1_u2 {α : Type} (n : Nat) (p : List P1) (brk : Nat → List P1 → Option α) (ret : Res → Option α) : Option α := slices_IndexFunc_impl_Point_impl_Point_1F_impl_IsPolygon_1_uG2 slices_IndexFunc_impl_Point_impl_Point_1F_impl_IsPolygon_1_l2 n p brk ret
def slices_IndexFunc_impl_Point_impl_Point_1F_impl_IsPolygon_1_lpsG {α : Type} (G2 : Nat → Int → Int → (List (Int × Int)) → (Int → Int → (List (Int × Int)) → Option α) → (Int → Option α) → Option α) : List (LoopT α) := [⟨2, slices_IndexFunc_impl_Point_impl_Point_1F_impl_IsPolygon_1_t2, slices_IndexFunc_impl_Point_impl_Point_1F_impl_IsPolygon_1_uG2 G2⟩]
def slices_IndexFunc_impl_Point_impl_Point_1F_impl_IsPolygon_1_lps {α : Type} : List (LoopT α) := slices_IndexFunc_impl_Point_impl_Point_1F_impl_IsPolygon_1_lpsG slices_IndexFunc_impl_Point_impl_Point_1F_impl_IsPolygon_1_l2
def slices_IndexFunc_impl_Point_impl_Point_1F_impl_IsPolygon_1_XG {α : Type} (F0 : Nat → Int → Int → (Bool → Option α) → Option α) (G2 : Nat → Int → Int → (List (Int × Int)) → (Int → Int → (List (Int × Int)) → Option α) → (Int → Option α) → Option α) (n : Nat) : Ctx α := ⟨slices_IndexFunc_impl_Point_impl_Point_1F_impl_IsPolygon_1_CG F0 n, slices_IndexFunc_impl_Point_impl_Point_1F_impl_IsPolygon_1_M, eqs, lpOf (slices_IndexFunc_impl_Point_impl_Point_1F_impl_IsPolygon_1_lpsG G2) n⟩
def slices_IndexFunc_impl_Point_impl_Point_1F_impl_IsPolygon_1_X {α : Type} (n : Nat) : Ctx α := slices_IndexFunc_impl_Point_impl_Point_1F_impl_IsPolygon_1_XG impl_IsPolygon_1 slices_IndexFunc_impl_Point_impl_Point_1F_impl_IsPolygon_1_l2 n
def slices_IndexFunc_impl_Point_impl_Point_1F_impl_IsPolygon_1_Lt (np : Nat) (lent : List (Bool × Nat × Blk)) : Prop := np = 2 ∧ lent = []
def slices_IndexFunc_impl_Point_impl_Point_1F_impl_IsPolygon_1_lb2 {α : Type} (F0 : Nat → Int → Int → (Bool → Option α) → Option α) (G2 : Nat → Int → Int → (List (Int × Int)) → (Int → Int → (List (Int × Int)) → Option α) → (Int → Option α) → Option α) (k : Nat) (x : Int) (x1 : Int) (s1 : List (Int × Int)) (b0 : Int → Int → (List (Int × Int)) → Option α) (r0 : Int → Option α) : Option α :=
  bif decide (x1 < x) then
    bif (decide (0 ≤ x1) && decide (x1 < (((List.length s1) : Nat) : Int))) then
      (s1[x1.toNat]?).bind fun e_ =>
      F0 k e_.1 e_.2 fun v =>
      bif v then
        r0 x1
      else
        G2 k x (w64 (x1 + 1)) s1 b0 r0
    else
      none
  else
    b0 x x1 s1
theorem slices_IndexFunc_impl_Point_impl_Point_1F_impl_IsPolygon_1_l2_gen {α : Type} (F0 : Nat → Int → Int → (Bool → Option α) → Option α) (G2 : Nat → Int → Int → (List (Int × Int)) → (Int → Int → (List (Int × Int)) → Option α) → (Int → Option α) → Option α) (n : Nat) (x : Int) (x1 : Int) (s1 : List (Int × Int)) (brk : Nat → List P1 → Option α) (ret : Res → Option α) : ev ((slices_IndexFunc_impl_Point_impl_Point_1F_impl_IsPolygon_1_XG F0 G2 n).env Try.prog Try.f313 2 []) (findLoop (loopsIn (Try.f313.body.getD .skip)) 2) ((slices_IndexFunc_impl_Point_impl_Point_1F_impl_IsPolygon_1_t2.build [.int x, .int x1, .rows .pt s1]).getD ⟨[], []⟩) (roundK (2 * 64) slices_IndexFunc_impl_Point_impl_Point_1F_impl_IsPolygon_1_t2 (fun q => slices_IndexFunc_impl_Point_impl_Point_1F_impl_IsPolygon_1_uG2 G2 n q brk ret) brk ret) = slices_IndexFunc_impl_Point_impl_Point_1F_impl_IsPolygon_1_lb2 F0 G2 n x x1 s1 (fun x x1 s1 => brk 0 [.int x, .int x1, .rows .pt s1]) (fun v1 => ret ⟨[.int .i64 v1], []⟩) := by kernel_rfl
theorem slices_IndexFunc_impl_Point_impl_Point_1F_impl_IsPolygon_1_l2_eq {α : Type} (k : Nat) (x : Int) (x1 : Int) (s1 : List (Int × Int)) (b0 : Int → Int → (List (Int × Int)) → Option α) (r0 : Int → Option α) : slices_IndexFunc_impl_Point_impl_Point_1F_impl_IsPolygon_1_lb2 impl_IsPolygon_1 slices_IndexFunc_impl_Point_impl_Point_1F_impl_IsPolygon_1_l2 k x x1 s1 b0 r0 = slices_IndexFunc_impl_Point_impl_Point_1F_impl_IsPolygon_1_l2 (k + 1) x x1 s1 b0 r0 := (slices_IndexFunc_impl_Point_impl_Point_1F_impl_IsPolygon_1_lb2.eq_1 impl_IsPolygon_1 slices_IndexFunc_impl_Point_impl_Point_1F_impl_IsPolygon_1_l2 k x x1 s1 b0 r0).trans (show slices_IndexFunc_impl_Point_impl_Point_1F_impl_IsPolygon_1_l2 (k + 1) x x1 s1 b0 r0 = _ from slices_IndexFunc_impl_Point_impl_Point_1F_impl_IsPolygon_1_l2.eq_2 _ _ _ _ _ _ ).symm
theorem slices_IndexFunc_impl_Point_impl_Point_1F_impl_IsPolygon_1_l2_rn {α : Type} (G : Nat → Int → Int → (List (Int × Int)) → (Int → Int → (List (Int × Int)) → Option α) → (Int → Option α) → Option α) (n : Nat) (x : Int) (x1 : Int) (s1 : List (Int × Int)) (brk : Nat → List P1 → Option α) (ret : Res → Option α) : slices_IndexFunc_impl_Point_impl_Point_1F_impl_IsPolygon_1_uG2 G n [.int x, .int x1, .rows .pt s1] brk ret = G n x x1 s1 (fun x x1 s1 => brk 0 [.int x, .int x1, .rows .pt s1]) (fun v1 => ret ⟨[.int .i64 v1], []⟩) := rfl
theorem slices_IndexFunc_impl_Point_impl_Point_1F_impl_IsPolygon_1_l2_ev {α : Type} (n : Nat) (x : Int) (x1 : Int) (s1 : List (Int × Int)) (brk : Nat → List P1 → Option α) (ret : Res → Option α) : ev ((slices_IndexFunc_impl_Point_impl_Point_1F_impl_IsPolygon_1_X n).env Try.prog Try.f313 2 []) (findLoop (loopsIn (Try.f313.body.getD .skip)) 2) ((slices_IndexFunc_impl_Point_impl_Point_1F_impl_IsPolygon_1_t2.build [.int x, .int x1, .rows .pt s1]).getD ⟨[], []⟩) (roundK (2 * 64) slices_IndexFunc_impl_Point_impl_Point_1F_impl_IsPolygon_1_t2 (fun q => slices_IndexFunc_impl_Point_impl_Point_1F_impl_IsPolygon_1_u2 n q brk ret) brk ret) = slices_IndexFunc_impl_Point_impl_Point_1F_impl_IsPolygon_1_u2 (n + 1) [.int x, .int x1, .rows .pt s1] brk ret := (slices_IndexFunc_impl_Point_impl_Point_1F_impl_IsPolygon_1_l2_gen impl_IsPolygon_1 slices_IndexFunc_impl_Point_impl_Point_1F_impl_IsPolygon_1_l2 n x x1 s1 brk ret).trans ((slices_IndexFunc_impl_Point_impl_Point_1F_impl_IsPolygon_1_l2_eq n x x1 s1 (fun x x1 s1 => brk 0 [.int x, .int x1, .rows .pt s1]) (fun v1 => ret ⟨[.int .i64 v1], []⟩)).trans ((slices_IndexFunc_impl_Point_impl_Point_1F_impl_IsPolygon_1_u2.eq_1 (n + 1) [.int x, .int x1, .rows .pt s1] brk ret).trans (slices_IndexFunc_impl_Point_impl_Point_1F_impl_IsPolygon_1_l2_rn slices_IndexFunc_impl_Point_impl_Point_1F_impl_IsPolygon_1_l2 (n + 1) x x1 s1 brk ret)).symm)
def slices_IndexFunc_impl_Point_impl_Point_1F_impl_IsPolygon_1_body {α : Type} (F0 : Nat → Int → Int → (Bool → Option α) → Option α) (G2 : Nat → Int → Int → (List (Int × Int)) → (Int → Int → (List (Int × Int)) → Option α) → (Int → Option α) → Option α) (k : Nat) (s : List (Int × Int)) (r0 : Int → Option α) : Option α :=
  G2 k (((List.length s) : Nat) : Int) 0 s
    (fun x2 x3 s2 =>
      r0 (-1))
    r0
theorem slices_IndexFunc_impl_Point_impl_Point_1F_impl_IsPolygon_1_gen {α : Type} (F0 : Nat → Int → Int → (Bool → Option α) → Option α) (G2 : Nat → Int → Int → (List (Int × Int)) → (Int → Int → (List (Int × Int)) → Option α) → (Int → Option α) → Option α) (n : Nat) (s : List (Int × Int)) (κ : Res → Option α) : evFn Try.prog (slices_IndexFunc_impl_Point_impl_Point_1F_impl_IsPolygon_1_XG F0 G2 n) Try.f313 (((buildDs slices_IndexFunc_impl_Point_impl_Point_1F_impl_IsPolygon_1_sh [.rows .pt s]).map Prod.fst).getD []) κ = slices_IndexFunc_impl_Point_impl_Point_1F_impl_IsPolygon_1_body F0 G2 n s (fun v1 => κ ⟨[.int .i64 v1], []⟩) := by kernel_rfl
theorem slices_IndexFunc_impl_Point_impl_Point_1F_impl_IsPolygon_1_eq {α : Type} (n : Nat) (s : List (Int × Int)) (r0 : Int → Option α) : slices_IndexFunc_impl_Point_impl_Point_1F_impl_IsPolygon_1_body impl_IsPolygon_1 slices_IndexFunc_impl_Point_impl_Point_1F_impl_IsPolygon_1_l2 n s r0 = slices_IndexFunc_impl_Point_impl_Point_1F_impl_IsPolygon_1 n s r0 := (slices_IndexFunc_impl_Point_impl_Point_1F_impl_IsPolygon_1_body.eq_1 impl_IsPolygon_1 slices_IndexFunc_impl_Point_impl_Point_1F_impl_IsPolygon_1_l2 n s r0).trans (slices_IndexFunc_impl_Point_impl_Point_1F_impl_IsPolygon_1.eq_1 n s r0).symm
theorem slices_IndexFunc_impl_Point_impl_Point_1F_impl_IsPolygon_1_rn {α : Type} (F : Nat → (List (Int × Int)) → (Int → Option α) → Option α) (n : Nat) (s : List (Int × Int)) (κ : Res → Option α) : slices_IndexFunc_impl_Point_impl_Point_1F_impl_IsPolygon_1_runG F n [.rows .pt s] κ = F n s (fun v1 => κ ⟨[.int .i64 v1], []⟩) := rfl
theorem slices_IndexFunc_impl_Point_impl_Point_1F_impl_IsPolygon_1_ev {α : Type} (n : Nat) (s : List (Int × Int)) (κ : Res → Option α) : evFn Try.prog (slices_IndexFunc_impl_Point_impl_Point_1F_impl_IsPolygon_1_X n) Try.f313 (((buildDs slices_IndexFunc_impl_Point_impl_Point_1F_impl_IsPolygon_1_sh [.rows .pt s]).map Prod.fst).getD []) κ = slices_IndexFunc_impl_Point_impl_Point_1F_impl_IsPolygon_1_run n [.rows .pt s] κ := (slices_IndexFunc_impl_Point_impl_Point_1F_impl_IsPolygon_1_gen impl_IsPolygon_1 slices_IndexFunc_impl_Point_impl_Point_1F_impl_IsPolygon_1_l2 n s κ).trans ((slices_IndexFunc_impl_Point_impl_Point_1F_impl_IsPolygon_1_eq n s (fun v1 => κ ⟨[.int .i64 v1], []⟩)).trans ((slices_IndexFunc_impl_Point_impl_Point_1F_impl_IsPolygon_1_run.eq_1 n [.rows .pt s] κ).trans (slices_IndexFunc_impl_Point_impl_Point_1F_impl_IsPolygon_1_rn slices_IndexFunc_impl_Point_impl_Point_1F_impl_IsPolygon_1 n s κ)).symm)
theorem slices_IndexFunc_impl_Point_impl_Point_1F_impl_IsPolygon_1_en (s : List (Int × Int)) : (entry 0 (((buildDs slices_IndexFunc_impl_Point_impl_Point_1F_impl_IsPolygon_1_sh [.rows .pt s]).map Prod.fst).getD [])).map (fun x => (x.1.length, x.2.lent)) = some (2, []) := by kernel_rfl
theorem slices_IndexFunc_impl_Point_impl_Point_1F_impl_IsPolygon_1_good {α : Type} : ∀ n, GoodFn (α := α) Try.prog 313 (byShape slices_IndexFunc_impl_Point_impl_Point_1F_impl_IsPolygon_1_sh (slices_IndexFunc_impl_Point_impl_Point_1F_impl_IsPolygon_1_run n)) := by
  refine fn_good' Try.func313 (c := (Try.f313.body.getD .skip)) (by kernel_rfl) (by kernel_rfl) (by kernel_rfl) slices_IndexFunc_impl_Point_impl_Point_1F_impl_IsPolygon_1_C slices_IndexFunc_impl_Point_impl_Point_1F_impl_IsPolygon_1_M eqs slices_IndexFunc_impl_Point_impl_Point_1F_impl_IsPolygon_1_lps (fun n => tabC_good (List.forall_mem_cons.2 ⟨(impl_IsPolygon_1_good n), (fun _ h => absurd h List.not_mem_nil)⟩)) eqs_ok slices_IndexFunc_impl_Point_impl_Point_1F_impl_IsPolygon_1_Lt ?_ ?_ slices_IndexFunc_impl_Point_impl_Point_1F_impl_IsPolygon_1_sh slices_IndexFunc_impl_Point_impl_Point_1F_impl_IsPolygon_1_run ?_
  · refine List.forall_mem_cons.2 ⟨?_, (fun _ h => absurd h List.not_mem_nil)⟩
    · intro p brk ret; show slices_IndexFunc_impl_Point_impl_Point_1F_impl_IsPolygon_1_u2 0 p brk ret = none; unfold slices_IndexFunc_impl_Point_impl_Point_1F_impl_IsPolygon_1_u2 slices_IndexFunc_impl_Point_impl_Point_1F_impl_IsPolygon_1_uG2; split <;> rfl
  · refine List.forall_mem_cons.2 ⟨?_, (fun _ h => absurd h List.not_mem_nil)⟩
    · intro np lent hL n p brk ret st r hb hr
      obtain ⟨rfl, rfl⟩ := hL
      rw [← tpl_of hb]
      change slices_IndexFunc_impl_Point_impl_Point_1F_impl_IsPolygon_1_u2 (n + 1) p brk ret = some r at hr
      have hr0 := hr
      unfold slices_IndexFunc_impl_Point_impl_Point_1F_impl_IsPolygon_1_u2 slices_IndexFunc_impl_Point_impl_Point_1F_impl_IsPolygon_1_uG2 at hr
      split at hr
      · exact (slices_IndexFunc_impl_Point_impl_Point_1F_impl_IsPolygon_1_l2_ev n _ _ _ brk ret).trans hr0
      · cases hr
  · intro n p κ r ds hd hr
    have hr0 := hr
    unfold slices_IndexFunc_impl_Point_impl_Point_1F_impl_IsPolygon_1_run slices_IndexFunc_impl_Point_impl_Point_1F_impl_IsPolygon_1_runG at hr
    split at hr
    · rw [← ds_of hd]
      exact ⟨en_of (slices_IndexFunc_impl_Point_impl_Point_1F_impl_IsPolygon_1_en _) ⟨rfl, rfl⟩, (slices_IndexFunc_impl_Point_impl_Point_1F_impl_IsPolygon_1_ev n _ κ).trans hr0⟩
    · cases hr

/-! slices.ContainsFunc[[]loop.example/g01297/impl.Point,loop.example/g01297/impl.Point] -/
def slices_ContainsFunc_impl_Point_impl_Point_1F_impl_IsPolygon_1_sh : List SkD := [.sl 26 .pt, .fn 277 []]
def slices_ContainsFunc_impl_Point_impl_Point_1F_impl_IsPolygon_1_runG {α : Type} (F : Nat → (List (Int × Int)) → (Bool → Option α) → Option α) (n : Nat) (p : List P1) (κ : Res → Option α) : Option α := match p with
  | [.rows .pt s] => F n s (fun v1 => κ ⟨[.bool v1], []⟩)
  | _ => none
def slices_ContainsFunc_impl_Point_impl_Point_1F_impl_IsPolygon_1_run {α : Type} (n : Nat) (p : List P1) (κ : Res → Option α) : Option α := slices_ContainsFunc_impl_Point_impl_Point_1F_impl_IsPolygon_1_runG slices_ContainsFunc_impl_Point_impl_Point_1F_impl_IsPolygon_1 n p κ
def slices_ContainsFunc_impl_Point_impl_Point_1F_impl_IsPolygon_1_CG {α : Type} (F0 : Nat → (List (Int × Int)) → (Int → Option α) → Option α) (n : Nat) : FuncId → List D → (Res → Option α) → Option α := tabC [(313, (byShape slices_IndexFunc_impl_Point_impl_Point_1F_impl_IsPolygon_1_sh (slices_IndexFunc_impl_Point_impl_Point_1F_impl_IsPolygon_1_runG F0 n)))]
def slices_ContainsFunc_impl_Point_impl_Point_1F_impl_IsPolygon_1_C {α : Type} (n : Nat) : FuncId → List D → (Res → Option α) → Option α := slices_ContainsFunc_impl_Point_impl_Point_1F_impl_IsPolygon_1_CG slices_IndexFunc_impl_Point_impl_Point_1F_impl_IsPolygon_1 n
def slices_ContainsFunc_impl_Point_impl_Point_1F_impl_IsPolygon_1_M : FuncId → List Nat := tabM []
def slices_ContainsFunc_impl_Point_impl_Point_1F_impl_IsPolygon_1_lpsG {α : Type}  : List (LoopT α) := []
def slices_ContainsFunc_impl_Point_impl_Point_1F_impl_IsPolygon_1_lps {α : Type} : List (LoopT α) := slices_ContainsFunc_impl_Point_impl_Point_1F_impl_IsPolygon_1_lpsG
def slices_ContainsFunc_impl_Point_impl_Point_1F_impl_IsPolygon_1_XG {α : Type} (F0 : Nat → (List (Int × Int)) → (Int → Option α) → Option α)  (n : Nat) : Ctx α := ⟨slices_ContainsFunc_impl_Point_impl_Point_1F_impl_IsPolygon_1_CG F0 n, slices_ContainsFunc_impl_Point_impl_Point_1F_impl_IsPolygon_1_M, eqs, lpOf (slices_ContainsFunc_impl_Point_impl_Point_1F_impl_IsPolygon_1_lpsG) n⟩
def slices_ContainsFunc_impl_Point_impl_Point_1F_impl_IsPolygon_1_X {α : Type} (n : Nat) : Ctx α := slices_ContainsFunc_impl_Point_impl_Point_1F_impl_IsPolygon_1_XG slices_IndexFunc_impl_Point_impl_Point_1F_impl_IsPolygon_1 n
def slices_ContainsFunc_impl_Point_impl_Point_1F_impl_IsPolygon_1_Lt (np : Nat) (lent : List (Bool × Nat × Blk)) : Prop := np = 2 ∧ lent = []
def slices_ContainsFunc_impl_Point_impl_Point_1F_impl_IsPolygon_1_body {α : Type} (F0 : Nat → (List (Int × Int)) → (Int → Option α) → Option α)  (k : Nat) (s : List (Int × Int)) (r0 : Bool → Option α) : Option α :=
  F0 k s fun v =>
  r0 (decide (0 ≤ v))
theorem slices_ContainsFunc_impl_Point_impl_Point_1F_impl_IsPolygon_1_gen {α : Type} (F0 : Nat → (List (Int × Int)) → (Int → Option α) → Option α)  (n : Nat) (s : List (Int × Int)) (κ : Res → Option α) : evFn Try.prog (slices_ContainsFunc_impl_Point_impl_Point_1F_impl_IsPolygon_1_XG F0 n) Try.f268 (((buildDs slices_ContainsFunc_impl_Point_impl_Point_1F_impl_IsPolygon_1_sh [.rows .pt s]).map Prod.fst).getD []) κ = slices_ContainsFunc_impl_Point_impl_Point_1F_impl_IsPolygon_1_body F0 n s (fun v1 => κ ⟨[.bool v1], []⟩) := by kernel_rfl
theorem slices_ContainsFunc_impl_Point_impl_Point_1F_impl_IsPolygon_1_eq {α : Type} (n : Nat) (s : List (Int × Int)) (r0 : Bool → Option α) : slices_ContainsFunc_impl_Point_impl_Point_1F_impl_IsPolygon_1_body slices_IndexFunc_impl_Point_impl_Point_1F_impl_IsPolygon_1 n s r0 = slices_ContainsFunc_impl_Point_impl_Point_1F_impl_IsPolygon_1 n s r0 := (slices_ContainsFunc_impl_Point_impl_Point_1F_impl_IsPolygon_1_body.eq_1 slices_IndexFunc_impl_Point_impl_Point_1F_impl_IsPolygon_1 n s r0).trans (slices_ContainsFunc_impl_Point_impl_Point_1F_impl_IsPolygon_1.eq_1 n s r0).symm
theorem slices_ContainsFunc_impl_Point_impl_Point_1F_impl_IsPolygon_1_rn {α : Type} (F : Nat → (List (Int × Int)) → (Bool → Option α) → Option α) (n : Nat) (s : List (Int × Int)) (κ : Res → Option α) : slices_ContainsFunc_impl_Point_impl_Point_1F_impl_IsPolygon_1_runG F n [.rows .pt s] κ = F n s (fun v1 => κ ⟨[.bool v1], []⟩) := rfl
theorem slices_ContainsFunc_impl_Point_impl_Point_1F_impl_IsPolygon_1_ev {α : Type} (n : Nat) (s : List (Int × Int)) (κ : Res → Option α) : evFn Try.prog (slices_ContainsFunc_impl_Point_impl_Point_1F_impl_IsPolygon_1_X n) Try.f268 (((buildDs slices_ContainsFunc_impl_Point_impl_Point_1F_impl_IsPolygon_1_sh [.rows .pt s]).map Prod.fst).getD []) κ = slices_ContainsFunc_impl_Point_impl_Point_1F_impl_IsPolygon_1_run n [.rows .pt s] κ := (slices_ContainsFunc_impl_Point_impl_Point_1F_impl_IsPolygon_1_gen slices_IndexFunc_impl_Point_impl_Point_1F_impl_IsPolygon_1 n s κ).trans ((slices_ContainsFunc_impl_Point_impl_Point_1F_impl_IsPolygon_1_eq n s (fun v1 => κ ⟨[.bool v1], []⟩)).trans ((slices_ContainsFunc_impl_Point_impl_Point_1F_impl_IsPolygon_1_run.eq_1 n [.rows .pt s] κ).trans (slices_ContainsFunc_impl_Point_impl_Point_1F_impl_IsPolygon_1_rn slices_ContainsFunc_impl_Point_impl_Point_1F_impl_IsPolygon_1 n s κ)).symm)
theorem slices_ContainsFunc_impl_Point_impl_Point_1F_impl_IsPolygon_1_en (s : List (Int × Int)) : (entry 0 (((buildDs slices_ContainsFunc_impl_Point_impl_Point_1F_impl_IsPolygon_1_sh [.rows .pt s]).map Prod.fst).getD [])).map (fun x => (x.1.length, x.2.lent)) = some (2, []) := by kernel_rfl
theorem slices_ContainsFunc_impl_Point_impl_Point_1F_impl_IsPolygon_1_good {α : Type} : ∀ n, GoodFn (α := α) Try.prog 268 (byShape slices_ContainsFunc_impl_Point_impl_Point_1F_impl_IsPolygon_1_sh (slices_ContainsFunc_impl_Point_impl_Point_1F_impl_IsPolygon_1_run n)) := by
  refine fn_good' Try.func268 (c := (Try.f268.body.getD .skip)) (by kernel_rfl) (by kernel_rfl) (by kernel_rfl) slices_ContainsFunc_impl_Point_impl_Point_1F_impl_IsPolygon_1_C slices_ContainsFunc_impl_Point_impl_Point_1F_impl_IsPolygon_1_M eqs slices_ContainsFunc_impl_Point_impl_Point_1F_impl_IsPolygon_1_lps (fun n => tabC_good (List.forall_mem_cons.2 ⟨(slices_IndexFunc_impl_Point_impl_Point_1F_impl_IsPolygon_1_good n), (fun _ h => absurd h List.not_mem_nil)⟩)) eqs_ok slices_ContainsFunc_impl_Point_impl_Point_1F_impl_IsPolygon_1_Lt ?_ ?_ slices_ContainsFunc_impl_Point_impl_Point_1F_impl_IsPolygon_1_sh slices_ContainsFunc_impl_Point_impl_Point_1F_impl_IsPolygon_1_run ?_
  · exact (fun _ h => absurd h List.not_mem_nil)
  · exact (fun _ h => absurd h List.not_mem_nil)
  · intro n p κ r ds hd hr
    have hr0 := hr
    unfold slices_ContainsFunc_impl_Point_impl_Point_1F_impl_IsPolygon_1_run slices_ContainsFunc_impl_Point_impl_Point_1F_impl_IsPolygon_1_runG at hr
    split at hr
    · rw [← ds_of hd]
      exact ⟨en_of (slices_ContainsFunc_impl_Point_impl_Point_1F_impl_IsPolygon_1_en _) ⟨rfl, rfl⟩, (slices_ContainsFunc_impl_Point_impl_Point_1F_impl_IsPolygon_1_ev n _ κ).trans hr0⟩
    · cases hr

/-! (loop.example/g01297/impl.polygon).next -/
def impl_polygon_next_sh : List SkD := [.sl 26 .pt, .int .i64]
def impl_polygon_next_runG {α : Type} (F : Nat → (List (Int × Int)) → Int → (Int → Int → Option α) → Option α) (n : Nat) (p : List P1) (κ : Res → Option α) : Option α := match p with
  | [.rows .pt p_, .int i] => F n p_ i (fun v1 v2 => κ ⟨[.agg [.int .i64 v1, .int .i64 v2]], []⟩)
  | _ => none
def impl_polygon_next_run {α : Type} (n : Nat) (p : List P1) (κ : Res → Option α) : Option α := impl_polygon_next_runG impl_polygon_next n p κ
def impl_polygon_next_CG {α : Type}  (n : Nat) : FuncId → List D → (Res → Option α) → Option α := tabC []
def impl_polygon_next_C {α : Type} (n : Nat) : FuncId → List D → (Res → Option α) → Option α := impl_polygon_next_CG n
def impl_polygon_next_M : FuncId → List Nat := tabM []
def impl_polygon_next_lpsG {α : Type}  : List (LoopT α) := []
def impl_polygon_next_lps {α : Type} : List (LoopT α) := impl_polygon_next_lpsG
def impl_polygon_next_XG {α : Type}   (n : Nat) : Ctx α := ⟨impl_polygon_next_CG n, impl_polygon_next_M, eqs, lpOf (impl_polygon_next_lpsG) n⟩
def impl_polygon_next_X {α : Type} (n : Nat) : Ctx α := impl_polygon_next_XG n
def impl_polygon_next_Lt (np : Nat) (lent : List (Bool × Nat × Blk)) : Prop := np = 2 ∧ lent = []
def impl_polygon_next_body {α : Type}   (k : Nat) (p_ : List (Int × Int)) (i : Int) (r0 : Int → Int → Option α) : Option α :=
  bif decide ((((List.length p_) : Nat) : Int) = 0) then
    none
  else
  bif (decide (0 ≤ (Int.tmod (w64 (i + 1)) (((List.length p_) : Nat) : Int))) && decide ((Int.tmod (w64 (i + 1)) (((List.length p_) : Nat) : Int)) < (((List.length p_) : Nat) : Int))) then
    (p_[(Int.tmod (w64 (i + 1)) (((List.length p_) : Nat) : Int)).toNat]?).bind fun e_ =>
    r0 e_.1 e_.2
  else
    none
theorem impl_polygon_next_gen {α : Type}   (n : Nat) (p_ : List (Int × Int)) (i : Int) (κ : Res → Option α) : evFn Try.prog (impl_polygon_next_XG n) Try.f186 (((buildDs impl_polygon_next_sh [.rows .pt p_, .int i]).map Prod.fst).getD []) κ = impl_polygon_next_body n p_ i (fun v1 v2 => κ ⟨[.agg [.int .i64 v1, .int .i64 v2]], []⟩) := by kernel_rfl
theorem impl_polygon_next_eq {α : Type} (n : Nat) (p_ : List (Int × Int)) (i : Int) (r0 : Int → Int → Option α) : impl_polygon_next_body n p_ i r0 = impl_polygon_next n p_ i r0 := (impl_polygon_next_body.eq_1 n p_ i r0).trans (impl_polygon_next.eq_1 n p_ i r0).symm
theorem impl_polygon_next_rn {α : Type} (F : Nat → (List (Int × Int)) → Int → (Int → Int → Option α) → Option α) (n : Nat) (p_ : List (Int × Int)) (i : Int) (κ : Res → Option α) : impl_polygon_next_runG F n [.rows .pt p_, .int i] κ = F n p_ i (fun v1 v2 => κ ⟨[.agg [.int .i64 v1, .int .i64 v2]], []⟩) := rfl
theorem impl_polygon_next_ev {α : Type} (n : Nat) (p_ : List (Int × Int)) (i : Int) (κ : Res → Option α) : evFn Try.prog (impl_polygon_next_X n) Try.f186 (((buildDs impl_polygon_next_sh [.rows .pt p_, .int i]).map Prod.fst).getD []) κ = impl_polygon_next_run n [.rows .pt p_, .int i] κ := (impl_polygon_next_gen n p_ i κ).trans ((impl_polygon_next_eq n p_ i (fun v1 v2 => κ ⟨[.agg [.int .i64 v1, .int .i64 v2]], []⟩)).trans ((impl_polygon_next_run.eq_1 n [.rows .pt p_, .int i] κ).trans (impl_polygon_next_rn impl_polygon_next n p_ i κ)).symm)
theorem impl_polygon_next_en (p_ : List (Int × Int)) (i : Int) : (entry 0 (((buildDs impl_polygon_next_sh [.rows .pt p_, .int i]).map Prod.fst).getD [])).map (fun x => (x.1.length, x.2.lent)) = some (2, []) := by kernel_rfl
theorem impl_polygon_next_good {α : Type} : ∀ n, GoodFn (α := α) Try.prog 186 (byShape impl_polygon_next_sh (impl_polygon_next_run n)) := by
  refine fn_good' Try.func186 (c := (Try.f186.body.getD .skip)) (by kernel_rfl) (by kernel_rfl) (by kernel_rfl) impl_polygon_next_C impl_polygon_next_M eqs impl_polygon_next_lps (fun n => tabC_good (fun _ h => absurd h List.not_mem_nil)) eqs_ok impl_polygon_next_Lt ?_ ?_ impl_polygon_next_sh impl_polygon_next_run ?_
  · exact (fun _ h => absurd h List.not_mem_nil)
  · exact (fun _ h => absurd h List.not_mem_nil)
  · intro n p κ r ds hd hr
    have hr0 := hr
    unfold impl_polygon_next_run impl_polygon_next_runG at hr
    split at hr
    · rw [← ds_of hd]
      exact ⟨en_of (impl_polygon_next_en _ _) ⟨rfl, rfl⟩, (impl_polygon_next_ev n _ _ κ).trans hr0⟩
    · cases hr

/-! (loop.example/g01297/impl.Point).plus -/
def impl_Point_plus_sh : List SkD := [.agg [.int .i64, .int .i64], .agg [.int .i64, .int .i64], .int .i64]
def impl_Point_plus_runG {α : Type} (F : Nat → Int → Int → Int → Int → Int → (Int → Int → Option α) → Option α) (n : Nat) (p : List P1) (κ : Res → Option α) : Option α := match p with
  | [.int a, .int a1, .int b_, .int b_1, .int k_] => F n a a1 b_ b_1 k_ (fun v1 v2 => κ ⟨[.agg [.int .i64 v1, .int .i64 v2]], []⟩)
  | _ => none
def impl_Point_plus_run {α : Type} (n : Nat) (p : List P1) (κ : Res → Option α) : Option α := impl_Point_plus_runG impl_Point_plus n p κ
def impl_Point_plus_CG {α : Type}  (n : Nat) : FuncId → List D → (Res → Option α) → Option α := tabC []
def impl_Point_plus_C {α : Type} (n : Nat) : FuncId → List D → (Res → Option α) → Option α := impl_Point_plus_CG n
def impl_Point_plus_M : FuncId → List Nat := tabM []
def impl_Point_plus_lpsG {α : Type}  : List (LoopT α) := []
def impl_Point_plus_lps {α : Type} : List (LoopT α) := impl_Point_plus_lpsG
def impl_Point_plus_XG {α : Type}   (n : Nat) : Ctx α := ⟨impl_Point_plus_CG n, impl_Point_plus_M, eqs, lpOf (impl_Point_plus_lpsG) n⟩
def impl_Point_plus_X {α : Type} (n : Nat) : Ctx α := impl_Point_plus_XG n
def impl_Point_plus_Lt (np : Nat) (lent : List (Bool × Nat × Blk)) : Prop := np = 3 ∧ lent = []
def impl_Point_plus_body {α : Type}   (k : Nat) (a : Int) (a1 : Int) (b_ : Int) (b_1 : Int) (k_ : Int) (r0 : Int → Int → Option α) : Option α :=
  r0 (w64 (a + (w64 (k_ * b_)))) (w64 (a1 + (w64 (k_ * b_1))))
theorem impl_Point_plus_gen {α : Type}   (n : Nat) (a : Int) (a1 : Int) (b_ : Int) (b_1 : Int) (k_ : Int) (κ : Res → Option α) : evFn Try.prog (impl_Point_plus_XG n) Try.f155 (((buildDs impl_Point_plus_sh [.int a, .int a1, .int b_, .int b_1, .int k_]).map Prod.fst).getD []) κ = impl_Point_plus_body n a a1 b_ b_1 k_ (fun v1 v2 => κ ⟨[.agg [.int .i64 v1, .int .i64 v2]], []⟩) := by kernel_rfl
theorem impl_Point_plus_eq {α : Type} (n : Nat) (a : Int) (a1 : Int) (b_ : Int) (b_1 : Int) (k_ : Int) (r0 : Int → Int → Option α) : impl_Point_plus_body n a a1 b_ b_1 k_ r0 = impl_Point_plus n a a1 b_ b_1 k_ r0 := (impl_Point_plus_body.eq_1 n a a1 b_ b_1 k_ r0).trans (impl_Point_plus.eq_1 n a a1 b_ b_1 k_ r0).symm
theorem impl_Point_plus_rn {α : Type} (F : Nat → Int → Int → Int → Int → Int → (Int → Int → Option α) → Option α) (n : Nat) (a : Int) (a1 : Int) (b_ : Int) (b_1 : Int) (k_ : Int) (κ : Res → Option α) : impl_Point_plus_runG F n [.int a, .int a1, .int b_, .int b_1, .int k_] κ = F n a a1 b_ b_1 k_ (fun v1 v2 => κ ⟨[.agg [.int .i64 v1, .int .i64 v2]], []⟩) := rfl
theorem impl_Point_plus_ev {α : Type} (n : Nat) (a : Int) (a1 : Int) (b_ : Int) (b_1 : Int) (k_ : Int) (κ : Res → Option α) : evFn Try.prog (impl_Point_plus_X n) Try.f155 (((buildDs impl_Point_plus_sh [.int a, .int a1, .int b_, .int b_1, .int k_]).map Prod.fst).getD []) κ = impl_Point_plus_run n [.int a, .int a1, .int b_, .int b_1, .int k_] κ := (impl_Point_plus_gen n a a1 b_ b_1 k_ κ).trans ((impl_Point_plus_eq n a a1 b_ b_1 k_ (fun v1 v2 => κ ⟨[.agg [.int .i64 v1, .int .i64 v2]], []⟩)).trans ((impl_Point_plus_run.eq_1 n [.int a, .int a1, .int b_, .int b_1, .int k_] κ).trans (impl_Point_plus_rn impl_Point_plus n a a1 b_ b_1 k_ κ)).symm)
theorem impl_Point_plus_en (a : Int) (a1 : Int) (b_ : Int) (b_1 : Int) (k_ : Int) : (entry 0 (((buildDs impl_Point_plus_sh [.int a, .int a1, .int b_, .int b_1, .int k_]).map Prod.fst).getD [])).map (fun x => (x.1.length, x.2.lent)) = some (3, []) := by kernel_rfl
theorem impl_Point_plus_good {α : Type} : ∀ n, GoodFn (α := α) Try.prog 155 (byShape impl_Point_plus_sh (impl_Point_plus_run n)) := by
  refine fn_good' Try.func155 (c := (Try.f155.body.getD .skip)) (by kernel_rfl) (by kernel_rfl) (by kernel_rfl) impl_Point_plus_C impl_Point_plus_M eqs impl_Point_plus_lps (fun n => tabC_good (fun _ h => absurd h List.not_mem_nil)) eqs_ok impl_Point_plus_Lt ?_ ?_ impl_Point_plus_sh impl_Point_plus_run ?_
  · exact (fun _ h => absurd h List.not_mem_nil)
  · exact (fun _ h => absurd h List.not_mem_nil)
  · intro n p κ r ds hd hr
    have hr0 := hr
    unfold impl_Point_plus_run impl_Point_plus_runG at hr
    split at hr
    · rw [← ds_of hd]
      exact ⟨en_of (impl_Point_plus_en _ _ _ _ _) ⟨rfl, rfl⟩, (impl_Point_plus_ev n _ _ _ _ _ κ).trans hr0⟩
    · cases hr

/-! (loop.example/g01297/impl.Point).less -/
def impl_Point_less_sh : List SkD := [.agg [.int .i64, .int .i64], .agg [.int .i64, .int .i64]]
def impl_Point_less_runG {α : Type} (F : Nat → Int → Int → Int → Int → (Int → Int → Option α) → Option α) (n : Nat) (p : List P1) (κ : Res → Option α) : Option α := match p with
  | [.int a, .int a1, .int b_, .int b_1] => F n a a1 b_ b_1 (fun v1 v2 => κ ⟨[.agg [.int .i64 v1, .int .i64 v2]], []⟩)
  | _ => none
def impl_Point_less_run {α : Type} (n : Nat) (p : List P1) (κ : Res → Option α) : Option α := impl_Point_less_runG impl_Point_less n p κ
def impl_Point_less_CG {α : Type} (F0 : Nat → Int → Int → Int → Int → Int → (Int → Int → Option α) → Option α) (n : Nat) : FuncId → List D → (Res → Option α) → Option α := tabC [(155, (byShape impl_Point_plus_sh (impl_Point_plus_runG F0 n)))]
def impl_Point_less_C {α : Type} (n : Nat) : FuncId → List D → (Res → Option α) → Option α := impl_Point_less_CG impl_Point_plus n
def impl_Point_less_M : FuncId → List Nat := tabM []
def impl_Point_less_lpsG {α : Type}  : List (LoopT α) := []
def impl_Point_less_lps {α : Type} : List (LoopT α) := impl_Point_less_lpsG
def impl_Point_less_XG {α : Type} (F0 : Nat → Int → Int → Int → Int → Int → (Int → Int → Option α) → Option α)  (n : Nat) : Ctx α := ⟨impl_Point_less_CG F0 n, impl_Point_less_M, eqs, lpOf (impl_Point_less_lpsG) n⟩
def impl_Point_less_X {α : Type} (n : Nat) : Ctx α := impl_Point_less_XG impl_Point_plus n
def impl_Point_less_Lt (np : Nat) (lent : List (Bool × Nat × Blk)) : Prop := np = 2 ∧ lent = []
def impl_Point_less_body {α : Type} (F0 : Nat → Int → Int → Int → Int → Int → (Int → Int → Option α) → Option α)  (k : Nat) (a : Int) (a1 : Int) (b_ : Int) (b_1 : Int) (r0 : Int → Int → Option α) : Option α :=
  F0 k a a1 b_ b_1 (-1) fun v v1 =>
  r0 v v1
theorem impl_Point_less_gen {α : Type} (F0 : Nat → Int → Int → Int → Int → Int → (Int → Int → Option α) → Option α)  (n : Nat) (a : Int) (a1 : Int) (b_ : Int) (b_1 : Int) (κ : Res → Option α) : evFn Try.prog (impl_Point_less_XG F0 n) Try.f233 (((buildDs impl_Point_less_sh [.int a, .int a1, .int b_, .int b_1]).map Prod.fst).getD []) κ = impl_Point_less_body F0 n a a1 b_ b_1 (fun v1 v2 => κ ⟨[.agg [.int .i64 v1, .int .i64 v2]], []⟩) := by kernel_rfl
theorem impl_Point_less_eq {α : Type} (n : Nat) (a : Int) (a1 : Int) (b_ : Int) (b_1 : Int) (r0 : Int → Int → Option α) : impl_Point_less_body impl_Point_plus n a a1 b_ b_1 r0 = impl_Point_less n a a1 b_ b_1 r0 := (impl_Point_less_body.eq_1 impl_Point_plus n a a1 b_ b_1 r0).trans (impl_Point_less.eq_1 n a a1 b_ b_1 r0).symm
theorem impl_Point_less_rn {α : Type} (F : Nat → Int → Int → Int → Int → (Int → Int → Option α) → Option α) (n : Nat) (a : Int) (a1 : Int) (b_ : Int) (b_1 : Int) (κ : Res → Option α) : impl_Point_less_runG F n [.int a, .int a1, .int b_, .int b_1] κ = F n a a1 b_ b_1 (fun v1 v2 => κ ⟨[.agg [.int .i64 v1, .int .i64 v2]], []⟩) := rfl
theorem impl_Point_less_ev {α : Type} (n : Nat) (a : Int) (a1 : Int) (b_ : Int) (b_1 : Int) (κ : Res → Option α) : evFn Try.prog (impl_Point_less_X n) Try.f233 (((buildDs impl_Point_less_sh [.int a, .int a1, .int b_, .int b_1]).map Prod.fst).getD []) κ = impl_Point_less_run n [.int a, .int a1, .int b_, .int b_1] κ := (impl_Point_less_gen impl_Point_plus n a a1 b_ b_1 κ).trans ((impl_Point_less_eq n a a1 b_ b_1 (fun v1 v2 => κ ⟨[.agg [.int .i64 v1, .int .i64 v2]], []⟩)).trans ((impl_Point_less_run.eq_1 n [.int a, .int a1, .int b_, .int b_1] κ).trans (impl_Point_less_rn impl_Point_less n a a1 b_ b_1 κ)).symm)
theorem impl_Point_less_en (a : Int) (a1 : Int) (b_ : Int) (b_1 : Int) : (entry 0 (((buildDs impl_Point_less_sh [.int a, .int a1, .int b_, .int b_1]).map Prod.fst).getD [])).map (fun x => (x.1.length, x.2.lent)) = some (2, []) := by kernel_rfl
theorem impl_Point_less_good {α : Type} : ∀ n, GoodFn (α := α) Try.prog 233 (byShape impl_Point_less_sh (impl_Point_less_run n)) := by
  refine fn_good' Try.func233 (c := (Try.f233.body.getD .skip)) (by kernel_rfl) (by kernel_rfl) (by kernel_rfl) impl_Point_less_C impl_Point_less_M eqs impl_Point_less_lps (fun n => tabC_good (List.forall_mem_cons.2 ⟨(impl_Point_plus_good n), (fun _ h => absurd h List.not_mem_nil)⟩)) eqs_ok impl_Point_less_Lt ?_ ?_ impl_Point_less_sh impl_Point_less_run ?_
  · exact (fun _ h => absurd h List.not_mem_nil)
  · exact (fun _ h => absurd h List.not_mem_nil)
  · intro n p κ r ds hd hr
    have hr0 := hr
    unfold impl_Point_less_run impl_Point_less_runG at hr
    split at hr
    · rw [← ds_of hd]
      exact ⟨en_of (impl_Point_less_en _ _ _ _) ⟨rfl, rfl⟩, (impl_Point_less_ev n _ _ _ _ κ).trans hr0⟩
    · cases hr

/-! loop.example/g01297/impl.det -/
def impl_det_sh : List SkD := [.agg [.int .i64, .int .i64], .agg [.int .i64, .int .i64]]
def impl_det_runG {α : Type} (F : Nat → Int → Int → Int → Int → (Int → Option α) → Option α) (n : Nat) (p : List P1) (κ : Res → Option α) : Option α := match p with
  | [.int a, .int a1, .int b_, .int b_1] => F n a a1 b_ b_1 (fun v1 => κ ⟨[.int .i64 v1], []⟩)
  | _ => none
def impl_det_run {α : Type} (n : Nat) (p : List P1) (κ : Res → Option α) : Option α := impl_det_runG impl_det n p κ
def impl_det_CG {α : Type}  (n : Nat) : FuncId → List D → (Res → Option α) → Option α := tabC []
def impl_det_C {α : Type} (n : Nat) : FuncId → List D → (Res → Option α) → Option α := impl_det_CG n
def impl_det_M : FuncId → List Nat := tabM []
def impl_det_lpsG {α : Type}  : List (LoopT α) := []
def impl_det_lps {α : Type} : List (LoopT α) := impl_det_lpsG
def impl_det_XG {α : Type}   (n : Nat) : Ctx α := ⟨impl_det_CG n, impl_det_M, eqs, lpOf (impl_det_lpsG) n⟩
def impl_det_X {α : Type} (n : Nat) : Ctx α := impl_det_XG n
def impl_det_Lt (np : Nat) (lent : List (Bool × Nat × Blk)) : Prop := np = 2 ∧ lent = []
def impl_det_body {α : Type}   (k : Nat) (a : Int) (a1 : Int) (b_ : Int) (b_1 : Int) (r0 : Int → Option α) : Option α :=
  r0 (w64 ((w64 (a * b_1)) - (w64 (a1 * b_))))
theorem impl_det_gen {α : Type}   (n : Nat) (a : Int) (a1 : Int) (b_ : Int) (b_1 : Int) (κ : Res → Option α) : evFn Try.prog (impl_det_XG n) Try.f167 (((buildDs impl_det_sh [.int a, .int a1, .int b_, .int b_1]).map Prod.fst).getD []) κ = impl_det_body n a a1 b_ b_1 (fun v1 => κ ⟨[.int .i64 v1], []⟩) := by kernel_rfl
theorem impl_det_eq {α : Type} (n : Nat) (a : Int) (a1 : Int) (b_ : Int) (b_1 : Int) (r0 : Int → Option α) : impl_det_body n a a1 b_ b_1 r0 = impl_det n a a1 b_ b_1 r0 := (impl_det_body.eq_1 n a a1 b_ b_1 r0).trans (impl_det.eq_1 n a a1 b_ b_1 r0).symm
theorem impl_det_rn {α : Type} (F : Nat → Int → Int → Int → Int → (Int → Option α) → Option α) (n : Nat) (a : Int) (a1 : Int) (b_ : Int) (b_1 : Int) (κ : Res → Option α) : impl_det_runG F n [.int a, .int a1, .int b_, .int b_1] κ = F n a a1 b_ b_1 (fun v1 => κ ⟨[.int .i64 v1], []⟩) := rfl
theorem impl_det_ev {α : Type} (n : Nat) (a : Int) (a1 : Int) (b_ : Int) (b_1 : Int) (κ : Res → Option α) : evFn Try.prog (impl_det_X n) Try.f167 (((buildDs impl_det_sh [.int a, .int a1, .int b_, .int b_1]).map Prod.fst).getD []) κ = impl_det_run n [.int a, .int a1, .int b_, .int b_1] κ := (impl_det_gen n a a1 b_ b_1 κ).trans ((impl_det_eq n a a1 b_ b_1 (fun v1 => κ ⟨[.int .i64 v1], []⟩)).trans ((impl_det_run.eq_1 n [.int a, .int a1, .int b_, .int b_1] κ).trans (impl_det_rn impl_det n a a1 b_ b_1 κ)).symm)
theorem impl_det_en (a : Int) (a1 : Int) (b_ : Int) (b_1 : Int) : (entry 0 (((buildDs impl_det_sh [.int a, .int a1, .int b_, .int b_1]).map Prod.fst).getD [])).map (fun x => (x.1.length, x.2.lent)) = some (2, []) := by kernel_rfl
theorem impl_det_good {α : Type} : ∀ n, GoodFn (α := α) Try.prog 167 (byShape impl_det_sh (impl_det_run n)) := by
  refine fn_good' Try.func167 (c := (Try.f167.body.getD .skip)) (by kernel_rfl) (by kernel_rfl) (by kernel_rfl) impl_det_C impl_det_M eqs impl_det_lps (fun n => tabC_good (fun _ h => absurd h List.not_mem_nil)) eqs_ok impl_det_Lt ?_ ?_ impl_det_sh impl_det_run ?_
  · exact (fun _ h => absurd h List.not_mem_nil)
  · exact (fun _ h => absurd h List.not_mem_nil)
  · intro n p κ r ds hd hr
    have hr0 := hr
    unfold impl_det_run impl_det_runG at hr
    split at hr
    · rw [← ds_of hd]
      exact ⟨en_of (impl_det_en _ _ _ _) ⟨rfl, rfl⟩, (impl_det_ev n _ _ _ _ κ).trans hr0⟩
    · cases hr

/-! loop.example/g01297/impl.turn -/
def impl_turn_sh : List SkD := [.agg [.int .i64, .int .i64], .agg [.int .i64, .int .i64], .agg [.int .i64, .int .i64]]
def impl_turn_runG {α : Type} (F : Nat → Int → Int → Int → Int → Int → Int → (Int → Option α) → Option α) (n : Nat) (p : List P1) (κ : Res → Option α) : Option α := match p with
  | [.int a, .int a1, .int b_, .int b_1, .int c, .int c1] => F n a a1 b_ b_1 c c1 (fun v1 => κ ⟨[.int .i64 v1], []⟩)
  | _ => none
def impl_turn_run {α : Type} (n : Nat) (p : List P1) (κ : Res → Option α) : Option α := impl_turn_runG impl_turn n p κ
def impl_turn_CG {α : Type} (F0 : Nat → Int → Int → Int → Int → (Int → Int → Option α) → Option α) (F1 : Nat → Int → Int → Int → Int → (Int → Option α) → Option α) (n : Nat) : FuncId → List D → (Res → Option α) → Option α := tabC [(233, (byShape impl_Point_less_sh (impl_Point_less_runG F0 n))), (167, (byShape impl_det_sh (impl_det_runG F1 n)))]
def impl_turn_C {α : Type} (n : Nat) : FuncId → List D → (Res → Option α) → Option α := impl_turn_CG impl_Point_less impl_det n
def impl_turn_M : FuncId → List Nat := tabM []
def impl_turn_lpsG {α : Type}  : List (LoopT α) := []
def impl_turn_lps {α : Type} : List (LoopT α) := impl_turn_lpsG
def impl_turn_XG {α : Type} (F0 : Nat → Int → Int → Int → Int → (Int → Int → Option α) → Option α) (F1 : Nat → Int → Int → Int → Int → (Int → Option α) → Option α)  (n : Nat) : Ctx α := ⟨impl_turn_CG F0 F1 n, impl_turn_M, eqs, lpOf (impl_turn_lpsG) n⟩
def impl_turn_X {α : Type} (n : Nat) : Ctx α := impl_turn_XG impl_Point_less impl_det n
def impl_turn_Lt (np : Nat) (lent : List (Bool × Nat × Blk)) : Prop := np = 3 ∧ lent = []
def impl_turn_body {α : Type} (F0 : Nat → Int → Int → Int → Int → (Int → Int → Option α) → Option α) (F1 : Nat → Int → Int → Int → Int → (Int → Option α) → Option α)  (k : Nat) (a : Int) (a1 : Int) (b_ : Int) (b_1 : Int) (c : Int) (c1 : Int) (r0 : Int → Option α) : Option α :=
  F0 k b_ b_1 a a1 fun v v1 =>
  F0 k c c1 b_ b_1 fun v2 v3 =>
  F1 k v v1 v2 v3 fun v4 =>
  r0 v4
theorem impl_turn_gen {α : Type} (F0 : Nat → Int → Int → Int → Int → (Int → Int → Option α) → Option α) (F1 : Nat → Int → Int → Int → Int → (Int → Option α) → Option α)  (n : Nat) (a : Int) (a1 : Int) (b_ : Int) (b_1 : Int) (c : Int) (c1 : Int) (κ : Res → Option α) : evFn Try.prog (impl_turn_XG F0 F1 n) Try.f287 (((buildDs impl_turn_sh [.int a, .int a1, .int b_, .int b_1, .int c, .int c1]).map Prod.fst).getD []) κ = impl_turn_body F0 F1 n a a1 b_ b_1 c c1 (fun v1 => κ ⟨[.int .i64 v1], []⟩) := by kernel_rfl
theorem impl_turn_eq {α : Type} (n : Nat) (a : Int) (a1 : Int) (b_ : Int) (b_1 : Int) (c : Int) (c1 : Int) (r0 : Int → Option α) : impl_turn_body impl_Point_less impl_det n a a1 b_ b_1 c c1 r0 = impl_turn n a a1 b_ b_1 c c1 r0 := (impl_turn_body.eq_1 impl_Point_less impl_det n a a1 b_ b_1 c c1 r0).trans (impl_turn.eq_1 n a a1 b_ b_1 c c1 r0).symm
theorem impl_turn_rn {α : Type} (F : Nat → Int → Int → Int → Int → Int → Int → (Int → Option α) → Option α) (n : Nat) (a : Int) (a1 : Int) (b_ : Int) (b_1 : Int) (c : Int) (c1 : Int) (κ : Res → Option α) : impl_turn_runG F n [.int a, .int a1, .int b_, .int b_1, .int c, .int c1] κ = F n a a1 b_ b_1 c c1 (fun v1 => κ ⟨[.int .i64 v1], []⟩) := rfl
theorem impl_turn_ev {α : Type} (n : Nat) (a : Int) (a1 : Int) (b_ : Int) (b_1 : Int) (c : Int) (c1 : Int) (κ : Res → Option α) : evFn Try.prog (impl_turn_X n) Try.f287 (((buildDs impl_turn_sh [.int a, .int a1, .int b_, .int b_1, .int c, .int c1]).map Prod.fst).getD []) κ = impl_turn_run n [.int a, .int a1, .int b_, .int b_1, .int c, .int c1] κ := (impl_turn_gen impl_Point_less impl_det n a a1 b_ b_1 c c1 κ).trans ((impl_turn_eq n a a1 b_ b_1 c c1 (fun v1 => κ ⟨[.int .i64 v1], []⟩)).trans ((impl_turn_run.eq_1 n [.int a, .int a1, .int b_, .int b_1, .int c, .int c1] κ).trans (impl_turn_rn impl_turn n a a1 b_ b_1 c c1 κ)).symm)
theorem impl_turn_en (a : Int) (a1 : Int) (b_ : Int) (b_1 : Int) (c : Int) (c1 : Int) : (entry 0 (((buildDs impl_turn_sh [.int a, .int a1, .int b_, .int b_1, .int c, .int c1]).map Prod.fst).getD [])).map (fun x => (x.1.length, x.2.lent)) = some (3, []) := by kernel_rfl
theorem impl_turn_good {α : Type} : ∀ n, GoodFn (α := α) Try.prog 287 (byShape impl_turn_sh (impl_turn_run n)) := by
  refine fn_good' Try.func287 (c := (Try.f287.body.getD .skip)) (by kernel_rfl) (by kernel_rfl) (by kernel_rfl) impl_turn_C impl_turn_M eqs impl_turn_lps (fun n => tabC_good (List.forall_mem_cons.2 ⟨(impl_Point_less_good n), (List.forall_mem_cons.2 ⟨(impl_det_good n), (fun _ h => absurd h List.not_mem_nil)⟩)⟩)) eqs_ok impl_turn_Lt ?_ ?_ impl_turn_sh impl_turn_run ?_
  · exact (fun _ h => absurd h List.not_mem_nil)
  · exact (fun _ h => absurd h List.not_mem_nil)
  · intro n p κ r ds hd hr
    have hr0 := hr
    unfold impl_turn_run impl_turn_runG at hr
    split at hr
    · rw [← ds_of hd]
      exact ⟨en_of (impl_turn_en _ _ _ _ _ _) ⟨rfl, rfl⟩, (impl_turn_ev n _ _ _ _ _ _ κ).trans hr0⟩
    · cases hr

/-! (loop.example/g01297/impl.polygon).convex -/
def impl_polygon_convex_sh : List SkD := [.sl 26 .pt]
def impl_polygon_convex_runG {α : Type} (F : Nat → (List (Int × Int)) → (Bool → Option α) → Option α) (n : Nat) (p : List P1) (κ : Res → Option α) : Option α := match p with
  | [.rows .pt p_] => F n p_ (fun v1 => κ ⟨[.bool v1], []⟩)
  | _ => none
def impl_polygon_convex_run {α : Type} (n : Nat) (p : List P1) (κ : Res → Option α) : Option α := impl_polygon_convex_runG impl_polygon_convex n p κ
def impl_polygon_convex_CG {α : Type} (F0 : Nat → (List (Int × Int)) → Int → (Int → Int → Option α) → Option α) (F1 : Nat → Int → Int → Int → Int → Int → Int → (Int → Option α) → Option α) (n : Nat) : FuncId → List D → (Res → Option α) → Option α := tabC [(186, (byShape impl_polygon_next_sh (impl_polygon_next_runG F0 n))), (287, (byShape impl_turn_sh (impl_turn_runG F1 n)))]
def impl_polygon_convex_C {α : Type} (n : Nat) : FuncId → List D → (Res → Option α) → Option α := impl_polygon_convex_CG impl_polygon_next impl_turn n
def impl_polygon_convex_M : FuncId → List Nat := tabM []
def impl_polygon_convex_t6 : Tpl := ⟨[.sl 0, .any, .any, .int .i64, .ptr 256 0 0, .ptr 320 0 0, .any, .any, .sl 0, .int .i64, .int .i64, .any, .any, .any, .any, .any, .any, .any, .sl 0, .int .i64, .int .i64, .any, .any, .any, .any, .any, .any, .any, .any, .any, .any, .any, .any, .any, .any, .any, .any, .any, .any, .any, .any, .any, .any, .any, .any, .any], [(0, .rows 0 26 .pt), (256, .ints 2 26 .i64 2), (320, .ints 2 26 .i64 2)], []⟩
def impl_polygon_convex_uG6 {α : Type} (G : Nat → Int → Int → Int → Int → Int → (List (Int × Int)) → Int → Int → Int → Int → (Int → Int → Int → Int → Int → (List (Int × Int)) → Int → Int → Int → Int → Option α) → (Bool → Option α) → Option α) (n : Nat) (p : List P1) (brk : Nat → List P1 → Option α) (ret : Res → Option α) : Option α := match p with
  | [.int i, .int x2, .int x3, .int x4, .int x5, .rows .pt p_2, .int a, .int a1, .int b_, .int b_1] => G n i x2 x3 x4 x5 p_2 a a1 b_ b_1 (fun i x2 x3 x4 x5 p_2 a a1 b_ b_1 => brk 2 [.int i, .int x2, .int x3, .int x4, .int x5, .rows .pt p_2, .int a, .int a1, .int b_, .int b_1]) (fun v1 => ret ⟨[.bool v1], []⟩)
  | _ => none
def impl_polygon_convex_u6 {α : Type} (n : Nat) (p : List P1) (brk : Nat → List P1 → Option α) (ret : Res → Option α) : Option α := impl_polygon_convex_uG6 impl_polygon_convex_l6 n p brk ret
def impl_polygon_convex_t2 : Tpl := ⟨[.sl 0, .any, .any, .any, .any, .any, .any, .any, .sl 0, .int .i64, .int .i64, .any, .any, .any, .any, .any, .any, .any, .any, .any, .any, .any, .any, .any, .any, .any, .any, .any, .any, .any, .any, .any, .any, .any, .any, .any, .any, .any, .any, .any, .any, .any, .any, .any, .any, .any], [(0, .rows 0 26 .pt)], []⟩
def impl_polygon_convex_uG2 {α : Type} (G : Nat → Int → Int → (List (Int × Int)) → (Int → Int → (List (Int × Int)) → Option α) → (Bool → Option α) → Option α) (n : Nat) (p : List P1) (brk : Nat → List P1 → Option α) (ret : Res → Option α) : Option α := match p with
  | [.int x, .int x1, .rows .pt p_1] => G n x x1 p_1 (fun x x1 p_1 => brk 0 [.int x, .int x1, .rows .pt p_1]) (fun v1 => ret ⟨[.bool v1], []⟩)
  | _ => none
def impl_polygon_convex_u2 {α : Type} (n : Nat) (p : List P1) (brk : Nat → List P1 → Option α) (ret : Res → Option α) : Option α := impl_polygon_convex_uG2 impl_polygon_convex_l2 n p brk ret
def impl_polygon_convex_lpsG {α : Type} (G6 : Nat → Int → Int → Int → Int → Int → (List (Int × Int)) → Int → Int → Int → Int → (Int → Int → Int → Int → Int → (List (Int × Int)) → Int → Int → Int → Int → Option α) → (Bool → Option α) → Option α) (G2 : Nat → Int → Int → (List (Int × Int)) → (Int → Int → (List (Int × Int)) → Option α) → (Bool → Option α) → Option α) : List (LoopT α) := [⟨6, impl_polygon_convex_t6, impl_polygon_convex_uG6 G6⟩, ⟨2, impl_polygon_convex_t2, impl_polygon_convex_uG2 G2⟩]
def impl_polygon_convex_lps {α : Type} : List (LoopT α) := impl_polygon_convex_lpsG impl_polygon_convex_l6 impl_polygon_convex_l2
def impl_polygon_convex_XG {α : Type} (F0 : Nat → (List (Int × Int)) → Int → (Int → Int → Option α) → Option α) (F1 : Nat → Int → Int → Int → Int → Int → Int → (Int → Option α) → Option α) (G6 : Nat → Int → Int → Int → Int → Int → (List (Int × Int)) → Int → Int → Int → Int → (Int → Int → Int → Int → Int → (List (Int × Int)) → Int → Int → Int → Int → Option α) → (Bool → Option α) → Option α) (G2 : Nat → Int → Int → (List (Int × Int)) → (Int → Int → (List (Int × Int)) → Option α) → (Bool → Option α) → Option α) (n : Nat) : Ctx α := ⟨impl_polygon_convex_CG F0 F1 n, impl_polygon_convex_M, eqs, lpOf (impl_polygon_convex_lpsG G6 G2) n⟩
def impl_polygon_convex_X {α : Type} (n : Nat) : Ctx α := impl_polygon_convex_XG impl_polygon_next impl_turn impl_polygon_convex_l6 impl_polygon_convex_l2 n
def impl_polygon_convex_Lt (np : Nat) (lent : List (Bool × Nat × Blk)) : Prop := np = 1 ∧ lent = []
def impl_polygon_convex_lb6 {α : Type} (F0 : Nat → (List (Int × Int)) → Int → (Int → Int → Option α) → Option α) (F1 : Nat → Int → Int → Int → Int → Int → Int → (Int → Option α) → Option α) (G6 : Nat → Int → Int → Int → Int → Int → (List (Int × Int)) → Int → Int → Int → Int → (Int → Int → Int → Int → Int → (List (Int × Int)) → Int → Int → Int → Int → Option α) → (Bool → Option α) → Option α) (G2 : Nat → Int → Int → (List (Int × Int)) → (Int → Int → (List (Int × Int)) → Option α) → (Bool → Option α) → Option α) (k : Nat) (i : Int) (x2 : Int) (x3 : Int) (x4 : Int) (x5 : Int) (p_2 : List (Int × Int)) (a : Int) (a1 : Int) (b_ : Int) (b_1 : Int) (b2 : Int → Int → Int → Int → Int → (List (Int × Int)) → Int → Int → Int → Int → Option α) (r0 : Bool → Option α) : Option α :=
  bif decide (x5 < x4) then
    bif (decide (0 ≤ x5) && decide (x5 < (((List.length p_2) : Nat) : Int))) then
      (p_2[x5.toNat]?).bind fun e_1 =>
      bif (!decide (x5 = i)) then
        bif decide ((((List.length p_2) : Nat) : Int) = 0) then
          none
        else
        bif (!decide (x5 = (Int.tmod (w64 (i + 1)) (((List.length p_2) : Nat) : Int)))) then
          F1 k a a1 b_ b_1 e_1.1 e_1.2 fun v2 =>
          bif decide (v2 ≤ 0) then
            r0 false
          else
            G6 k i x2 x3 x4 (w64 (x5 + 1)) p_2 a a1 b_ b_1 b2 r0
        else
          G6 k i x2 x3 x4 (w64 (x5 + 1)) p_2 a a1 b_ b_1 b2 r0
      else
        G6 k i x2 x3 x4 (w64 (x5 + 1)) p_2 a a1 b_ b_1 b2 r0
    else
      none
  else
    b2 i x2 x3 x4 x5 p_2 a a1 b_ b_1
theorem impl_polygon_convex_l6_gen {α : Type} (F0 : Nat → (List (Int × Int)) → Int → (Int → Int → Option α) → Option α) (F1 : Nat → Int → Int → Int → Int → Int → Int → (Int → Option α) → Option α) (G6 : Nat → Int → Int → Int → Int → Int → (List (Int × Int)) → Int → Int → Int → Int → (Int → Int → Int → Int → Int → (List (Int × Int)) → Int → Int → Int → Int → Option α) → (Bool → Option α) → Option α) (G2 : Nat → Int → Int → (List (Int × Int)) → (Int → Int → (List (Int × Int)) → Option α) → (Bool → Option α) → Option α) (n : Nat) (i : Int) (x2 : Int) (x3 : Int) (x4 : Int) (x5 : Int) (p_2 : List (Int × Int)) (a : Int) (a1 : Int) (b_ : Int) (b_1 : Int) (brk : Nat → List P1 → Option α) (ret : Res → Option α) : ev ((impl_polygon_convex_XG F0 F1 G6 G2 n).env Try.prog Try.f278 1 []) (findLoop (loopsIn (Try.f278.body.getD .skip)) 6) ((impl_polygon_convex_t6.build [.int i, .int x2, .int x3, .int x4, .int x5, .rows .pt p_2, .int a, .int a1, .int b_, .int b_1]).getD ⟨[], []⟩) (roundK (1 * 64) impl_polygon_convex_t6 (fun q => impl_polygon_convex_uG6 G6 n q brk ret) brk ret) = impl_polygon_convex_lb6 F0 F1 G6 G2 n i x2 x3 x4 x5 p_2 a a1 b_ b_1 (fun i x2 x3 x4 x5 p_2 a a1 b_ b_1 => brk 2 [.int i, .int x2, .int x3, .int x4, .int x5, .rows .pt p_2, .int a, .int a1, .int b_, .int b_1]) (fun v1 => ret ⟨[.bool v1], []⟩) := by kernel_rfl
theorem impl_polygon_convex_l6_eq {α : Type} (k : Nat) (i : Int) (x2 : Int) (x3 : Int) (x4 : Int) (x5 : Int) (p_2 : List (Int × Int)) (a : Int) (a1 : Int) (b_ : Int) (b_1 : Int) (b2 : Int → Int → Int → Int → Int → (List (Int × Int)) → Int → Int → Int → Int → Option α) (r0 : Bool → Option α) : impl_polygon_convex_lb6 impl_polygon_next impl_turn impl_polygon_convex_l6 impl_polygon_convex_l2 k i x2 x3 x4 x5 p_2 a a1 b_ b_1 b2 r0 = impl_polygon_convex_l6 (k + 1) i x2 x3 x4 x5 p_2 a a1 b_ b_1 b2 r0 := (impl_polygon_convex_lb6.eq_1 impl_polygon_next impl_turn impl_polygon_convex_l6 impl_polygon_convex_l2 k i x2 x3 x4 x5 p_2 a a1 b_ b_1 b2 r0).trans (show impl_polygon_convex_l6 (k + 1) i x2 x3 x4 x5 p_2 a a1 b_ b_1 b2 r0 = _ from impl_polygon_convex_l6.eq_2 _ _ _ _ _ _ _ _ _ _ _ _ _ ).symm
theorem impl_polygon_convex_l6_rn {α : Type} (G : Nat → Int → Int → Int → Int → Int → (List (Int × Int)) → Int → Int → Int → Int → (Int → Int → Int → Int → Int → (List (Int × Int)) → Int → Int → Int → Int → Option α) → (Bool → Option α) → Option α) (n : Nat) (i : Int) (x2 : Int) (x3 : Int) (x4 : Int) (x5 : Int) (p_2 : List (Int × Int)) (a : Int) (a1 : Int) (b_ : Int) (b_1 : Int) (brk : Nat → List P1 → Option α) (ret : Res → Option α) : impl_polygon_convex_uG6 G n [.int i, .int x2, .int x3, .int x4, .int x5, .rows .pt p_2, .int a, .int a1, .int b_, .int b_1] brk ret = G n i x2 x3 x4 x5 p_2 a a1 b_ b_1 (fun i x2 x3 x4 x5 p_2 a a1 b_ b_1 => brk 2 [.int i, .int x2, .int x3, .int x4, .int x5, .rows .pt p_2, .int a, .int a1, .int b_, .int b_1]) (fun v1 => ret ⟨[.bool v1], []⟩) := rfl
theorem impl_polygon_convex_l6_ev {α : Type} (n : Nat) (i : Int) (x2 : Int) (x3 : Int) (x4 : Int) (x5 : Int) (p_2 : List (Int × Int)) (a : Int) (a1 : Int) (b_ : Int) (b_1 : Int) (brk : Nat → List P1 → Option α) (ret : Res → Option α) : ev ((impl_polygon_convex_X n).env Try.prog Try.f278 1 []) (findLoop (loopsIn (Try.f278.body.getD .skip)) 6) ((impl_polygon_convex_t6.build [.int i, .int x2, .int x3, .int x4, .int x5, .rows .pt p_2, .int a, .int a1, .int b_, .int b_1]).getD ⟨[], []⟩) (roundK (1 * 64) impl_polygon_convex_t6 (fun q => impl_polygon_convex_u6 n q brk ret) brk ret) = impl_polygon_convex_u6 (n + 1) [.int i, .int x2, .int x3, .int x4, .int x5, .rows .pt p_2, .int a, .int a1, .int b_, .int b_1] brk ret := (impl_polygon_convex_l6_gen impl_polygon_next impl_turn impl_polygon_convex_l6 impl_polygon_convex_l2 n i x2 x3 x4 x5 p_2 a a1 b_ b_1 brk ret).trans ((impl_polygon_convex_l6_eq n i x2 x3 x4 x5 p_2 a a1 b_ b_1 (fun i x2 x3 x4 x5 p_2 a a1 b_ b_1 => brk 2 [.int i, .int x2, .int x3, .int x4, .int x5, .rows .pt p_2, .int a, .int a1, .int b_, .int b_1]) (fun v1 => ret ⟨[.bool v1], []⟩)).trans ((impl_polygon_convex_u6.eq_1 (n + 1) [.int i, .int x2, .int x3, .int x4, .int x5, .rows .pt p_2, .int a, .int a1, .int b_, .int b_1] brk ret).trans (impl_polygon_convex_l6_rn impl_polygon_convex_l6 (n + 1) i x2 x3 x4 x5 p_2 a a1 b_ b_1 brk ret)).symm)
def impl_polygon_convex_lb2 {α : Type} (F0 : Nat → (List (Int × Int)) → Int → (Int → Int → Option α) → Option α) (F1 : Nat → Int → Int → Int → Int → Int → Int → (Int → Option α) → Option α) (G6 : Nat → Int → Int → Int → Int → Int → (List (Int × Int)) → Int → Int → Int → Int → (Int → Int → Int → Int → Int → (List (Int × Int)) → Int → Int → Int → Int → Option α) → (Bool → Option α) → Option α) (G2 : Nat → Int → Int → (List (Int × Int)) → (Int → Int → (List (Int × Int)) → Option α) → (Bool → Option α) → Option α) (k : Nat) (x : Int) (x1 : Int) (p_1 : List (Int × Int)) (b0 : Int → Int → (List (Int × Int)) → Option α) (r0 : Bool → Option α) : Option α :=
  bif decide (x1 < x) then
    bif (decide (0 ≤ x1) && decide (x1 < (((List.length p_1) : Nat) : Int))) then
      (p_1[x1.toNat]?).bind fun e_ =>
      F0 k p_1 x1 fun v v1 =>
      G6 k x1 x x1 (((List.length p_1) : Nat) : Int) 0 p_1 e_.1 e_.2 v v1
        (fun i1 x6 x7 x8 x9 p_3 a2 a3 b_2 b_3 =>
          G2 k x6 (w64 (x7 + 1)) p_3 b0 r0)
        r0
    else
      none
  else
    b0 x x1 p_1
theorem impl_polygon_convex_l2_gen {α : Type} (F0 : Nat → (List (Int × Int)) → Int → (Int → Int → Option α) → Option α) (F1 : Nat → Int → Int → Int → Int → Int → Int → (Int → Option α) → Option α) (G6 : Nat → Int → Int → Int → Int → Int → (List (Int × Int)) → Int → Int → Int → Int → (Int → Int → Int → Int → Int → (List (Int × Int)) → Int → Int → Int → Int → Option α) → (Bool → Option α) → Option α) (G2 : Nat → Int → Int → (List (Int × Int)) → (Int → Int → (List (Int × Int)) → Option α) → (Bool → Option α) → Option α) (n : Nat) (x : Int) (x1 : Int) (p_1 : List (Int × Int)) (brk : Nat → List P1 → Option α) (ret : Res → Option α) : ev ((impl_polygon_convex_XG F0 F1 G6 G2 n).env Try.prog Try.f278 1 []) (findLoop (loopsIn (Try.f278.body.getD .skip)) 2) ((impl_polygon_convex_t2.build [.int x, .int x1, .rows .pt p_1]).getD ⟨[], []⟩) (roundK (1 * 64) impl_polygon_convex_t2 (fun q => impl_polygon_convex_uG2 G2 n q brk ret) brk ret) = impl_polygon_convex_lb2 F0 F1 G6 G2 n x x1 p_1 (fun x x1 p_1 => brk 0 [.int x, .int x1, .rows .pt p_1]) (fun v1 => ret ⟨[.bool v1], []⟩) := by kernel_rfl
theorem impl_polygon_convex_l2_eq {α : Type} (k : Nat) (x : Int) (x1 : Int) (p_1 : List (Int × Int)) (b0 : Int → Int → (List (Int × Int)) → Option α) (r0 : Bool → Option α) : impl_polygon_convex_lb2 impl_polygon_next impl_turn impl_polygon_convex_l6 impl_polygon_convex_l2 k x x1 p_1 b0 r0 = impl_polygon_convex_l2 (k + 1) x x1 p_1 b0 r0 := (impl_polygon_convex_lb2.eq_1 impl_polygon_next impl_turn impl_polygon_convex_l6 impl_polygon_convex_l2 k x x1 p_1 b0 r0).trans (show impl_polygon_convex_l2 (k + 1) x x1 p_1 b0 r0 = _ from impl_polygon_convex_l2.eq_2 _ _ _ _ _ _ ).symm
theorem impl_polygon_convex_l2_rn {α : Type} (G : Nat → Int → Int → (List (Int × Int)) → (Int → Int → (List (Int × Int)) → Option α) → (Bool → Option α) → Option α) (n : Nat) (x : Int) (x1 : Int) (p_1 : List (Int × Int)) (brk : Nat → List P1 → Option α) (ret : Res → Option α) : impl_polygon_convex_uG2 G n [.int x, .int x1, .rows .pt p_1] brk ret = G n x x1 p_1 (fun x x1 p_1 => brk 0 [.int x, .int x1, .rows .pt p_1]) (fun v1 => ret ⟨[.bool v1], []⟩) := rfl
theorem impl_polygon_convex_l2_ev {α : Type} (n : Nat) (x : Int) (x1 : Int) (p_1 : List (Int × Int)) (brk : Nat → List P1 → Option α) (ret : Res → Option α) : ev ((impl_polygon_convex_X n).env Try.prog Try.f278 1 []) (findLoop (loopsIn (Try.f278.body.getD .skip)) 2) ((impl_polygon_convex_t2.build [.int x, .int x1, .rows .pt p_1]).getD ⟨[], []⟩) (roundK (1 * 64) impl_polygon_convex_t2 (fun q => impl_polygon_convex_u2 n q brk ret) brk ret) = impl_polygon_convex_u2 (n + 1) [.int x, .int x1, .rows .pt p_1] brk ret := (impl_polygon_convex_l2_gen impl_polygon_next impl_turn impl_polygon_convex_l6 impl_polygon_convex_l2 n x x1 p_1 brk ret).trans ((impl_polygon_convex_l2_eq n x x1 p_1 (fun x x1 p_1 => brk 0 [.int x, .int x1, .rows .pt p_1]) (fun v1 => ret ⟨[.bool v1], []⟩)).trans ((impl_polygon_convex_u2.eq_1 (n + 1) [.int x, .int x1, .rows .pt p_1] brk ret).trans (impl_polygon_convex_l2_rn impl_polygon_convex_l2 (n + 1) x x1 p_1 brk ret)).symm)
def impl_polygon_convex_body {α : Type} (F0 : Nat → (List (Int × Int)) → Int → (Int → Int → Option α) → Option α) (F1 : Nat → Int → Int → Int → Int → Int → Int → (Int → Option α) → Option α) (G6 : Nat → Int → Int → Int → Int → Int → (List (Int × Int)) → Int → Int → Int → Int → (Int → Int → Int → Int → Int → (List (Int × Int)) → Int → Int → Int → Int → Option α) → (Bool → Option α) → Option α) (G2 : Nat → Int → Int → (List (Int × Int)) → (Int → Int → (List (Int × Int)) → Option α) → (Bool → Option α) → Option α) (k : Nat) (p_ : List (Int × Int)) (r0 : Bool → Option α) : Option α :=
  G2 k (((List.length p_) : Nat) : Int) 0 p_
    (fun x10 x11 p_4 =>
      r0 true)
    r0
theorem impl_polygon_convex_gen {α : Type} (F0 : Nat → (List (Int × Int)) → Int → (Int → Int → Option α) → Option α) (F1 : Nat → Int → Int → Int → Int → Int → Int → (Int → Option α) → Option α) (G6 : Nat → Int → Int → Int → Int → Int → (List (Int × Int)) → Int → Int → Int → Int → (Int → Int → Int → Int → Int → (List (Int × Int)) → Int → Int → Int → Int → Option α) → (Bool → Option α) → Option α) (G2 : Nat → Int → Int → (List (Int × Int)) → (Int → Int → (List (Int × Int)) → Option α) → (Bool → Option α) → Option α) (n : Nat) (p_ : List (Int × Int)) (κ : Res → Option α) : evFn Try.prog (impl_polygon_convex_XG F0 F1 G6 G2 n) Try.f278 (((buildDs impl_polygon_convex_sh [.rows .pt p_]).map Prod.fst).getD []) κ = impl_polygon_convex_body F0 F1 G6 G2 n p_ (fun v1 => κ ⟨[.bool v1], []⟩) := by kernel_rfl
theorem impl_polygon_convex_eq {α : Type} (n : Nat) (p_ : List (Int × Int)) (r0 : Bool → Option α) : impl_polygon_convex_body impl_polygon_next impl_turn impl_polygon_convex_l6 impl_polygon_convex_l2 n p_ r0 = impl_polygon_convex n p_ r0 := (impl_polygon_convex_body.eq_1 impl_polygon_next impl_turn impl_polygon_convex_l6 impl_polygon_convex_l2 n p_ r0).trans (impl_polygon_convex.eq_1 n p_ r0).symm
theorem impl_polygon_convex_rn {α : Type} (F : Nat → (List (Int × Int)) → (Bool → Option α) → Option α) (n : Nat) (p_ : List (Int × Int)) (κ : Res → Option α) : impl_polygon_convex_runG F n [.rows .pt p_] κ = F n p_ (fun v1 => κ ⟨[.bool v1], []⟩) := rfl
theorem impl_polygon_convex_ev {α : Type} (n : Nat) (p_ : List (Int × Int)) (κ : Res → Option α) : evFn Try.prog (impl_polygon_convex_X n) Try.f278 (((buildDs impl_polygon_convex_sh [.rows .pt p_]).map Prod.fst).getD []) κ = impl_polygon_convex_run n [.rows .pt p_] κ := (impl_polygon_convex_gen impl_polygon_next impl_turn impl_polygon_convex_l6 impl_polygon_convex_l2 n p_ κ).trans ((impl_polygon_convex_eq n p_ (fun v1 => κ ⟨[.bool v1], []⟩)).trans ((impl_polygon_convex_run.eq_1 n [.rows .pt p_] κ).trans (impl_polygon_convex_rn impl_polygon_convex n p_ κ)).symm)
theorem impl_polygon_convex_en (p_ : List (Int × Int)) : (entry 0 (((buildDs impl_polygon_convex_sh [.rows .pt p_]).map Prod.fst).getD [])).map (fun x => (x.1.length, x.2.lent)) = some (1, []) := by kernel_rfl
theorem impl_polygon_convex_good {α : Type} : ∀ n, GoodFn (α := α) Try.prog 278 (byShape impl_polygon_convex_sh (impl_polygon_convex_run n)) := by
  refine fn_good' Try.func278 (c := (Try.f278.body.getD .skip)) (by kernel_rfl) (by kernel_rfl) (by kernel_rfl) impl_polygon_convex_C impl_polygon_convex_M eqs impl_polygon_convex_lps (fun n => tabC_good (List.forall_mem_cons.2 ⟨(impl_polygon_next_good n), (List.forall_mem_cons.2 ⟨(impl_turn_good n), (fun _ h => absurd h List.not_mem_nil)⟩)⟩)) eqs_ok impl_polygon_convex_Lt ?_ ?_ impl_polygon_convex_sh impl_polygon_convex_run ?_
  · refine List.forall_mem_cons.2 ⟨?_, List.forall_mem_cons.2 ⟨?_, (fun _ h => absurd h List.not_mem_nil)⟩⟩
    · intro p brk ret; show impl_polygon_convex_u6 0 p brk ret = none; unfold impl_polygon_convex_u6 impl_polygon_convex_uG6; split <;> rfl
    · intro p brk ret; show impl_polygon_convex_u2 0 p brk ret = none; unfold impl_polygon_convex_u2 impl_polygon_convex_uG2; split <;> rfl
  · refine List.forall_mem_cons.2 ⟨?_, List.forall_mem_cons.2 ⟨?_, (fun _ h => absurd h List.not_mem_nil)⟩⟩
    · intro np lent hL n p brk ret st r hb hr
      obtain ⟨rfl, rfl⟩ := hL
      rw [← tpl_of hb]
      change impl_polygon_convex_u6 (n + 1) p brk ret = some r at hr
      have hr0 := hr
      unfold impl_polygon_convex_u6 impl_polygon_convex_uG6 at hr
      split at hr
      · exact (impl_polygon_convex_l6_ev n _ _ _ _ _ _ _ _ _ _ brk ret).trans hr0
      · cases hr
    · intro np lent hL n p brk ret st r hb hr
      obtain ⟨rfl, rfl⟩ := hL
      rw [← tpl_of hb]
      change impl_polygon_convex_u2 (n + 1) p brk ret = some r at hr
      have hr0 := hr
      unfold impl_polygon_convex_u2 impl_polygon_convex_uG2 at hr
      split at hr
      · exact (impl_polygon_convex_l2_ev n _ _ _ brk ret).trans hr0
      · cases hr
  · intro n p κ r ds hd hr
    have hr0 := hr
    unfold impl_polygon_convex_run impl_polygon_convex_runG at hr
    split at hr
    · rw [← ds_of hd]
      exact ⟨en_of (impl_polygon_convex_en _) ⟨rfl, rfl⟩, (impl_polygon_convex_ev n _ κ).trans hr0⟩
    · cases hr

/-! loop.example/g01297/impl.IsPolygon -/
def impl_IsPolygon_sh : List SkD := [.sl 26 .pt]
def impl_IsPolygon_runG {α : Type} (F : Nat → (List (Int × Int)) → (Bool → Option α) → Option α) (n : Nat) (p : List P1) (κ : Res → Option α) : Option α := match p with
  | [.rows .pt list] => F n list (fun v1 => κ ⟨[.bool v1], []⟩)
  | _ => none
def impl_IsPolygon_run {α : Type} (n : Nat) (p : List P1) (κ : Res → Option α) : Option α := impl_IsPolygon_runG impl_IsPolygon n p κ
def impl_IsPolygon_CG {α : Type} (F0 : Nat → Int → Int → Int → (Bool → Option α) → Option α) (F1 : Nat → (List (Int × Int)) → (Bool → Option α) → Option α) (F2 : Nat → (List (Int × Int)) → (Bool → Option α) → Option α) (n : Nat) : FuncId → List D → (Res → Option α) → Option α := tabC [(173, (byShape impl_in_sh (impl_in_runG F0 n))), (268, (byShape slices_ContainsFunc_impl_Point_impl_Point_1F_impl_IsPolygon_1_sh (slices_ContainsFunc_impl_Point_impl_Point_1F_impl_IsPolygon_1_runG F1 n))), (278, (byShape impl_polygon_convex_sh (impl_polygon_convex_runG F2 n)))]
def impl_IsPolygon_C {α : Type} (n : Nat) : FuncId → List D → (Res → Option α) → Option α := impl_IsPolygon_CG impl_in slices_ContainsFunc_impl_Point_impl_Point_1F_impl_IsPolygon_1 impl_polygon_convex n
def impl_IsPolygon_M : FuncId → List Nat := tabM []
def impl_IsPolygon_lpsG {α : Type}  : List (LoopT α) := []
def impl_IsPolygon_lps {α : Type} : List (LoopT α) := impl_IsPolygon_lpsG
def impl_IsPolygon_XG {α : Type} (F0 : Nat → Int → Int → Int → (Bool → Option α) → Option α) (F1 : Nat → (List (Int × Int)) → (Bool → Option α) → Option α) (F2 : Nat → (List (Int × Int)) → (Bool → Option α) → Option α)  (n : Nat) : Ctx α := ⟨impl_IsPolygon_CG F0 F1 F2 n, impl_IsPolygon_M, eqs, lpOf (impl_IsPolygon_lpsG) n⟩
def impl_IsPolygon_X {α : Type} (n : Nat) : Ctx α := impl_IsPolygon_XG impl_in slices_ContainsFunc_impl_Point_impl_Point_1F_impl_IsPolygon_1 impl_polygon_convex n
def impl_IsPolygon_Lt (np : Nat) (lent : List (Bool × Nat × Blk)) : Prop := np = 1 ∧ lent = []
def impl_IsPolygon_body {α : Type} (F0 : Nat → Int → Int → Int → (Bool → Option α) → Option α) (F1 : Nat → (List (Int × Int)) → (Bool → Option α) → Option α) (F2 : Nat → (List (Int × Int)) → (Bool → Option α) → Option α)  (k : Nat) (list : List (Int × Int)) (r0 : Bool → Option α) : Option α :=
  F0 k (((List.length list) : Nat) : Int) 3 12 fun v =>
  bif (!v) then
    r0 false
  else
    F1 k list fun v1 =>
    bif v1 then
      r0 false
    else
      F2 k list fun v2 =>
      r0 v2
theorem impl_IsPolygon_gen {α : Type} (F0 : Nat → Int → Int → Int → (Bool → Option α) → Option α) (F1 : Nat → (List (Int × Int)) → (Bool → Option α) → Option α) (F2 : Nat → (List (Int × Int)) → (Bool → Option α) → Option α)  (n : Nat) (list : List (Int × Int)) (κ : Res → Option α) : evFn Try.prog (impl_IsPolygon_XG F0 F1 F2 n) Try.f177 (((buildDs impl_IsPolygon_sh [.rows .pt list]).map Prod.fst).getD []) κ = impl_IsPolygon_body F0 F1 F2 n list (fun v1 => κ ⟨[.bool v1], []⟩) := by kernel_rfl
theorem impl_IsPolygon_eq {α : Type} (n : Nat) (list : List (Int × Int)) (r0 : Bool → Option α) : impl_IsPolygon_body impl_in slices_ContainsFunc_impl_Point_impl_Point_1F_impl_IsPolygon_1 impl_polygon_convex n list r0 = impl_IsPolygon n list r0 := (impl_IsPolygon_body.eq_1 impl_in slices_ContainsFunc_impl_Point_impl_Point_1F_impl_IsPolygon_1 impl_polygon_convex n list r0).trans (impl_IsPolygon.eq_1 n list r0).symm
theorem impl_IsPolygon_rn {α : Type} (F : Nat → (List (Int × Int)) → (Bool → Option α) → Option α) (n : Nat) (list : List (Int × Int)) (κ : Res → Option α) : impl_IsPolygon_runG F n [.rows .pt list] κ = F n list (fun v1 => κ ⟨[.bool v1], []⟩) := rfl
theorem impl_IsPolygon_ev {α : Type} (n : Nat) (list : List (Int × Int)) (κ : Res → Option α) : evFn Try.prog (impl_IsPolygon_X n) Try.f177 (((buildDs impl_IsPolygon_sh [.rows .pt list]).map Prod.fst).getD []) κ = impl_IsPolygon_run n [.rows .pt list] κ := (impl_IsPolygon_gen impl_in slices_ContainsFunc_impl_Point_impl_Point_1F_impl_IsPolygon_1 impl_polygon_convex n list κ).trans ((impl_IsPolygon_eq n list (fun v1 => κ ⟨[.bool v1], []⟩)).trans ((impl_IsPolygon_run.eq_1 n [.rows .pt list] κ).trans (impl_IsPolygon_rn impl_IsPolygon n list κ)).symm)
theorem impl_IsPolygon_en (list : List (Int × Int)) : (entry 0 (((buildDs impl_IsPolygon_sh [.rows .pt list]).map Prod.fst).getD [])).map (fun x => (x.1.length, x.2.lent)) = some (1, []) := by kernel_rfl
theorem impl_IsPolygon_good {α : Type} : ∀ n, GoodFn (α := α) Try.prog 177 (byShape impl_IsPolygon_sh (impl_IsPolygon_run n)) := by
  refine fn_good' Try.func177 (c := (Try.f177.body.getD .skip)) (by kernel_rfl) (by kernel_rfl) (by kernel_rfl) impl_IsPolygon_C impl_IsPolygon_M eqs impl_IsPolygon_lps (fun n => tabC_good (List.forall_mem_cons.2 ⟨(impl_in_good n), (List.forall_mem_cons.2 ⟨(slices_ContainsFunc_impl_Point_impl_Point_1F_impl_IsPolygon_1_good n), (List.forall_mem_cons.2 ⟨(impl_polygon_convex_good n), (fun _ h => absurd h List.not_mem_nil)⟩)⟩)⟩)) eqs_ok impl_IsPolygon_Lt ?_ ?_ impl_IsPolygon_sh impl_IsPolygon_run ?_
  · exact (fun _ h => absurd h List.not_mem_nil)
  · exact (fun _ h => absurd h List.not_mem_nil)
  · intro n p κ r ds hd hr
    have hr0 := hr
    unfold impl_IsPolygon_run impl_IsPolygon_runG at hr
    split at hr
    · rw [← ds_of hd]
      exact ⟨en_of (impl_IsPolygon_en _) ⟨rfl, rfl⟩, (impl_IsPolygon_ev n _ κ).trans hr0⟩
    · cases hr

/-! (loop.example/g01297/impl.polygon).sum -/
def impl_polygon_sum_1F_impl_det_sh : List SkD := [.sl 26 .pt, .fn 167 []]
def impl_polygon_sum_1F_impl_det_runG {α : Type} (F : Nat → (List (Int × Int)) → (Int → Option α) → Option α) (n : Nat) (p : List P1) (κ : Res → Option α) : Option α := match p with
  | [.rows .pt p_] => F n p_ (fun v1 => κ ⟨[.int .i64 v1], []⟩)
  | _ => none
def impl_polygon_sum_1F_impl_det_run {α : Type} (n : Nat) (p : List P1) (κ : Res → Option α) : Option α := impl_polygon_sum_1F_impl_det_runG impl_polygon_sum_1F_impl_det n p κ
def impl_polygon_sum_1F_impl_det_CG {α : Type} (F0 : Nat → (List (Int × Int)) → Int → (Int → Int → Option α) → Option α) (F1 : Nat → Int → Int → Int → Int → (Int → Option α) → Option α) (n : Nat) : FuncId → List D → (Res → Option α) → Option α := tabC [(186, (byShape impl_polygon_next_sh (impl_polygon_next_runG F0 n))), (167, (byShape impl_det_sh (impl_det_runG F1 n)))]
def impl_polygon_sum_1F_impl_det_C {α : Type} (n : Nat) : FuncId → List D → (Res → Option α) → Option α := impl_polygon_sum_1F_impl_det_CG impl_polygon_next impl_det n
def impl_polygon_sum_1F_impl_det_M : FuncId → List Nat := tabM []
def impl_polygon_sum_1F_impl_det_t3 : Tpl := ⟨[.sl 0, .fn 167 [], .any, .any, .any, .int .i64, .any, .any, .sl 0, .int .i64, .int .i64, .any, .any, .any, .any, .any, .any, .any, .any, .any, .any, .any, .any, .any, .any], [(0, .rows 0 26 .pt)], []⟩
def impl_polygon_sum_1F_impl_det_uG3 {α : Type} (G : Nat → Int → Int → Int → (List (Int × Int)) → (Int → Int → Int → (List (Int × Int)) → Option α) → (Int → Option α) → Option α) (n : Nat) (p : List P1) (brk : Nat → List P1 → Option α) (ret : Res → Option α) : Option α := match p with
  | [.int out, .int x, .int x1, .rows .pt p_1] => G n out x x1 p_1 (fun out x x1 p_1 => brk 0 [.int out, .int x, .int x1, .rows .pt p_1]) (fun v1 => ret ⟨[.int .i64 v1], []⟩)
  | _ => none
def impl_polygon_sum_1F_impl_det_u3 {α : Type} (n : Nat) (p : List P1) (brk : Nat → List P1 → Option α) (ret : Res → Option α) : Option α := impl_polygon_sum_1F_impl_det_uG3 impl_polygon_sum_1F_impl_det_l3 n p brk ret
def impl_polygon_sum_1F_impl_det_lpsG {α : Type} (G3 : Nat → Int → Int → Int → (List (Int × Int)) → (Int → Int → Int → (List (Int × Int)) → Option α) → (Int → Option α) → Option α) : List (LoopT α) := [⟨3, impl_polygon_sum_1F_impl_det_t3, impl_polygon_sum_1F_impl_det_uG3 G3⟩]
def impl_polygon_sum_1F_impl_det_lps {α : Type} : List (LoopT α) := impl_polygon_sum_1F_impl_det_lpsG impl_polygon_sum_1F_impl_det_l3
def impl_polygon_sum_1F_impl_det_XG {α : Type} (F0 : Nat → (List (Int × Int)) → Int → (Int → Int → Option α) → Option α) (F1 : Nat → Int → Int → Int → Int → (Int → Option α) → Option α) (G3 : Nat → Int → Int → Int → (List (Int × Int)) → (Int → Int → Int → (List (Int × Int)) → Option α) → (Int → Option α) → Option α) (n : Nat) : Ctx α := ⟨impl_polygon_sum_1F_impl_det_CG F0 F1 n, impl_polygon_sum_1F_impl_det_M, eqs, lpOf (impl_polygon_sum_1F_impl_det_lpsG G3) n⟩
def impl_polygon_sum_1F_impl_det_X {α : Type} (n : Nat) : Ctx α := impl_polygon_sum_1F_impl_det_XG impl_polygon_next impl_det impl_polygon_sum_1F_impl_det_l3 n
def impl_polygon_sum_1F_impl_det_Lt (np : Nat) (lent : List (Bool × Nat × Blk)) : Prop := np = 2 ∧ lent = []
def impl_polygon_sum_1F_impl_det_lb3 {α : Type} (F0 : Nat → (List (Int × Int)) → Int → (Int → Int → Option α) → Option α) (F1 : Nat → Int → Int → Int → Int → (Int → Option α) → Option α) (G3 : Nat → Int → Int → Int → (List (Int × Int)) → (Int → Int → Int → (List (Int × Int)) → Option α) → (Int → Option α) → Option α) (k : Nat) (out : Int) (x : Int) (x1 : Int) (p_1 : List (Int × Int)) (b0 : Int → Int → Int → (List (Int × Int)) → Option α) (r0 : Int → Option α) : Option α :=
  bif decide (x1 < x) then
    bif (decide (0 ≤ x1) && decide (x1 < (((List.length p_1) : Nat) : Int))) then
      (p_1[x1.toNat]?).bind fun e_ =>
      F0 k p_1 x1 fun v v1 =>
      F1 k e_.1 e_.2 v v1 fun v2 =>
      G3 k (w64 (out + v2)) x (w64 (x1 + 1)) p_1 b0 r0
    else
      none
  else
    b0 out x x1 p_1
theorem impl_polygon_sum_1F_impl_det_l3_gen {α : Type} (F0 : Nat → (List (Int × Int)) → Int → (Int → Int → Option α) → Option α) (F1 : Nat → Int → Int → Int → Int → (Int → Option α) → Option α) (G3 : Nat → Int → Int → Int → (List (Int × Int)) → (Int → Int → Int → (List (Int × Int)) → Option α) → (Int → Option α) → Option α) (n : Nat) (out : Int) (x : Int) (x1 : Int) (p_1 : List (Int × Int)) (brk : Nat → List P1 → Option α) (ret : Res → Option α) : ev ((impl_polygon_sum_1F_impl_det_XG F0 F1 G3 n).env Try.prog Try.f318 2 []) (findLoop (loopsIn (Try.f318.body.getD .skip)) 3) ((impl_polygon_sum_1F_impl_det_t3.build [.int out, .int x, .int x1, .rows .pt p_1]).getD ⟨[], []⟩) (roundK (2 * 64) impl_polygon_sum_1F_impl_det_t3 (fun q => impl_polygon_sum_1F_impl_det_uG3 G3 n q brk ret) brk ret) = impl_polygon_sum_1F_impl_det_lb3 F0 F1 G3 n out x x1 p_1 (fun out x x1 p_1 => brk 0 [.int out, .int x, .int x1, .rows .pt p_1]) (fun v1 => ret ⟨[.int .i64 v1], []⟩) := by kernel_rfl
theorem impl_polygon_sum_1F_impl_det_l3_eq {α : Type} (k : Nat) (out : Int) (x : Int) (x1 : Int) (p_1 : List (Int × Int)) (b0 : Int → Int → Int → (List (Int × Int)) → Option α) (r0 : Int → Option α) : impl_polygon_sum_1F_impl_det_lb3 impl_polygon_next impl_det impl_polygon_sum_1F_impl_det_l3 k out x x1 p_1 b0 r0 = impl_polygon_sum_1F_impl_det_l3 (k + 1) out x x1 p_1 b0 r0 := (impl_polygon_sum_1F_impl_det_lb3.eq_1 impl_polygon_next impl_det impl_polygon_sum_1F_impl_det_l3 k out x x1 p_1 b0 r0).trans (show impl_polygon_sum_1F_impl_det_l3 (k + 1) out x x1 p_1 b0 r0 = _ from impl_polygon_sum_1F_impl_det_l3.eq_2 _ _ _ _ _ _ _ ).symm
theorem impl_polygon_sum_1F_impl_det_l3_rn {α : Type} (G : Nat → Int → Int → Int → (List (Int × Int)) → (Int → Int → Int → (List (Int × Int)) → Option α) → (Int → Option α) → Option α) (n : Nat) (out : Int) (x : Int) (x1 : Int) (p_1 : List (Int × Int)) (brk : Nat → List P1 → Option α) (ret : Res → Option α) : impl_polygon_sum_1F_impl_det_uG3 G n [.int out, .int x, .int x1, .rows .pt p_1] brk ret = G n out x x1 p_1 (fun out x x1 p_1 => brk 0 [.int out, .int x, .int x1, .rows .pt p_1]) (fun v1 => ret ⟨[.int .i64 v1], []⟩) := rfl
theorem impl_polygon_sum_1F_impl_det_l3_ev {α : Type} (n : Nat) (out : Int) (x : Int) (x1 : Int) (p_1 : List (Int × Int)) (brk : Nat → List P1 → Option α) (ret : Res → Option α) : ev ((impl_polygon_sum_1F_impl_det_X n).env Try.prog Try.f318 2 []) (findLoop (loopsIn (Try.f318.body.getD .skip)) 3) ((impl_polygon_sum_1F_impl_det_t3.build [.int out, .int x, .int x1, .rows .pt p_1]).getD ⟨[], []⟩) (roundK (2 * 64) impl_polygon_sum_1F_impl_det_t3 (fun q => impl_polygon_sum_1F_impl_det_u3 n q brk ret) brk ret) = impl_polygon_sum_1F_impl_det_u3 (n + 1) [.int out, .int x, .int x1, .rows .pt p_1] brk ret := (impl_polygon_sum_1F_impl_det_l3_gen impl_polygon_next impl_det impl_polygon_sum_1F_impl_det_l3 n out x x1 p_1 brk ret).trans ((impl_polygon_sum_1F_impl_det_l3_eq n out x x1 p_1 (fun out x x1 p_1 => brk 0 [.int out, .int x, .int x1, .rows .pt p_1]) (fun v1 => ret ⟨[.int .i64 v1], []⟩)).trans ((impl_polygon_sum_1F_impl_det_u3.eq_1 (n + 1) [.int out, .int x, .int x1, .rows .pt p_1] brk ret).trans (impl_polygon_sum_1F_impl_det_l3_rn impl_polygon_sum_1F_impl_det_l3 (n + 1) out x x1 p_1 brk ret)).symm)
def impl_polygon_sum_1F_impl_det_body {α : Type} (F0 : Nat → (List (Int × Int)) → Int → (Int → Int → Option α) → Option α) (F1 : Nat → Int → Int → Int → Int → (Int → Option α) → Option α) (G3 : Nat → Int → Int → Int → (List (Int × Int)) → (Int → Int → Int → (List (Int × Int)) → Option α) → (Int → Option α) → Option α) (k : Nat) (p_ : List (Int × Int)) (r0 : Int → Option α) : Option α :=
  G3 k 0 (((List.length p_) : Nat) : Int) 0 p_
    (fun out1 x2 x3 p_2 =>
      r0 out1)
    r0
theorem impl_polygon_sum_1F_impl_det_gen {α : Type} (F0 : Nat → (List (Int × Int)) → Int → (Int → Int → Option α) → Option α) (F1 : Nat → Int → Int → Int → Int → (Int → Option α) → Option α) (G3 : Nat → Int → Int → Int → (List (Int × Int)) → (Int → Int → Int → (List (Int × Int)) → Option α) → (Int → Option α) → Option α) (n : Nat) (p_ : List (Int × Int)) (κ : Res → Option α) : evFn Try.prog (impl_polygon_sum_1F_impl_det_XG F0 F1 G3 n) Try.f318 (((buildDs impl_polygon_sum_1F_impl_det_sh [.rows .pt p_]).map Prod.fst).getD []) κ = impl_polygon_sum_1F_impl_det_body F0 F1 G3 n p_ (fun v1 => κ ⟨[.int .i64 v1], []⟩) := by kernel_rfl
theorem impl_polygon_sum_1F_impl_det_eq {α : Type} (n : Nat) (p_ : List (Int × Int)) (r0 : Int → Option α) : impl_polygon_sum_1F_impl_det_body impl_polygon_next impl_det impl_polygon_sum_1F_impl_det_l3 n p_ r0 = impl_polygon_sum_1F_impl_det n p_ r0 := (impl_polygon_sum_1F_impl_det_body.eq_1 impl_polygon_next impl_det impl_polygon_sum_1F_impl_det_l3 n p_ r0).trans (impl_polygon_sum_1F_impl_det.eq_1 n p_ r0).symm
theorem impl_polygon_sum_1F_impl_det_rn {α : Type} (F : Nat → (List (Int × Int)) → (Int → Option α) → Option α) (n : Nat) (p_ : List (Int × Int)) (κ : Res → Option α) : impl_polygon_sum_1F_impl_det_runG F n [.rows .pt p_] κ = F n p_ (fun v1 => κ ⟨[.int .i64 v1], []⟩) := rfl
theorem impl_polygon_sum_1F_impl_det_ev {α : Type} (n : Nat) (p_ : List (Int × Int)) (κ : Res → Option α) : evFn Try.prog (impl_polygon_sum_1F_impl_det_X n) Try.f318 (((buildDs impl_polygon_sum_1F_impl_det_sh [.rows .pt p_]).map Prod.fst).getD []) κ = impl_polygon_sum_1F_impl_det_run n [.rows .pt p_] κ := (impl_polygon_sum_1F_impl_det_gen impl_polygon_next impl_det impl_polygon_sum_1F_impl_det_l3 n p_ κ).trans ((impl_polygon_sum_1F_impl_det_eq n p_ (fun v1 => κ ⟨[.int .i64 v1], []⟩)).trans ((impl_polygon_sum_1F_impl_det_run.eq_1 n [.rows .pt p_] κ).trans (impl_polygon_sum_1F_impl_det_rn impl_polygon_sum_1F_impl_det n p_ κ)).symm)
theorem impl_polygon_sum_1F_impl_det_en (p_ : List (Int × Int)) : (entry 0 (((buildDs impl_polygon_sum_1F_impl_det_sh [.rows .pt p_]).map Prod.fst).getD [])).map (fun x => (x.1.length, x.2.lent)) = some (2, []) := by kernel_rfl
theorem impl_polygon_sum_1F_impl_det_good {α : Type} : ∀ n, GoodFn (α := α) Try.prog 318 (byShape impl_polygon_sum_1F_impl_det_sh (impl_polygon_sum_1F_impl_det_run n)) := by
  refine fn_good' Try.func318 (c := (Try.f318.body.getD .skip)) (by kernel_rfl) (by kernel_rfl) (by kernel_rfl) impl_polygon_sum_1F_impl_det_C impl_polygon_sum_1F_impl_det_M eqs impl_polygon_sum_1F_impl_det_lps (fun n => tabC_good (List.forall_mem_cons.2 ⟨(impl_polygon_next_good n), (List.forall_mem_cons.2 ⟨(impl_det_good n), (fun _ h => absurd h List.not_mem_nil)⟩)⟩)) eqs_ok impl_polygon_sum_1F_impl_det_Lt ?_ ?_ impl_polygon_sum_1F_impl_det_sh impl_polygon_sum_1F_impl_det_run ?_
  · refine List.forall_mem_cons.2 ⟨?_, (fun _ h => absurd h List.not_mem_nil)⟩
    · intro p brk ret; show impl_polygon_sum_1F_impl_det_u3 0 p brk ret = none; unfold impl_polygon_sum_1F_impl_det_u3 impl_polygon_sum_1F_impl_det_uG3; split <;> rfl
  · refine List.forall_mem_cons.2 ⟨?_, (fun _ h => absurd h List.not_mem_nil)⟩
    · intro np lent hL n p brk ret st r hb hr
      obtain ⟨rfl, rfl⟩ := hL
      rw [← tpl_of hb]
      change impl_polygon_sum_1F_impl_det_u3 (n + 1) p brk ret = some r at hr
      have hr0 := hr
      unfold impl_polygon_sum_1F_impl_det_u3 impl_polygon_sum_1F_impl_det_uG3 at hr
      split at hr
      · exact (impl_polygon_sum_1F_impl_det_l3_ev n _ _ _ _ brk ret).trans hr0
      · cases hr
  · intro n p κ r ds hd hr
    have hr0 := hr
    unfold impl_polygon_sum_1F_impl_det_run impl_polygon_sum_1F_impl_det_runG at hr
    split at hr
    · rw [← ds_of hd]
      exact ⟨en_of (impl_polygon_sum_1F_impl_det_en _) ⟨rfl, rfl⟩, (impl_polygon_sum_1F_impl_det_ev n _ κ).trans hr0⟩
    · cases hr

/-! (loop.example/g01297/impl.polygon).area -/
def impl_polygon_area_sh : List SkD := [.sl 26 .pt]
def impl_polygon_area_runG {α : Type} (F : Nat → (List (Int × Int)) → (Int → Option α) → Option α) (n : Nat) (p : List P1) (κ : Res → Option α) : Option α := match p with
  | [.rows .pt p_] => F n p_ (fun v1 => κ ⟨[.int .i64 v1], []⟩)
  | _ => none
def impl_polygon_area_run {α : Type} (n : Nat) (p : List P1) (κ : Res → Option α) : Option α := impl_polygon_area_runG impl_polygon_area n p κ
def impl_polygon_area_CG {α : Type} (F0 : Nat → (List (Int × Int)) → (Int → Option α) → Option α) (n : Nat) : FuncId → List D → (Res → Option α) → Option α := tabC [(318, (byShape impl_polygon_sum_1F_impl_det_sh (impl_polygon_sum_1F_impl_det_runG F0 n)))]
def impl_polygon_area_C {α : Type} (n : Nat) : FuncId → List D → (Res → Option α) → Option α := impl_polygon_area_CG impl_polygon_sum_1F_impl_det n
def impl_polygon_area_M : FuncId → List Nat := tabM []
def impl_polygon_area_lpsG {α : Type}  : List (LoopT α) := []
def impl_polygon_area_lps {α : Type} : List (LoopT α) := impl_polygon_area_lpsG
def impl_polygon_area_XG {α : Type} (F0 : Nat → (List (Int × Int)) → (Int → Option α) → Option α)  (n : Nat) : Ctx α := ⟨impl_polygon_area_CG F0 n, impl_polygon_area_M, eqs, lpOf (impl_polygon_area_lpsG) n⟩
def impl_polygon_area_X {α : Type} (n : Nat) : Ctx α := impl_polygon_area_XG impl_polygon_sum_1F_impl_det n
def impl_polygon_area_Lt (np : Nat) (lent : List (Bool × Nat × Blk)) : Prop := np = 1 ∧ lent = []
def impl_polygon_area_body {α : Type} (F0 : Nat → (List (Int × Int)) → (Int → Option α) → Option α)  (k : Nat) (p_ : List (Int × Int)) (r0 : Int → Option α) : Option α :=
  F0 k p_ fun v =>
  r0 v
theorem impl_polygon_area_gen {α : Type} (F0 : Nat → (List (Int × Int)) → (Int → Option α) → Option α)  (n : Nat) (p_ : List (Int × Int)) (κ : Res → Option α) : evFn Try.prog (impl_polygon_area_XG F0 n) Try.f285 (((buildDs impl_polygon_area_sh [.rows .pt p_]).map Prod.fst).getD []) κ = impl_polygon_area_body F0 n p_ (fun v1 => κ ⟨[.int .i64 v1], []⟩) := by kernel_rfl
theorem impl_polygon_area_eq {α : Type} (n : Nat) (p_ : List (Int × Int)) (r0 : Int → Option α) : impl_polygon_area_body impl_polygon_sum_1F_impl_det n p_ r0 = impl_polygon_area n p_ r0 := (impl_polygon_area_body.eq_1 impl_polygon_sum_1F_impl_det n p_ r0).trans (impl_polygon_area.eq_1 n p_ r0).symm
theorem impl_polygon_area_rn {α : Type} (F : Nat → (List (Int × Int)) → (Int → Option α) → Option α) (n : Nat) (p_ : List (Int × Int)) (κ : Res → Option α) : impl_polygon_area_runG F n [.rows .pt p_] κ = F n p_ (fun v1 => κ ⟨[.int .i64 v1], []⟩) := rfl
theorem impl_polygon_area_ev {α : Type} (n : Nat) (p_ : List (Int × Int)) (κ : Res → Option α) : evFn Try.prog (impl_polygon_area_X n) Try.f285 (((buildDs impl_polygon_area_sh [.rows .pt p_]).map Prod.fst).getD []) κ = impl_polygon_area_run n [.rows .pt p_] κ := (impl_polygon_area_gen impl_polygon_sum_1F_impl_det n p_ κ).trans ((impl_polygon_area_eq n p_ (fun v1 => κ ⟨[.int .i64 v1], []⟩)).trans ((impl_polygon_area_run.eq_1 n [.rows .pt p_] κ).trans (impl_polygon_area_rn impl_polygon_area n p_ κ)).symm)
theorem impl_polygon_area_en (p_ : List (Int × Int)) : (entry 0 (((buildDs impl_polygon_area_sh [.rows .pt p_]).map Prod.fst).getD [])).map (fun x => (x.1.length, x.2.lent)) = some (1, []) := by kernel_rfl
theorem impl_polygon_area_good {α : Type} : ∀ n, GoodFn (α := α) Try.prog 285 (byShape impl_polygon_area_sh (impl_polygon_area_run n)) := by
  refine fn_good' Try.func285 (c := (Try.f285.body.getD .skip)) (by kernel_rfl) (by kernel_rfl) (by kernel_rfl) impl_polygon_area_C impl_polygon_area_M eqs impl_polygon_area_lps (fun n => tabC_good (List.forall_mem_cons.2 ⟨(impl_polygon_sum_1F_impl_det_good n), (fun _ h => absurd h List.not_mem_nil)⟩)) eqs_ok impl_polygon_area_Lt ?_ ?_ impl_polygon_area_sh impl_polygon_area_run ?_
  · exact (fun _ h => absurd h List.not_mem_nil)
  · exact (fun _ h => absurd h List.not_mem_nil)
  · intro n p κ r ds hd hr
    have hr0 := hr
    unfold impl_polygon_area_run impl_polygon_area_runG at hr
    split at hr
    · rw [← ds_of hd]
      exact ⟨en_of (impl_polygon_area_en _) ⟨rfl, rfl⟩, (impl_polygon_area_ev n _ κ).trans hr0⟩
    · cases hr

/-! loop.example/g01297/impl.size -/
def impl_size_sh : List SkD := [.int .i64]
def impl_size_runG {α : Type} (F : Nat → Int → (Int → Option α) → Option α) (n : Nat) (p : List P1) (κ : Res → Option α) : Option α := match p with
  | [.int n_] => F n n_ (fun v1 => κ ⟨[.int .i64 v1], []⟩)
  | _ => none
def impl_size_run {α : Type} (n : Nat) (p : List P1) (κ : Res → Option α) : Option α := impl_size_runG impl_size n p κ
def impl_size_CG {α : Type}  (n : Nat) : FuncId → List D → (Res → Option α) → Option α := tabC []
def impl_size_C {α : Type} (n : Nat) : FuncId → List D → (Res → Option α) → Option α := impl_size_CG n
def impl_size_M : FuncId → List Nat := tabM []
def impl_size_lpsG {α : Type}  : List (LoopT α) := []
def impl_size_lps {α : Type} : List (LoopT α) := impl_size_lpsG
def impl_size_XG {α : Type}   (n : Nat) : Ctx α := ⟨impl_size_CG n, impl_size_M, eqs, lpOf (impl_size_lpsG) n⟩
def impl_size_X {α : Type} (n : Nat) : Ctx α := impl_size_XG n
def impl_size_Lt (np : Nat) (lent : List (Bool × Nat × Blk)) : Prop := np = 1 ∧ lent = []
def impl_size_body {α : Type}   (k : Nat) (n_ : Int) (r0 : Int → Option α) : Option α :=
  r0 (max n_ (w64 (0 - n_)))
theorem impl_size_gen {α : Type}   (n : Nat) (n_ : Int) (κ : Res → Option α) : evFn Try.prog (impl_size_XG n) Try.f266 (((buildDs impl_size_sh [.int n_]).map Prod.fst).getD []) κ = impl_size_body n n_ (fun v1 => κ ⟨[.int .i64 v1], []⟩) := by kernel_rfl
theorem impl_size_eq {α : Type} (n : Nat) (n_ : Int) (r0 : Int → Option α) : impl_size_body n n_ r0 = impl_size n n_ r0 := (impl_size_body.eq_1 n n_ r0).trans (impl_size.eq_1 n n_ r0).symm
theorem impl_size_rn {α : Type} (F : Nat → Int → (Int → Option α) → Option α) (n : Nat) (n_ : Int) (κ : Res → Option α) : impl_size_runG F n [.int n_] κ = F n n_ (fun v1 => κ ⟨[.int .i64 v1], []⟩) := rfl
theorem impl_size_ev {α : Type} (n : Nat) (n_ : Int) (κ : Res → Option α) : evFn Try.prog (impl_size_X n) Try.f266 (((buildDs impl_size_sh [.int n_]).map Prod.fst).getD []) κ = impl_size_run n [.int n_] κ := (impl_size_gen n n_ κ).trans ((impl_size_eq n n_ (fun v1 => κ ⟨[.int .i64 v1], []⟩)).trans ((impl_size_run.eq_1 n [.int n_] κ).trans (impl_size_rn impl_size n n_ κ)).symm)
theorem impl_size_en (n_ : Int) : (entry 0 (((buildDs impl_size_sh [.int n_]).map Prod.fst).getD [])).map (fun x => (x.1.length, x.2.lent)) = some (1, []) := by kernel_rfl
theorem impl_size_good {α : Type} : ∀ n, GoodFn (α := α) Try.prog 266 (byShape impl_size_sh (impl_size_run n)) := by
  refine fn_good' Try.func266 (c := (Try.f266.body.getD .skip)) (by kernel_rfl) (by kernel_rfl) (by kernel_rfl) impl_size_C impl_size_M eqs impl_size_lps (fun n => tabC_good (fun _ h => absurd h List.not_mem_nil)) eqs_ok impl_size_Lt ?_ ?_ impl_size_sh impl_size_run ?_
  · exact (fun _ h => absurd h List.not_mem_nil)
  · exact (fun _ h => absurd h List.not_mem_nil)
  · intro n p κ r ds hd hr
    have hr0 := hr
    unfold impl_size_run impl_size_runG at hr
    split at hr
    · rw [← ds_of hd]
      exact ⟨en_of (impl_size_en _) ⟨rfl, rfl⟩, (impl_size_ev n _ κ).trans hr0⟩
    · cases hr

/-! loop.example/g01297/impl.gcd -/
def impl_gcd_sh : List SkD := [.int .i64, .int .i64]
def impl_gcd_runG {α : Type} (F : Nat → Int → Int → (Int → Option α) → Option α) (n : Nat) (p : List P1) (κ : Res → Option α) : Option α := match p with
  | [.int a, .int b_] => F n a b_ (fun v1 => κ ⟨[.int .i64 v1], []⟩)
  | _ => none
def impl_gcd_run {α : Type} (n : Nat) (p : List P1) (κ : Res → Option α) : Option α := impl_gcd_runG impl_gcd n p κ
def impl_gcd_CG {α : Type} (F0 : Nat → Int → (Int → Option α) → Option α) (n : Nat) : FuncId → List D → (Res → Option α) → Option α := tabC [(266, (byShape impl_size_sh (impl_size_runG F0 n)))]
def impl_gcd_C {α : Type} (n : Nat) : FuncId → List D → (Res → Option α) → Option α := impl_gcd_CG impl_size n
def impl_gcd_M : FuncId → List Nat := tabM []
def impl_gcd_t1 : Tpl := ⟨[.int .i64, .int .i64, .any, .any, .any, .any, .any, .any, .any, .any, .any, .any, .any], [], []⟩
def impl_gcd_uG1 {α : Type} (G : Nat → Int → Int → (Int → Int → Option α) → (Int → Option α) → Option α) (n : Nat) (p : List P1) (brk : Nat → List P1 → Option α) (ret : Res → Option α) : Option α := match p with
  | [.int a1, .int b_1] => G n a1 b_1 (fun a1 b_1 => brk 0 [.int a1, .int b_1]) (fun v1 => ret ⟨[.int .i64 v1], []⟩)
  | _ => none
def impl_gcd_u1 {α : Type} (n : Nat) (p : List P1) (brk : Nat → List P1 → Option α) (ret : Res → Option α) : Option α := impl_gcd_uG1 impl_gcd_l1 n p brk ret
def impl_gcd_lpsG {α : Type} (G1 : Nat → Int → Int → (Int → Int → Option α) → (Int → Option α) → Option α) : List (LoopT α) := [⟨1, impl_gcd_t1, impl_gcd_uG1 G1⟩]
def impl_gcd_lps {α : Type} : List (LoopT α) := impl_gcd_lpsG impl_gcd_l1
def impl_gcd_XG {α : Type} (F0 : Nat → Int → (Int → Option α) → Option α) (G1 : Nat → Int → Int → (Int → Int → Option α) → (Int → Option α) → Option α) (n : Nat) : Ctx α := ⟨impl_gcd_CG F0 n, impl_gcd_M, eqs, lpOf (impl_gcd_lpsG G1) n⟩
def impl_gcd_X {α : Type} (n : Nat) : Ctx α := impl_gcd_XG impl_size impl_gcd_l1 n
def impl_gcd_Lt (np : Nat) (lent : List (Bool × Nat × Blk)) : Prop := np = 2 ∧ lent = []
def impl_gcd_lb1 {α : Type} (F0 : Nat → Int → (Int → Option α) → Option α) (G1 : Nat → Int → Int → (Int → Int → Option α) → (Int → Option α) → Option α) (k : Nat) (a1 : Int) (b_1 : Int) (b0 : Int → Int → Option α) (r0 : Int → Option α) : Option α :=
  bif (!decide (b_1 = 0)) then
    bif decide (b_1 = 0) then
      none
    else
      G1 k b_1 (Int.tmod a1 b_1) b0 r0
  else
    b0 a1 b_1
theorem impl_gcd_l1_gen {α : Type} (F0 : Nat → Int → (Int → Option α) → Option α) (G1 : Nat → Int → Int → (Int → Int → Option α) → (Int → Option α) → Option α) (n : Nat) (a1 : Int) (b_1 : Int) (brk : Nat → List P1 → Option α) (ret : Res → Option α) : ev ((impl_gcd_XG F0 G1 n).env Try.prog Try.f307 2 []) (findLoop (loopsIn (Try.f307.body.getD .skip)) 1) ((impl_gcd_t1.build [.int a1, .int b_1]).getD ⟨[], []⟩) (roundK (2 * 64) impl_gcd_t1 (fun q => impl_gcd_uG1 G1 n q brk ret) brk ret) = impl_gcd_lb1 F0 G1 n a1 b_1 (fun a1 b_1 => brk 0 [.int a1, .int b_1]) (fun v1 => ret ⟨[.int .i64 v1], []⟩) := by kernel_rfl
theorem impl_gcd_l1_eq {α : Type} (k : Nat) (a1 : Int) (b_1 : Int) (b0 : Int → Int → Option α) (r0 : Int → Option α) : impl_gcd_lb1 impl_size impl_gcd_l1 k a1 b_1 b0 r0 = impl_gcd_l1 (k + 1) a1 b_1 b0 r0 := (impl_gcd_lb1.eq_1 impl_size impl_gcd_l1 k a1 b_1 b0 r0).trans (show impl_gcd_l1 (k + 1) a1 b_1 b0 r0 = _ from impl_gcd_l1.eq_2 _ _ _ _ _ ).symm
theorem impl_gcd_l1_rn {α : Type} (G : Nat → Int → Int → (Int → Int → Option α) → (Int → Option α) → Option α) (n : Nat) (a1 : Int) (b_1 : Int) (brk : Nat → List P1 → Option α) (ret : Res → Option α) : impl_gcd_uG1 G n [.int a1, .int b_1] brk ret = G n a1 b_1 (fun a1 b_1 => brk 0 [.int a1, .int b_1]) (fun v1 => ret ⟨[.int .i64 v1], []⟩) := rfl
theorem impl_gcd_l1_ev {α : Type} (n : Nat) (a1 : Int) (b_1 : Int) (brk : Nat → List P1 → Option α) (ret : Res → Option α) : ev ((impl_gcd_X n).env Try.prog Try.f307 2 []) (findLoop (loopsIn (Try.f307.body.getD .skip)) 1) ((impl_gcd_t1.build [.int a1, .int b_1]).getD ⟨[], []⟩) (roundK (2 * 64) impl_gcd_t1 (fun q => impl_gcd_u1 n q brk ret) brk ret) = impl_gcd_u1 (n + 1) [.int a1, .int b_1] brk ret := (impl_gcd_l1_gen impl_size impl_gcd_l1 n a1 b_1 brk ret).trans ((impl_gcd_l1_eq n a1 b_1 (fun a1 b_1 => brk 0 [.int a1, .int b_1]) (fun v1 => ret ⟨[.int .i64 v1], []⟩)).trans ((impl_gcd_u1.eq_1 (n + 1) [.int a1, .int b_1] brk ret).trans (impl_gcd_l1_rn impl_gcd_l1 (n + 1) a1 b_1 brk ret)).symm)
def impl_gcd_body {α : Type} (F0 : Nat → Int → (Int → Option α) → Option α) (G1 : Nat → Int → Int → (Int → Int → Option α) → (Int → Option α) → Option α) (k : Nat) (a : Int) (b_ : Int) (r0 : Int → Option α) : Option α :=
  G1 k a b_
    (fun a2 b_2 =>
      F0 k a2 fun v =>
      r0 v)
    r0
theorem impl_gcd_gen {α : Type} (F0 : Nat → Int → (Int → Option α) → Option α) (G1 : Nat → Int → Int → (Int → Int → Option α) → (Int → Option α) → Option α) (n : Nat) (a : Int) (b_ : Int) (κ : Res → Option α) : evFn Try.prog (impl_gcd_XG F0 G1 n) Try.f307 (((buildDs impl_gcd_sh [.int a, .int b_]).map Prod.fst).getD []) κ = impl_gcd_body F0 G1 n a b_ (fun v1 => κ ⟨[.int .i64 v1], []⟩) := by kernel_rfl
theorem impl_gcd_eq {α : Type} (n : Nat) (a : Int) (b_ : Int) (r0 : Int → Option α) : impl_gcd_body impl_size impl_gcd_l1 n a b_ r0 = impl_gcd n a b_ r0 := (impl_gcd_body.eq_1 impl_size impl_gcd_l1 n a b_ r0).trans (impl_gcd.eq_1 n a b_ r0).symm
theorem impl_gcd_rn {α : Type} (F : Nat → Int → Int → (Int → Option α) → Option α) (n : Nat) (a : Int) (b_ : Int) (κ : Res → Option α) : impl_gcd_runG F n [.int a, .int b_] κ = F n a b_ (fun v1 => κ ⟨[.int .i64 v1], []⟩) := rfl
theorem impl_gcd_ev {α : Type} (n : Nat) (a : Int) (b_ : Int) (κ : Res → Option α) : evFn Try.prog (impl_gcd_X n) Try.f307 (((buildDs impl_gcd_sh [.int a, .int b_]).map Prod.fst).getD []) κ = impl_gcd_run n [.int a, .int b_] κ := (impl_gcd_gen impl_size impl_gcd_l1 n a b_ κ).trans ((impl_gcd_eq n a b_ (fun v1 => κ ⟨[.int .i64 v1], []⟩)).trans ((impl_gcd_run.eq_1 n [.int a, .int b_] κ).trans (impl_gcd_rn impl_gcd n a b_ κ)).symm)
theorem impl_gcd_en (a : Int) (b_ : Int) : (entry 0 (((buildDs impl_gcd_sh [.int a, .int b_]).map Prod.fst).getD [])).map (fun x => (x.1.length, x.2.lent)) = some (2, []) := by kernel_rfl
theorem impl_gcd_good {α : Type} : ∀ n, GoodFn (α := α) Try.prog 307 (byShape impl_gcd_sh (impl_gcd_run n)) := by
  refine fn_good' Try.func307 (c := (Try.f307.body.getD .skip)) (by kernel_rfl) (by kernel_rfl) (by kernel_rfl) impl_gcd_C impl_gcd_M eqs impl_gcd_lps (fun n => tabC_good (List.forall_mem_cons.2 ⟨(impl_size_good n), (fun _ h => absurd h List.not_mem_nil)⟩)) eqs_ok impl_gcd_Lt ?_ ?_ impl_gcd_sh impl_gcd_run ?_
  · refine List.forall_mem_cons.2 ⟨?_, (fun _ h => absurd h List.not_mem_nil)⟩
    · intro p brk ret; show impl_gcd_u1 0 p brk ret = none; unfold impl_gcd_u1 impl_gcd_uG1; split <;> rfl
  · refine List.forall_mem_cons.2 ⟨?_, (fun _ h => absurd h List.not_mem_nil)⟩
    · intro np lent hL n p brk ret st r hb hr
      obtain ⟨rfl, rfl⟩ := hL
      rw [← tpl_of hb]
      change impl_gcd_u1 (n + 1) p brk ret = some r at hr
      have hr0 := hr
      unfold impl_gcd_u1 impl_gcd_uG1 at hr
      split at hr
      · exact (impl_gcd_l1_ev n _ _ brk ret).trans hr0
      · cases hr
  · intro n p κ r ds hd hr
    have hr0 := hr
    unfold impl_gcd_run impl_gcd_runG at hr
    split at hr
    · rw [← ds_of hd]
      exact ⟨en_of (impl_gcd_en _ _) ⟨rfl, rfl⟩, (impl_gcd_ev n _ _ κ).trans hr0⟩
    · cases hr

/-! (loop.example/g01297/impl.Point).length -/
def impl_Point_length_sh : List SkD := [.agg [.int .i64, .int .i64]]
def impl_Point_length_runG {α : Type} (F : Nat → Int → Int → (Int → Option α) → Option α) (n : Nat) (p : List P1) (κ : Res → Option α) : Option α := match p with
  | [.int a, .int a1] => F n a a1 (fun v1 => κ ⟨[.int .i64 v1], []⟩)
  | _ => none
def impl_Point_length_run {α : Type} (n : Nat) (p : List P1) (κ : Res → Option α) : Option α := impl_Point_length_runG impl_Point_length n p κ
def impl_Point_length_CG {α : Type} (F0 : Nat → Int → Int → (Int → Option α) → Option α) (n : Nat) : FuncId → List D → (Res → Option α) → Option α := tabC [(307, (byShape impl_gcd_sh (impl_gcd_runG F0 n)))]
def impl_Point_length_C {α : Type} (n : Nat) : FuncId → List D → (Res → Option α) → Option α := impl_Point_length_CG impl_gcd n
def impl_Point_length_M : FuncId → List Nat := tabM []
def impl_Point_length_lpsG {α : Type}  : List (LoopT α) := []
def impl_Point_length_lps {α : Type} : List (LoopT α) := impl_Point_length_lpsG
def impl_Point_length_XG {α : Type} (F0 : Nat → Int → Int → (Int → Option α) → Option α)  (n : Nat) : Ctx α := ⟨impl_Point_length_CG F0 n, impl_Point_length_M, eqs, lpOf (impl_Point_length_lpsG) n⟩
def impl_Point_length_X {α : Type} (n : Nat) : Ctx α := impl_Point_length_XG impl_gcd n
def impl_Point_length_Lt (np : Nat) (lent : List (Bool × Nat × Blk)) : Prop := np = 1 ∧ lent = []
def impl_Point_length_body {α : Type} (F0 : Nat → Int → Int → (Int → Option α) → Option α)  (k : Nat) (a : Int) (a1 : Int) (r0 : Int → Option α) : Option α :=
  F0 k a a1 fun v =>
  r0 v
theorem impl_Point_length_gen {α : Type} (F0 : Nat → Int → Int → (Int → Option α) → Option α)  (n : Nat) (a : Int) (a1 : Int) (κ : Res → Option α) : evFn Try.prog (impl_Point_length_XG F0 n) Try.f234 (((buildDs impl_Point_length_sh [.int a, .int a1]).map Prod.fst).getD []) κ = impl_Point_length_body F0 n a a1 (fun v1 => κ ⟨[.int .i64 v1], []⟩) := by kernel_rfl
theorem impl_Point_length_eq {α : Type} (n : Nat) (a : Int) (a1 : Int) (r0 : Int → Option α) : impl_Point_length_body impl_gcd n a a1 r0 = impl_Point_length n a a1 r0 := (impl_Point_length_body.eq_1 impl_gcd n a a1 r0).trans (impl_Point_length.eq_1 n a a1 r0).symm
theorem impl_Point_length_rn {α : Type} (F : Nat → Int → Int → (Int → Option α) → Option α) (n : Nat) (a : Int) (a1 : Int) (κ : Res → Option α) : impl_Point_length_runG F n [.int a, .int a1] κ = F n a a1 (fun v1 => κ ⟨[.int .i64 v1], []⟩) := rfl
theorem impl_Point_length_ev {α : Type} (n : Nat) (a : Int) (a1 : Int) (κ : Res → Option α) : evFn Try.prog (impl_Point_length_X n) Try.f234 (((buildDs impl_Point_length_sh [.int a, .int a1]).map Prod.fst).getD []) κ = impl_Point_length_run n [.int a, .int a1] κ := (impl_Point_length_gen impl_gcd n a a1 κ).trans ((impl_Point_length_eq n a a1 (fun v1 => κ ⟨[.int .i64 v1], []⟩)).trans ((impl_Point_length_run.eq_1 n [.int a, .int a1] κ).trans (impl_Point_length_rn impl_Point_length n a a1 κ)).symm)
theorem impl_Point_length_en (a : Int) (a1 : Int) : (entry 0 (((buildDs impl_Point_length_sh [.int a, .int a1]).map Prod.fst).getD [])).map (fun x => (x.1.length, x.2.lent)) = some (1, []) := by kernel_rfl
theorem impl_Point_length_good {α : Type} : ∀ n, GoodFn (α := α) Try.prog 234 (byShape impl_Point_length_sh (impl_Point_length_run n)) := by
  refine fn_good' Try.func234 (c := (Try.f234.body.getD .skip)) (by kernel_rfl) (by kernel_rfl) (by kernel_rfl) impl_Point_length_C impl_Point_length_M eqs impl_Point_length_lps (fun n => tabC_good (List.forall_mem_cons.2 ⟨(impl_gcd_good n), (fun _ h => absurd h List.not_mem_nil)⟩)) eqs_ok impl_Point_length_Lt ?_ ?_ impl_Point_length_sh impl_Point_length_run ?_
  · exact (fun _ h => absurd h List.not_mem_nil)
  · exact (fun _ h => absurd h List.not_mem_nil)
  · intro n p κ r ds hd hr
    have hr0 := hr
    unfold impl_Point_length_run impl_Point_length_runG at hr
    split at hr
    · rw [← ds_of hd]
      exact ⟨en_of (impl_Point_length_en _ _) ⟨rfl, rfl⟩, (impl_Point_length_ev n _ _ κ).trans hr0⟩
    · cases hr

/-! (loop.example/g01297/impl.polygon).border$1 -/
def impl_polygon_border_1_sh : List SkD := [.agg [.int .i64, .int .i64], .agg [.int .i64, .int .i64]]
def impl_polygon_border_1_runG {α : Type} (F : Nat → Int → Int → Int → Int → (Int → Option α) → Option α) (n : Nat) (p : List P1) (κ : Res → Option α) : Option α := match p with
  | [.int a, .int a1, .int b_, .int b_1] => F n a a1 b_ b_1 (fun v1 => κ ⟨[.int .i64 v1], []⟩)
  | _ => none
def impl_polygon_border_1_run {α : Type} (n : Nat) (p : List P1) (κ : Res → Option α) : Option α := impl_polygon_border_1_runG impl_polygon_border_1 n p κ
def impl_polygon_border_1_CG {α : Type} (F0 : Nat → Int → Int → Int → Int → (Int → Int → Option α) → Option α) (F1 : Nat → Int → Int → (Int → Option α) → Option α) (n : Nat) : FuncId → List D → (Res → Option α) → Option α := tabC [(233, (byShape impl_Point_less_sh (impl_Point_less_runG F0 n))), (234, (byShape impl_Point_length_sh (impl_Point_length_runG F1 n)))]
def impl_polygon_border_1_C {α : Type} (n : Nat) : FuncId → List D → (Res → Option α) → Option α := impl_polygon_border_1_CG impl_Point_less impl_Point_length n
def impl_polygon_border_1_M : FuncId → List Nat := tabM []
def impl_polygon_border_1_lpsG {α : Type}  : List (LoopT α) := []
def impl_polygon_border_1_lps {α : Type} : List (LoopT α) := impl_polygon_border_1_lpsG
def impl_polygon_border_1_XG {α : Type} (F0 : Nat → Int → Int → Int → Int → (Int → Int → Option α) → Option α) (F1 : Nat → Int → Int → (Int → Option α) → Option α)  (n : Nat) : Ctx α := ⟨impl_polygon_border_1_CG F0 F1 n, impl_polygon_border_1_M, eqs, lpOf (impl_polygon_border_1_lpsG) n⟩
def impl_polygon_border_1_X {α : Type} (n : Nat) : Ctx α := impl_polygon_border_1_XG impl_Point_less impl_Point_length n
def impl_polygon_border_1_Lt (np : Nat) (lent : List (Bool × Nat × Blk)) : Prop := np = 2 ∧ lent = []
def impl_polygon_border_1_body {α : Type} (F0 : Nat → Int → Int → Int → Int → (Int → Int → Option α) → Option α) (F1 : Nat → Int → Int → (Int → Option α) → Option α)  (k : Nat) (a : Int) (a1 : Int) (b_ : Int) (b_1 : Int) (r0 : Int → Option α) : Option α :=
  F0 k b_ b_1 a a1 fun v v1 =>
  F1 k v v1 fun v2 =>
  r0 v2
theorem impl_polygon_border_1_gen {α : Type} (F0 : Nat → Int → Int → Int → Int → (Int → Int → Option α) → Option α) (F1 : Nat → Int → Int → (Int → Option α) → Option α)  (n : Nat) (a : Int) (a1 : Int) (b_ : Int) (b_1 : Int) (κ : Res → Option α) : evFn Try.prog (impl_polygon_border_1_XG F0 F1 n) Try.f319 (((buildDs impl_polygon_border_1_sh [.int a, .int a1, .int b_, .int b_1]).map Prod.fst).getD []) κ = impl_polygon_border_1_body F0 F1 n a a1 b_ b_1 (fun v1 => κ ⟨[.int .i64 v1], []⟩) := by kernel_rfl
theorem impl_polygon_border_1_eq {α : Type} (n : Nat) (a : Int) (a1 : Int) (b_ : Int) (b_1 : Int) (r0 : Int → Option α) : impl_polygon_border_1_body impl_Point_less impl_Point_length n a a1 b_ b_1 r0 = impl_polygon_border_1 n a a1 b_ b_1 r0 := (impl_polygon_border_1_body.eq_1 impl_Point_less impl_Point_length n a a1 b_ b_1 r0).trans (impl_polygon_border_1.eq_1 n a a1 b_ b_1 r0).symm
theorem impl_polygon_border_1_rn {α : Type} (F : Nat → Int → Int → Int → Int → (Int → Option α) → Option α) (n : Nat) (a : Int) (a1 : Int) (b_ : Int) (b_1 : Int) (κ : Res → Option α) : impl_polygon_border_1_runG F n [.int a, .int a1, .int b_, .int b_1] κ = F n a a1 b_ b_1 (fun v1 => κ ⟨[.int .i64 v1], []⟩) := rfl
theorem impl_polygon_border_1_ev {α : Type} (n : Nat) (a : Int) (a1 : Int) (b_ : Int) (b_1 : Int) (κ : Res → Option α) : evFn Try.prog (impl_polygon_border_1_X n) Try.f319 (((buildDs impl_polygon_border_1_sh [.int a, .int a1, .int b_, .int b_1]).map Prod.fst).getD []) κ = impl_polygon_border_1_run n [.int a, .int a1, .int b_, .int b_1] κ := (impl_polygon_border_1_gen impl_Point_less impl_Point_length n a a1 b_ b_1 κ).trans ((impl_polygon_border_1_eq n a a1 b_ b_1 (fun v1 => κ ⟨[.int .i64 v1], []⟩)).trans ((impl_polygon_border_1_run.eq_1 n [.int a, .int a1, .int b_, .int b_1] κ).trans (impl_polygon_border_1_rn impl_polygon_border_1 n a a1 b_ b_1 κ)).symm)
theorem impl_polygon_border_1_en (a : Int) (a1 : Int) (b_ : Int) (b_1 : Int) : (entry 0 (((buildDs impl_polygon_border_1_sh [.int a, .int a1, .int b_, .int b_1]).map Prod.fst).getD [])).map (fun x => (x.1.length, x.2.lent)) = some (2, []) := by kernel_rfl
theorem impl_polygon_border_1_good {α : Type} : ∀ n, GoodFn (α := α) Try.prog 319 (byShape impl_polygon_border_1_sh (impl_polygon_border_1_run n)) := by
  refine fn_good' Try.func319 (c := (Try.f319.body.getD .skip)) (by kernel_rfl) (by kernel_rfl) (by kernel_rfl) impl_polygon_border_1_C impl_polygon_border_1_M eqs impl_polygon_border_1_lps (fun n => tabC_good (List.forall_mem_cons.2 ⟨(impl_Point_less_good n), (List.forall_mem_cons.2 ⟨(impl_Point_length_good n), (fun _ h => absurd h List.not_mem_nil)⟩)⟩)) eqs_ok impl_polygon_border_1_Lt ?_ ?_ impl_polygon_border_1_sh impl_polygon_border_1_run ?_
  · exact (fun _ h => absurd h List.not_mem_nil)
  · exact (fun _ h => absurd h List.not_mem_nil)
  · intro n p κ r ds hd hr
    have hr0 := hr
    unfold impl_polygon_border_1_run impl_polygon_border_1_runG at hr
    split at hr
    · rw [← ds_of hd]
      exact ⟨en_of (impl_polygon_border_1_en _ _ _ _) ⟨rfl, rfl⟩, (impl_polygon_border_1_ev n _ _ _ _ κ).trans hr0⟩
    · cases hr

/-! (loop.example/g01297/impl.polygon).sum -/
def impl_polygon_sum_1F_impl_polygon_border_1_sh : List SkD := [.sl 26 .pt, .fn 319 []]
def impl_polygon_sum_1F_impl_polygon_border_1_runG {α : Type} (F : Nat → (List (Int × Int)) → (Int → Option α) → Option α) (n : Nat) (p : List P1) (κ : Res → Option α) : Option α := match p with
  | [.rows .pt p_] => F n p_ (fun v1 => κ ⟨[.int .i64 v1], []⟩)
  | _ => none
def impl_polygon_sum_1F_impl_polygon_border_1_run {α : Type} (n : Nat) (p : List P1) (κ : Res → Option α) : Option α := impl_polygon_sum_1F_impl_polygon_border_1_runG impl_polygon_sum_1F_impl_polygon_border_1 n p κ
def impl_polygon_sum_1F_impl_polygon_border_1_CG {α : Type} (F0 : Nat → (List (Int × Int)) → Int → (Int → Int → Option α) → Option α) (F1 : Nat → Int → Int → Int → Int → (Int → Option α) → Option α) (n : Nat) : FuncId → List D → (Res → Option α) → Option α := tabC [(186, (byShape impl_polygon_next_sh (impl_polygon_next_runG F0 n))), (319, (byShape impl_polygon_border_1_sh (impl_polygon_border_1_runG F1 n)))]
def impl_polygon_sum_1F_impl_polygon_border_1_C {α : Type} (n : Nat) : FuncId → List D → (Res → Option α) → Option α := impl_polygon_sum_1F_impl_polygon_border_1_CG impl_polygon_next impl_polygon_border_1 n
def impl_polygon_sum_1F_impl_polygon_border_1_M : FuncId → List Nat := tabM []
def impl_polygon_sum_1F_impl_polygon_border_1_t3 : Tpl := ⟨[.sl 0, .fn 319 [], .any, .any, .any, .int .i64, .any, .any, .sl 0, .int .i64, .int .i64, .any, .any, .any, .any, .any, .any, .any, .any, .any, .any, .any, .any, .any, .any], [(0, .rows 0 26 .pt)], []⟩
def impl_polygon_sum_1F_impl_polygon_border_1_uG3 {α : Type} (G : Nat → Int → Int → Int → (List (Int × Int)) → (Int → Int → Int → (List (Int × Int)) → Option α) → (Int → Option α) → Option α) (n : Nat) (p : List P1) (brk : Nat → List P1 → Option α) (ret : Res → Option α) : Option α := match p with
  | [.int out, .int x, .int x1, .rows .pt p_1] => G n out x x1 p_1 (fun out x x1 p_1 => brk 0 [.int out, .int x, .int x1, .rows .pt p_1]) (fun v1 => ret ⟨[.int .i64 v1], []⟩)
  | _ => none
def impl_polygon_sum_1F_impl_polygon_border_1_u3 {α : Type} (n : Nat) (p : List P1) (brk : Nat → List P1 → Option α) (ret : Res → Option α) : Option α := impl_polygon_sum_1F_impl_polygon_border_1_uG3 impl_polygon_sum_1F_impl_polygon_border_1_l3 n p brk ret
def impl_polygon_sum_1F_impl_polygon_border_1_lpsG {α : Type} (G3 : Nat → Int → Int → Int → (List (Int × Int)) → (Int → Int → Int → (List (Int × Int)) → Option α) → (Int → Option α) → Option α) : List (LoopT α) := [⟨3, impl_polygon_sum_1F_impl_polygon_border_1_t3, impl_polygon_sum_1F_impl_polygon_border_1_uG3 G3⟩]
def impl_polygon_sum_1F_impl_polygon_border_1_lps {α : Type} : List (LoopT α) := impl_polygon_sum_1F_impl_polygon_border_1_lpsG impl_polygon_sum_1F_impl_polygon_border_1_l3
def impl_polygon_sum_1F_impl_polygon_border_1_XG {α : Type} (F0 : Nat → (List (Int × Int)) → Int → (Int → Int → Option α) → Option α) (F1 : Nat → Int → Int → Int → Int → (Int → Option α) → Option α) (G3 : Nat → Int → Int → Int → (List (Int × Int)) → (Int → Int → Int → (List (Int × Int)) → Option α) → (Int → Option α) → Option α) (n : Nat) : Ctx α := ⟨impl_polygon_sum_1F_impl_polygon_border_1_CG F0 F1 n, impl_polygon_sum_1F_impl_polygon_border_1_M, eqs, lpOf (impl_polygon_sum_1F_impl_polygon_border_1_lpsG G3) n⟩
def impl_polygon_sum_1F_impl_polygon_border_1_X {α : Type} (n : Nat) : Ctx α := impl_polygon_sum_1F_impl_polygon_border_1_XG impl_polygon_next impl_polygon_border_1 impl_polygon_sum_1F_impl_polygon_border_1_l3 n
def impl_polygon_sum_1F_impl_polygon_border_1_Lt (np : Nat) (lent : List (Bool × Nat × Blk)) : Prop := np = 2 ∧ lent = []
def impl_polygon_sum_1F_impl_polygon_border_1_lb3 {α : Type} (F0 : Nat → (List (Int × Int)) → Int → (Int → Int → Option α) → Option α) (F1 : Nat → Int → Int → Int → Int → (Int → Option α) → Option α) (G3 : Nat → Int → Int → Int → (List (Int × Int)) → (Int → Int → Int → (List (Int × Int)) → Option α) → (Int → Option α) → Option α) (k : Nat) (out : Int) (x : Int) (x1 : Int) (p_1 : List (Int × Int)) (b0 : Int → Int → Int → (List (Int × Int)) → Option α) (r0 : Int → Option α) : Option α :=
  bif decide (x1 < x) then
    bif (decide (0 ≤ x1) && decide (x1 < (((List.length p_1) : Nat) : Int))) then
      (p_1[x1.toNat]?).bind fun e_ =>
      F0 k p_1 x1 fun v v1 =>
      F1 k e_.1 e_.2 v v1 fun v2 =>
      G3 k (w64 (out + v2)) x (w64 (x1 + 1)) p_1 b0 r0
    else
      none
  else
    b0 out x x1 p_1
theorem impl_polygon_sum_1F_impl_polygon_border_1_l3_gen {α : Type} (F0 : Nat → (List (Int × Int)) → Int → (Int → Int → Option α) → Option α) (F1 : Nat → Int → Int → Int → Int → (Int → Option α) → Option α) (G3 : Nat → Int → Int → Int → (List (Int × Int)) → (Int → Int → Int → (List (Int × Int)) → Option α) → (Int → Option α) → Option α) (n : Nat) (out : Int) (x : Int) (x1 : Int) (p_1 : List (Int × Int)) (brk : Nat → List P1 → Option α) (ret : Res → Option α) : ev ((impl_polygon_sum_1F_impl_polygon_border_1_XG F0 F1 G3 n).env Try.prog Try.f318 2 []) (findLoop (loopsIn (Try.f318.body.getD .skip)) 3) ((impl_polygon_sum_1F_impl_polygon_border_1_t3.build [.int out, .int x, .int x1, .rows .pt p_1]).getD ⟨[], []⟩) (roundK (2 * 64) impl_polygon_sum_1F_impl_polygon_border_1_t3 (fun q => impl_polygon_sum_1F_impl_polygon_border_1_uG3 G3 n q brk ret) brk ret) = impl_polygon_sum_1F_impl_polygon_border_1_lb3 F0 F1 G3 n out x x1 p_1 (fun out x x1 p_1 => brk 0 [.int out, .int x, .int x1, .rows .pt p_1]) (fun v1 => ret ⟨[.int .i64 v1], []⟩) := by kernel_rfl
theorem impl_polygon_sum_1F_impl_polygon_border_1_l3_eq {α : Type} (k : Nat) (out : Int) (x : Int) (x1 : Int) (p_1 : List (Int × Int)) (b0 : Int → Int → Int → (List (Int × Int)) → Option α) (r0 : Int → Option α) : impl_polygon_sum_1F_impl_polygon_border_1_lb3 impl_polygon_next impl_polygon_border_1 impl_polygon_sum_1F_impl_polygon_border_1_l3 k out x x1 p_1 b0 r0 = impl_polygon_sum_1F_impl_polygon_border_1_l3 (k + 1) out x x1 p_1 b0 r0 := (impl_polygon_sum_1F_impl_polygon_border_1_lb3.eq_1 impl_polygon_next impl_polygon_border_1 impl_polygon_sum_1F_impl_polygon_border_1_l3 k out x x1 p_1 b0 r0).trans (show impl_polygon_sum_1F_impl_polygon_border_1_l3 (k + 1) out x x1 p_1 b0 r0 = _ from impl_polygon_sum_1F_impl_polygon_border_1_l3.eq_2 _ _ _ _ _ _ _ ).symm
theorem impl_polygon_sum_1F_impl_polygon_border_1_l3_rn {α : Type} (G : Nat → Int → Int → Int → (List (Int × Int)) → (Int → Int → Int → (List (Int × Int)) → Option α) → (Int → Option α) → Option α) (n : Nat) (out : Int) (x : Int) (x1 : Int) (p_1 : List (Int × Int)) (brk : Nat → List P1 → Option α) (ret : Res → Option α) : impl_polygon_sum_1F_impl_polygon_border_1_uG3 G n [.int out, .int x, .int x1, .rows .pt p_1] brk ret = G n out x x1 p_1 (fun out x x1 p_1 => brk 0 [.int out, .int x, .int x1, .rows .pt p_1]) (fun v1 => ret ⟨[.int .i64 v1], []⟩) := rfl
theorem impl_polygon_sum_1F_impl_polygon_border_1_l3_ev {α : Type} (n : Nat) (out : Int) (x : Int) (x1 : Int) (p_1 : List (Int × Int)) (brk : Nat → List P1 → Option α) (ret : Res → Option α) : ev ((impl_polygon_sum_1F_impl_polygon_border_1_X n).env Try.prog Try.f318 2 []) (findLoop (loopsIn (Try.f318.body.getD .skip)) 3) ((impl_polygon_sum_1F_impl_polygon_border_1_t3.build [.int out, .int x, .int x1, .rows .pt p_1]).getD ⟨[], []⟩) (roundK (2 * 64) impl_polygon_sum_1F_impl_polygon_border_1_t3 (fun q => impl_polygon_sum_1F_impl_polygon_border_1_u3 n q brk ret) brk ret) = impl_polygon_sum_1F_impl_polygon_border_1_u3 (n + 1) [.int out, .int x, .int x1, .rows .pt p_1] brk ret := (impl_polygon_sum_1F_impl_polygon_border_1_l3_gen impl_polygon_next impl_polygon_border_1 impl_polygon_sum_1F_impl_polygon_border_1_l3 n out x x1 p_1 brk ret).trans ((impl_polygon_sum_1F_impl_polygon_border_1_l3_eq n out x x1 p_1 (fun out x x1 p_1 => brk 0 [.int out, .int x, .int x1, .rows .pt p_1]) (fun v1 => ret ⟨[.int .i64 v1], []⟩)).trans ((impl_polygon_sum_1F_impl_polygon_border_1_u3.eq_1 (n + 1) [.int out, .int x, .int x1, .rows .pt p_1] brk ret).trans (impl_polygon_sum_1F_impl_polygon_border_1_l3_rn impl_polygon_sum_1F_impl_polygon_border_1_l3 (n + 1) out x x1 p_1 brk ret)).symm)
def impl_polygon_sum_1F_impl_polygon_border_1_body {α : Type} (F0 : Nat → (List (Int × Int)) → Int → (Int → Int → Option α) → Option α) (F1 : Nat → Int → Int → Int → Int → (Int → Option α) → Option α) (G3 : Nat → Int → Int → Int → (List (Int × Int)) → (Int → Int → Int → (List (Int × Int)) → Option α) → (Int → Option α) → Option α) (k : Nat) (p_ : List (Int × Int)) (r0 : Int → Option α) : Option α :=
  G3 k 0 (((List.length p_) : Nat) : Int) 0 p_
    (fun out1 x2 x3 p_2 =>
      r0 out1)
    r0
theorem impl_polygon_sum_1F_impl_polygon_border_1_gen {α : Type} (F0 : Nat → (List (Int × Int)) → Int → (Int → Int → Option α) → Option α) (F1 : Nat → Int → Int → Int → Int → (Int → Option α) → Option α) (G3 : Nat → Int → Int → Int → (List (Int × Int)) → (Int → Int → Int → (List (Int × Int)) → Option α) → (Int → Option α) → Option α) (n : Nat) (p_ : List (Int × Int)) (κ : Res → Option α) : evFn Try.prog (impl_polygon_sum_1F_impl_polygon_border_1_XG F0 F1 G3 n) Try.f318 (((buildDs impl_polygon_sum_1F_impl_polygon_border_1_sh [.rows .pt p_]).map Prod.fst).getD []) κ = impl_polygon_sum_1F_impl_polygon_border_1_body F0 F1 G3 n p_ (fun v1 => κ ⟨[.int .i64 v1], []⟩) := by kernel_rfl
theorem impl_polygon_sum_1F_impl_polygon_border_1_eq {α : Type} (n : Nat) (p_ : List (Int × Int)) (r0 : Int → Option α) : impl_polygon_sum_1F_impl_polygon_border_1_body impl_polygon_next impl_polygon_border_1 impl_polygon_sum_1F_impl_polygon_border_1_l3 n p_ r0 = impl_polygon_sum_1F_impl_polygon_border_1 n p_ r0 := (impl_polygon_sum_1F_impl_polygon_border_1_body.eq_1 impl_polygon_next impl_polygon_border_1 impl_polygon_sum_1F_impl_polygon_border_1_l3 n p_ r0).trans (impl_polygon_sum_1F_impl_polygon_border_1.eq_1 n p_ r0).symm
theorem impl_polygon_sum_1F_impl_polygon_border_1_rn {α : Type} (F : Nat → (List (Int × Int)) → (Int → Option α) → Option α) (n : Nat) (p_ : List (Int × Int)) (κ : Res → Option α) : impl_polygon_sum_1F_impl_polygon_border_1_runG F n [.rows .pt p_] κ = F n p_ (fun v1 => κ ⟨[.int .i64 v1], []⟩) := rfl
theorem impl_polygon_sum_1F_impl_polygon_border_1_ev {α : Type} (n : Nat) (p_ : List (Int × Int)) (κ : Res → Option α) : evFn Try.prog (impl_polygon_sum_1F_impl_polygon_border_1_X n) Try.f318 (((buildDs impl_polygon_sum_1F_impl_polygon_border_1_sh [.rows .pt p_]).map Prod.fst).getD []) κ = impl_polygon_sum_1F_impl_polygon_border_1_run n [.rows .pt p_] κ := (impl_polygon_sum_1F_impl_polygon_border_1_gen impl_polygon_next impl_polygon_border_1 impl_polygon_sum_1F_impl_polygon_border_1_l3 n p_ κ).trans ((impl_polygon_sum_1F_impl_polygon_border_1_eq n p_ (fun v1 => κ ⟨[.int .i64 v1], []⟩)).trans ((impl_polygon_sum_1F_impl_polygon_border_1_run.eq_1 n [.rows .pt p_] κ).trans (impl_polygon_sum_1F_impl_polygon_border_1_rn impl_polygon_sum_1F_impl_polygon_border_1 n p_ κ)).symm)
theorem impl_polygon_sum_1F_impl_polygon_border_1_en (p_ : List (Int × Int)) : (entry 0 (((buildDs impl_polygon_sum_1F_impl_polygon_border_1_sh [.rows .pt p_]).map Prod.fst).getD [])).map (fun x => (x.1.length, x.2.lent)) = some (2, []) := by kernel_rfl
theorem impl_polygon_sum_1F_impl_polygon_border_1_good {α : Type} : ∀ n, GoodFn (α := α) Try.prog 318 (byShape impl_polygon_sum_1F_impl_polygon_border_1_sh (impl_polygon_sum_1F_impl_polygon_border_1_run n)) := by
  refine fn_good' Try.func318 (c := (Try.f318.body.getD .skip)) (by kernel_rfl) (by kernel_rfl) (by kernel_rfl) impl_polygon_sum_1F_impl_polygon_border_1_C impl_polygon_sum_1F_impl_polygon_border_1_M eqs impl_polygon_sum_1F_impl_polygon_border_1_lps (fun n => tabC_good (List.forall_mem_cons.2 ⟨(impl_polygon_next_good n), (List.forall_mem_cons.2 ⟨(impl_polygon_border_1_good n), (fun _ h => absurd h List.not_mem_nil)⟩)⟩)) eqs_ok impl_polygon_sum_1F_impl_polygon_border_1_Lt ?_ ?_ impl_polygon_sum_1F_impl_polygon_border_1_sh impl_polygon_sum_1F_impl_polygon_border_1_run ?_
  · refine List.forall_mem_cons.2 ⟨?_, (fun _ h => absurd h List.not_mem_nil)⟩
    · intro p brk ret; show impl_polygon_sum_1F_impl_polygon_border_1_u3 0 p brk ret = none; unfold impl_polygon_sum_1F_impl_polygon_border_1_u3 impl_polygon_sum_1F_impl_polygon_border_1_uG3; split <;> rfl
  · refine List.forall_mem_cons.2 ⟨?_, (fun _ h => absurd h List.not_mem_nil)⟩
    · intro np lent hL n p brk ret st r hb hr
      obtain ⟨rfl, rfl⟩ := hL
      rw [← tpl_of hb]
      change impl_polygon_sum_1F_impl_polygon_border_1_u3 (n + 1) p brk ret = some r at hr
      have hr0 := hr
      unfold impl_polygon_sum_1F_impl_polygon_border_1_u3 impl_polygon_sum_1F_impl_polygon_border_1_uG3 at hr
      split at hr
      · exact (impl_polygon_sum_1F_impl_polygon_border_1_l3_ev n _ _ _ _ brk ret).trans hr0
      · cases hr
  · intro n p κ r ds hd hr
    have hr0 := hr
    unfold impl_polygon_sum_1F_impl_polygon_border_1_run impl_polygon_sum_1F_impl_polygon_border_1_runG at hr
    split at hr
    · rw [← ds_of hd]
      exact ⟨en_of (impl_polygon_sum_1F_impl_polygon_border_1_en _) ⟨rfl, rfl⟩, (impl_polygon_sum_1F_impl_polygon_border_1_ev n _ κ).trans hr0⟩
    · cases hr

/-! (loop.example/g01297/impl.polygon).border -/
def impl_polygon_border_sh : List SkD := [.sl 26 .pt]
def impl_polygon_border_runG {α : Type} (F : Nat → (List (Int × Int)) → (Int → Option α) → Option α) (n : Nat) (p : List P1) (κ : Res → Option α) : Option α := match p with
  | [.rows .pt p_] => F n p_ (fun v1 => κ ⟨[.int .i64 v1], []⟩)
  | _ => none
def impl_polygon_border_run {α : Type} (n : Nat) (p : List P1) (κ : Res → Option α) : Option α := impl_polygon_border_runG impl_polygon_border n p κ
def impl_polygon_border_CG {α : Type} (F0 : Nat → (List (Int × Int)) → (Int → Option α) → Option α) (n : Nat) : FuncId → List D → (Res → Option α) → Option α := tabC [(318, (byShape impl_polygon_sum_1F_impl_polygon_border_1_sh (impl_polygon_sum_1F_impl_polygon_border_1_runG F0 n)))]
def impl_polygon_border_C {α : Type} (n : Nat) : FuncId → List D → (Res → Option α) → Option α := impl_polygon_border_CG impl_polygon_sum_1F_impl_polygon_border_1 n
def impl_polygon_border_M : FuncId → List Nat := tabM []
def impl_polygon_border_lpsG {α : Type}  : List (LoopT α) := []
def impl_polygon_border_lps {α : Type} : List (LoopT α) := impl_polygon_border_lpsG
def impl_polygon_border_XG {α : Type} (F0 : Nat → (List (Int × Int)) → (Int → Option α) → Option α)  (n : Nat) : Ctx α := ⟨impl_polygon_border_CG F0 n, impl_polygon_border_M, eqs, lpOf (impl_polygon_border_lpsG) n⟩
def impl_polygon_border_X {α : Type} (n : Nat) : Ctx α := impl_polygon_border_XG impl_polygon_sum_1F_impl_polygon_border_1 n
def impl_polygon_border_Lt (np : Nat) (lent : List (Bool × Nat × Blk)) : Prop := np = 1 ∧ lent = []
def impl_polygon_border_body {α : Type} (F0 : Nat → (List (Int × Int)) → (Int → Option α) → Option α)  (k : Nat) (p_ : List (Int × Int)) (r0 : Int → Option α) : Option α :=
  F0 k p_ fun v =>
  r0 v
theorem impl_polygon_border_gen {α : Type} (F0 : Nat → (List (Int × Int)) → (Int → Option α) → Option α)  (n : Nat) (p_ : List (Int × Int)) (κ : Res → Option α) : evFn Try.prog (impl_polygon_border_XG F0 n) Try.f286 (((buildDs impl_polygon_border_sh [.rows .pt p_]).map Prod.fst).getD []) κ = impl_polygon_border_body F0 n p_ (fun v1 => κ ⟨[.int .i64 v1], []⟩) := by kernel_rfl
theorem impl_polygon_border_eq {α : Type} (n : Nat) (p_ : List (Int × Int)) (r0 : Int → Option α) : impl_polygon_border_body impl_polygon_sum_1F_impl_polygon_border_1 n p_ r0 = impl_polygon_border n p_ r0 := (impl_polygon_border_body.eq_1 impl_polygon_sum_1F_impl_polygon_border_1 n p_ r0).trans (impl_polygon_border.eq_1 n p_ r0).symm
theorem impl_polygon_border_rn {α : Type} (F : Nat → (List (Int × Int)) → (Int → Option α) → Option α) (n : Nat) (p_ : List (Int × Int)) (κ : Res → Option α) : impl_polygon_border_runG F n [.rows .pt p_] κ = F n p_ (fun v1 => κ ⟨[.int .i64 v1], []⟩) := rfl
theorem impl_polygon_border_ev {α : Type} (n : Nat) (p_ : List (Int × Int)) (κ : Res → Option α) : evFn Try.prog (impl_polygon_border_X n) Try.f286 (((buildDs impl_polygon_border_sh [.rows .pt p_]).map Prod.fst).getD []) κ = impl_polygon_border_run n [.rows .pt p_] κ := (impl_polygon_border_gen impl_polygon_sum_1F_impl_polygon_border_1 n p_ κ).trans ((impl_polygon_border_eq n p_ (fun v1 => κ ⟨[.int .i64 v1], []⟩)).trans ((impl_polygon_border_run.eq_1 n [.rows .pt p_] κ).trans (impl_polygon_border_rn impl_polygon_border n p_ κ)).symm)
theorem impl_polygon_border_en (p_ : List (Int × Int)) : (entry 0 (((buildDs impl_polygon_border_sh [.rows .pt p_]).map Prod.fst).getD [])).map (fun x => (x.1.length, x.2.lent)) = some (1, []) := by kernel_rfl
theorem impl_polygon_border_good {α : Type} : ∀ n, GoodFn (α := α) Try.prog 286 (byShape impl_polygon_border_sh (impl_polygon_border_run n)) := by
  refine fn_good' Try.func286 (c := (Try.f286.body.getD .skip)) (by kernel_rfl) (by kernel_rfl) (by kernel_rfl) impl_polygon_border_C impl_polygon_border_M eqs impl_polygon_border_lps (fun n => tabC_good (List.forall_mem_cons.2 ⟨(impl_polygon_sum_1F_impl_polygon_border_1_good n), (fun _ h => absurd h List.not_mem_nil)⟩)) eqs_ok impl_polygon_border_Lt ?_ ?_ impl_polygon_border_sh impl_polygon_border_run ?_
  · exact (fun _ h => absurd h List.not_mem_nil)
  · exact (fun _ h => absurd h List.not_mem_nil)
  · intro n p κ r ds hd hr
    have hr0 := hr
    unfold impl_polygon_border_run impl_polygon_border_runG at hr
    split at hr
    · rw [← ds_of hd]
      exact ⟨en_of (impl_polygon_border_en _) ⟨rfl, rfl⟩, (impl_polygon_border_ev n _ κ).trans hr0⟩
    · cases hr

/-! (loop.example/g01297/impl.polygon).inner -/
def impl_polygon_inner_sh : List SkD := [.sl 26 .pt]
def impl_polygon_inner_runG {α : Type} (F : Nat → (List (Int × Int)) → (Int → Option α) → Option α) (n : Nat) (p : List P1) (κ : Res → Option α) : Option α := match p with
  | [.rows .pt p_] => F n p_ (fun v1 => κ ⟨[.int .i64 v1], []⟩)
  | _ => none
def impl_polygon_inner_run {α : Type} (n : Nat) (p : List P1) (κ : Res → Option α) : Option α := impl_polygon_inner_runG impl_polygon_inner n p κ
def impl_polygon_inner_CG {α : Type} (F0 : Nat → (List (Int × Int)) → (Int → Option α) → Option α) (F1 : Nat → (List (Int × Int)) → (Int → Option α) → Option α) (n : Nat) : FuncId → List D → (Res → Option α) → Option α := tabC [(285, (byShape impl_polygon_area_sh (impl_polygon_area_runG F0 n))), (286, (byShape impl_polygon_border_sh (impl_polygon_border_runG F1 n)))]
def impl_polygon_inner_C {α : Type} (n : Nat) : FuncId → List D → (Res → Option α) → Option α := impl_polygon_inner_CG impl_polygon_area impl_polygon_border n
def impl_polygon_inner_M : FuncId → List Nat := tabM []
def impl_polygon_inner_lpsG {α : Type}  : List (LoopT α) := []
def impl_polygon_inner_lps {α : Type} : List (LoopT α) := impl_polygon_inner_lpsG
def impl_polygon_inner_XG {α : Type} (F0 : Nat → (List (Int × Int)) → (Int → Option α) → Option α) (F1 : Nat → (List (Int × Int)) → (Int → Option α) → Option α)  (n : Nat) : Ctx α := ⟨impl_polygon_inner_CG F0 F1 n, impl_polygon_inner_M, eqs, lpOf (impl_polygon_inner_lpsG) n⟩
def impl_polygon_inner_X {α : Type} (n : Nat) : Ctx α := impl_polygon_inner_XG impl_polygon_area impl_polygon_border n
def impl_polygon_inner_Lt (np : Nat) (lent : List (Bool × Nat × Blk)) : Prop := np = 1 ∧ lent = []
def impl_polygon_inner_body {α : Type} (F0 : Nat → (List (Int × Int)) → (Int → Option α) → Option α) (F1 : Nat → (List (Int × Int)) → (Int → Option α) → Option α)  (k : Nat) (p_ : List (Int × Int)) (r0 : Int → Option α) : Option α :=
  F0 k p_ fun v =>
  F1 k p_ fun v1 =>
  r0 (w64 (Int.tdiv (w64 ((w64 (v - v1)) + 2)) 2))
theorem impl_polygon_inner_gen {α : Type} (F0 : Nat → (List (Int × Int)) → (Int → Option α) → Option α) (F1 : Nat → (List (Int × Int)) → (Int → Option α) → Option α)  (n : Nat) (p_ : List (Int × Int)) (κ : Res → Option α) : evFn Try.prog (impl_polygon_inner_XG F0 F1 n) Try.f184 (((buildDs impl_polygon_inner_sh [.rows .pt p_]).map Prod.fst).getD []) κ = impl_polygon_inner_body F0 F1 n p_ (fun v1 => κ ⟨[.int .i64 v1], []⟩) := by kernel_rfl
theorem impl_polygon_inner_eq {α : Type} (n : Nat) (p_ : List (Int × Int)) (r0 : Int → Option α) : impl_polygon_inner_body impl_polygon_area impl_polygon_border n p_ r0 = impl_polygon_inner n p_ r0 := (impl_polygon_inner_body.eq_1 impl_polygon_area impl_polygon_border n p_ r0).trans (impl_polygon_inner.eq_1 n p_ r0).symm
theorem impl_polygon_inner_rn {α : Type} (F : Nat → (List (Int × Int)) → (Int → Option α) → Option α) (n : Nat) (p_ : List (Int × Int)) (κ : Res → Option α) : impl_polygon_inner_runG F n [.rows .pt p_] κ = F n p_ (fun v1 => κ ⟨[.int .i64 v1], []⟩) := rfl
theorem impl_polygon_inner_ev {α : Type} (n : Nat) (p_ : List (Int × Int)) (κ : Res → Option α) : evFn Try.prog (impl_polygon_inner_X n) Try.f184 (((buildDs impl_polygon_inner_sh [.rows .pt p_]).map Prod.fst).getD []) κ = impl_polygon_inner_run n [.rows .pt p_] κ := (impl_polygon_inner_gen impl_polygon_area impl_polygon_border n p_ κ).trans ((impl_polygon_inner_eq n p_ (fun v1 => κ ⟨[.int .i64 v1], []⟩)).trans ((impl_polygon_inner_run.eq_1 n [.rows .pt p_] κ).trans (impl_polygon_inner_rn impl_polygon_inner n p_ κ)).symm)
theorem impl_polygon_inner_en (p_ : List (Int × Int)) : (entry 0 (((buildDs impl_polygon_inner_sh [.rows .pt p_]).map Prod.fst).getD [])).map (fun x => (x.1.length, x.2.lent)) = some (1, []) := by kernel_rfl
theorem impl_polygon_inner_good {α : Type} : ∀ n, GoodFn (α := α) Try.prog 184 (byShape impl_polygon_inner_sh (impl_polygon_inner_run n)) := by
  refine fn_good' Try.func184 (c := (Try.f184.body.getD .skip)) (by kernel_rfl) (by kernel_rfl) (by kernel_rfl) impl_polygon_inner_C impl_polygon_inner_M eqs impl_polygon_inner_lps (fun n => tabC_good (List.forall_mem_cons.2 ⟨(impl_polygon_area_good n), (List.forall_mem_cons.2 ⟨(impl_polygon_border_good n), (fun _ h => absurd h List.not_mem_nil)⟩)⟩)) eqs_ok impl_polygon_inner_Lt ?_ ?_ impl_polygon_inner_sh impl_polygon_inner_run ?_
  · exact (fun _ h => absurd h List.not_mem_nil)
  · exact (fun _ h => absurd h List.not_mem_nil)
  · intro n p κ r ds hd hr
    have hr0 := hr
    unfold impl_polygon_inner_run impl_polygon_inner_runG at hr
    split at hr
    · rw [← ds_of hd]
      exact ⟨en_of (impl_polygon_inner_en _) ⟨rfl, rfl⟩, (impl_polygon_inner_ev n _ κ).trans hr0⟩
    · cases hr

/-! cmp.isNaN[int64] -/
def cmp_isNaN_int64_sh : List SkD := [.int .i64]
def cmp_isNaN_int64_runG {α : Type} (F : Nat → Int → (Bool → Option α) → Option α) (n : Nat) (p : List P1) (κ : Res → Option α) : Option α := match p with
  | [.int x] => F n x (fun v1 => κ ⟨[.bool v1], []⟩)
  | _ => none
def cmp_isNaN_int64_run {α : Type} (n : Nat) (p : List P1) (κ : Res → Option α) : Option α := cmp_isNaN_int64_runG cmp_isNaN_int64 n p κ
def cmp_isNaN_int64_CG {α : Type}  (n : Nat) : FuncId → List D → (Res → Option α) → Option α := tabC []
def cmp_isNaN_int64_C {α : Type} (n : Nat) : FuncId → List D → (Res → Option α) → Option α := cmp_isNaN_int64_CG n
def cmp_isNaN_int64_M : FuncId → List Nat := tabM []
def cmp_isNaN_int64_lpsG {α : Type}  : List (LoopT α) := []
def cmp_isNaN_int64_lps {α : Type} : List (LoopT α) := cmp_isNaN_int64_lpsG
def cmp_isNaN_int64_XG {α : Type}   (n : Nat) : Ctx α := ⟨cmp_isNaN_int64_CG n, cmp_isNaN_int64_M, eqs, lpOf (cmp_isNaN_int64_lpsG) n⟩
def cmp_isNaN_int64_X {α : Type} (n : Nat) : Ctx α := cmp_isNaN_int64_XG n
def cmp_isNaN_int64_Lt (np : Nat) (lent : List (Bool × Nat × Blk)) : Prop := np = 1 ∧ lent = []
def cmp_isNaN_int64_body {α : Type}   (k : Nat) (x : Int) (r0 : Bool → Option α) : Option α :=
  r0 (!decide (x = x))
theorem cmp_isNaN_int64_gen {α : Type}   (n : Nat) (x : Int) (κ : Res → Option α) : evFn Try.prog (cmp_isNaN_int64_XG n) Try.f293 (((buildDs cmp_isNaN_int64_sh [.int x]).map Prod.fst).getD []) κ = cmp_isNaN_int64_body n x (fun v1 => κ ⟨[.bool v1], []⟩) := by kernel_rfl
theorem cmp_isNaN_int64_eq {α : Type} (n : Nat) (x : Int) (r0 : Bool → Option α) : cmp_isNaN_int64_body n x r0 = cmp_isNaN_int64 n x r0 := (cmp_isNaN_int64_body.eq_1 n x r0).trans (cmp_isNaN_int64.eq_1 n x r0).symm
theorem cmp_isNaN_int64_rn {α : Type} (F : Nat → Int → (Bool → Option α) → Option α) (n : Nat) (x : Int) (κ : Res → Option α) : cmp_isNaN_int64_runG F n [.int x] κ = F n x (fun v1 => κ ⟨[.bool v1], []⟩) := rfl
theorem cmp_isNaN_int64_ev {α : Type} (n : Nat) (x : Int) (κ : Res → Option α) : evFn Try.prog (cmp_isNaN_int64_X n) Try.f293 (((buildDs cmp_isNaN_int64_sh [.int x]).map Prod.fst).getD []) κ = cmp_isNaN_int64_run n [.int x] κ := (cmp_isNaN_int64_gen n x κ).trans ((cmp_isNaN_int64_eq n x (fun v1 => κ ⟨[.bool v1], []⟩)).trans ((cmp_isNaN_int64_run.eq_1 n [.int x] κ).trans (cmp_isNaN_int64_rn cmp_isNaN_int64 n x κ)).symm)
theorem cmp_isNaN_int64_en (x : Int) : (entry 0 (((buildDs cmp_isNaN_int64_sh [.int x]).map Prod.fst).getD [])).map (fun x => (x.1.length, x.2.lent)) = some (1, []) := by kernel_rfl
theorem cmp_isNaN_int64_good {α : Type} : ∀ n, GoodFn (α := α) Try.prog 293 (byShape cmp_isNaN_int64_sh (cmp_isNaN_int64_run n)) := by
  refine fn_good' Try.func293 (c := (Try.f293.body.getD .skip)) (by kernel_rfl) (by kernel_rfl) (by kernel_rfl) cmp_isNaN_int64_C cmp_isNaN_int64_M eqs cmp_isNaN_int64_lps (fun n => tabC_good (fun _ h => absurd h List.not_mem_nil)) eqs_ok cmp_isNaN_int64_Lt ?_ ?_ cmp_isNaN_int64_sh cmp_isNaN_int64_run ?_
  · exact (fun _ h => absurd h List.not_mem_nil)
  · exact (fun _ h => absurd h List.not_mem_nil)
  · intro n p κ r ds hd hr
    have hr0 := hr
    unfold cmp_isNaN_int64_run cmp_isNaN_int64_runG at hr
    split at hr
    · rw [← ds_of hd]
      exact ⟨en_of (cmp_isNaN_int64_en _) ⟨rfl, rfl⟩, (cmp_isNaN_int64_ev n _ κ).trans hr0⟩
    · cases hr

/-! cmp.Compare[int64] -/
def cmp_Compare_int64_sh : List SkD := [.int .i64, .int .i64]
def cmp_Compare_int64_runG {α : Type} (F : Nat → Int → Int → (Int → Option α) → Option α) (n : Nat) (p : List P1) (κ : Res → Option α) : Option α := match p with
  | [.int x, .int y] => F n x y (fun v1 => κ ⟨[.int .i64 v1], []⟩)
  | _ => none
def cmp_Compare_int64_run {α : Type} (n : Nat) (p : List P1) (κ : Res → Option α) : Option α := cmp_Compare_int64_runG cmp_Compare_int64 n p κ
def cmp_Compare_int64_CG {α : Type} (F0 : Nat → Int → (Bool → Option α) → Option α) (n : Nat) : FuncId → List D → (Res → Option α) → Option α := tabC [(293, (byShape cmp_isNaN_int64_sh (cmp_isNaN_int64_runG F0 n)))]
def cmp_Compare_int64_C {α : Type} (n : Nat) : FuncId → List D → (Res → Option α) → Option α := cmp_Compare_int64_CG cmp_isNaN_int64 n
def cmp_Compare_int64_M : FuncId → List Nat := tabM []
def cmp_Compare_int64_lpsG {α : Type}  : List (LoopT α) := []
def cmp_Compare_int64_lps {α : Type} : List (LoopT α) := cmp_Compare_int64_lpsG
def cmp_Compare_int64_XG {α : Type} (F0 : Nat → Int → (Bool → Option α) → Option α)  (n : Nat) : Ctx α := ⟨cmp_Compare_int64_CG F0 n, cmp_Compare_int64_M, eqs, lpOf (cmp_Compare_int64_lpsG) n⟩
def cmp_Compare_int64_X {α : Type} (n : Nat) : Ctx α := cmp_Compare_int64_XG cmp_isNaN_int64 n
def cmp_Compare_int64_Lt (np : Nat) (lent : List (Bool × Nat × Blk)) : Prop := np = 2 ∧ lent = []
def cmp_Compare_int64_body {α : Type} (F0 : Nat → Int → (Bool → Option α) → Option α)  (k : Nat) (x : Int) (y : Int) (r0 : Int → Option α) : Option α :=
  F0 k x fun v =>
  F0 k y fun v1 =>
  bif v then
    bif v1 then
      r0 0
    else
      r0 (-1)
  else
  bif v1 then
    r0 1
  else
  bif decide (x < y) then
    r0 (-1)
  else
  bif decide (y < x) then
    r0 1
  else
    r0 0
theorem cmp_Compare_int64_gen {α : Type} (F0 : Nat → Int → (Bool → Option α) → Option α)  (n : Nat) (x : Int) (y : Int) (κ : Res → Option α) : evFn Try.prog (cmp_Compare_int64_XG F0 n) Try.f198 (((buildDs cmp_Compare_int64_sh [.int x, .int y]).map Prod.fst).getD []) κ = cmp_Compare_int64_body F0 n x y (fun v1 => κ ⟨[.int .i64 v1], []⟩) := by kernel_rfl
theorem cmp_Compare_int64_eq {α : Type} (n : Nat) (x : Int) (y : Int) (r0 : Int → Option α) : cmp_Compare_int64_body cmp_isNaN_int64 n x y r0 = cmp_Compare_int64 n x y r0 := (cmp_Compare_int64_body.eq_1 cmp_isNaN_int64 n x y r0).trans (cmp_Compare_int64.eq_1 n x y r0).symm
theorem cmp_Compare_int64_rn {α : Type} (F : Nat → Int → Int → (Int → Option α) → Option α) (n : Nat) (x : Int) (y : Int) (κ : Res → Option α) : cmp_Compare_int64_runG F n [.int x, .int y] κ = F n x y (fun v1 => κ ⟨[.int .i64 v1], []⟩) := rfl
theorem cmp_Compare_int64_ev {α : Type} (n : Nat) (x : Int) (y : Int) (κ : Res → Option α) : evFn Try.prog (cmp_Compare_int64_X n) Try.f198 (((buildDs cmp_Compare_int64_sh [.int x, .int y]).map Prod.fst).getD []) κ = cmp_Compare_int64_run n [.int x, .int y] κ := (cmp_Compare_int64_gen cmp_isNaN_int64 n x y κ).trans ((cmp_Compare_int64_eq n x y (fun v1 => κ ⟨[.int .i64 v1], []⟩)).trans ((cmp_Compare_int64_run.eq_1 n [.int x, .int y] κ).trans (cmp_Compare_int64_rn cmp_Compare_int64 n x y κ)).symm)
theorem cmp_Compare_int64_en (x : Int) (y : Int) : (entry 0 (((buildDs cmp_Compare_int64_sh [.int x, .int y]).map Prod.fst).getD [])).map (fun x => (x.1.length, x.2.lent)) = some (2, []) := by kernel_rfl
theorem cmp_Compare_int64_good {α : Type} : ∀ n, GoodFn (α := α) Try.prog 198 (byShape cmp_Compare_int64_sh (cmp_Compare_int64_run n)) := by
  refine fn_good' Try.func198 (c := (Try.f198.body.getD .skip)) (by kernel_rfl) (by kernel_rfl) (by kernel_rfl) cmp_Compare_int64_C cmp_Compare_int64_M eqs cmp_Compare_int64_lps (fun n => tabC_good (List.forall_mem_cons.2 ⟨(cmp_isNaN_int64_good n), (fun _ h => absurd h List.not_mem_nil)⟩)) eqs_ok cmp_Compare_int64_Lt ?_ ?_ cmp_Compare_int64_sh cmp_Compare_int64_run ?_
  · exact (fun _ h => absurd h List.not_mem_nil)
  · exact (fun _ h => absurd h List.not_mem_nil)
  · intro n p κ r ds hd hr
    have hr0 := hr
    unfold cmp_Compare_int64_run cmp_Compare_int64_runG at hr
    split at hr
    · rw [← ds_of hd]
      exact ⟨en_of (cmp_Compare_int64_en _ _) ⟨rfl, rfl⟩, (cmp_Compare_int64_ev n _ _ κ).trans hr0⟩
    · cases hr

/-! (loop.example/g01297/impl.polygon).where -/
def impl_polygon_where_sh : List SkD := [.sl 26 .pt, .agg [.int .i64, .int .i64]]
def impl_polygon_where_runG {α : Type} (F : Nat → (List (Int × Int)) → Int → Int → (Int → Option α) → Option α) (n : Nat) (p : List P1) (κ : Res → Option α) : Option α := match p with
  | [.rows .pt p_, .int a, .int a1] => F n p_ a a1 (fun v1 => κ ⟨[.int .i64 v1], []⟩)
  | _ => none
def impl_polygon_where_run {α : Type} (n : Nat) (p : List P1) (κ : Res → Option α) : Option α := impl_polygon_where_runG impl_polygon_where n p κ
def impl_polygon_where_CG {α : Type} (F0 : Nat → (List (Int × Int)) → Int → (Int → Int → Option α) → Option α) (F1 : Nat → Int → Int → Int → Int → Int → Int → (Int → Option α) → Option α) (F2 : Nat → Int → Int → (Int → Option α) → Option α) (n : Nat) : FuncId → List D → (Res → Option α) → Option α := tabC [(186, (byShape impl_polygon_next_sh (impl_polygon_next_runG F0 n))), (287, (byShape impl_turn_sh (impl_turn_runG F1 n))), (198, (byShape cmp_Compare_int64_sh (cmp_Compare_int64_runG F2 n)))]
def impl_polygon_where_C {α : Type} (n : Nat) : FuncId → List D → (Res → Option α) → Option α := impl_polygon_where_CG impl_polygon_next impl_turn cmp_Compare_int64 n
def impl_polygon_where_M : FuncId → List Nat := tabM []
def impl_polygon_where_t3 : Tpl := ⟨[.sl 0, .any, .any, .ptr 192 0 0, .any, .int .i64, .any, .any, .sl 0, .int .i64, .int .i64, .any, .any, .any, .any, .any, .any, .any, .any, .any, .any, .any, .any, .any, .any, .any], [(0, .rows 0 26 .pt), (192, .ints 2 26 .i64 2)], []⟩
def impl_polygon_where_uG3 {α : Type} (G : Nat → Int → Int → Int → (List (Int × Int)) → Int → Int → (Int → Int → Int → (List (Int × Int)) → Int → Int → Option α) → (Int → Option α) → Option α) (n : Nat) (p : List P1) (brk : Nat → List P1 → Option α) (ret : Res → Option α) : Option α := match p with
  | [.int out, .int x, .int x1, .rows .pt p_1, .int a2, .int a3] => G n out x x1 p_1 a2 a3 (fun out x x1 p_1 a2 a3 => brk 0 [.int out, .int x, .int x1, .rows .pt p_1, .int a2, .int a3]) (fun v1 => ret ⟨[.int .i64 v1], []⟩)
  | _ => none
def impl_polygon_where_u3 {α : Type} (n : Nat) (p : List P1) (brk : Nat → List P1 → Option α) (ret : Res → Option α) : Option α := impl_polygon_where_uG3 impl_polygon_where_l3 n p brk ret
def impl_polygon_where_lpsG {α : Type} (G3 : Nat → Int → Int → Int → (List (Int × Int)) → Int → Int → (Int → Int → Int → (List (Int × Int)) → Int → Int → Option α) → (Int → Option α) → Option α) : List (LoopT α) := [⟨3, impl_polygon_where_t3, impl_polygon_where_uG3 G3⟩]
def impl_polygon_where_lps {α : Type} : List (LoopT α) := impl_polygon_where_lpsG impl_polygon_where_l3
def impl_polygon_where_XG {α : Type} (F0 : Nat → (List (Int × Int)) → Int → (Int → Int → Option α) → Option α) (F1 : Nat → Int → Int → Int → Int → Int → Int → (Int → Option α) → Option α) (F2 : Nat → Int → Int → (Int → Option α) → Option α) (G3 : Nat → Int → Int → Int → (List (Int × Int)) → Int → Int → (Int → Int → Int → (List (Int × Int)) → Int → Int → Option α) → (Int → Option α) → Option α) (n : Nat) : Ctx α := ⟨impl_polygon_where_CG F0 F1 F2 n, impl_polygon_where_M, eqs, lpOf (impl_polygon_where_lpsG G3) n⟩
def impl_polygon_where_X {α : Type} (n : Nat) : Ctx α := impl_polygon_where_XG impl_polygon_next impl_turn cmp_Compare_int64 impl_polygon_where_l3 n
def impl_polygon_where_Lt (np : Nat) (lent : List (Bool × Nat × Blk)) : Prop := np = 2 ∧ lent = []
def impl_polygon_where_lb3 {α : Type} (F0 : Nat → (List (Int × Int)) → Int → (Int → Int → Option α) → Option α) (F1 : Nat → Int → Int → Int → Int → Int → Int → (Int → Option α) → Option α) (F2 : Nat → Int → Int → (Int → Option α) → Option α) (G3 : Nat → Int → Int → Int → (List (Int × Int)) → Int → Int → (Int → Int → Int → (List (Int × Int)) → Int → Int → Option α) → (Int → Option α) → Option α) (k : Nat) (out : Int) (x : Int) (x1 : Int) (p_1 : List (Int × Int)) (a2 : Int) (a3 : Int) (b0 : Int → Int → Int → (List (Int × Int)) → Int → Int → Option α) (r0 : Int → Option α) : Option α :=
  bif decide (x1 < x) then
    bif (decide (0 ≤ x1) && decide (x1 < (((List.length p_1) : Nat) : Int))) then
      (p_1[x1.toNat]?).bind fun e_ =>
      F0 k p_1 x1 fun v v1 =>
      F1 k e_.1 e_.2 v v1 a2 a3 fun v2 =>
      F2 k v2 0 fun v3 =>
      G3 k (min out v3) x (w64 (x1 + 1)) p_1 a2 a3 b0 r0
    else
      none
  else
    b0 out x x1 p_1 a2 a3
theorem impl_polygon_where_l3_gen {α : Type} (F0 : Nat → (List (Int × Int)) → Int → (Int → Int → Option α) → Option α) (F1 : Nat → Int → Int → Int → Int → Int → Int → (Int → Option α) → Option α) (F2 : Nat → Int → Int → (Int → Option α) → Option α) (G3 : Nat → Int → Int → Int → (List (Int × Int)) → Int → Int → (Int → Int → Int → (List (Int × Int)) → Int → Int → Option α) → (Int → Option α) → Option α) (n : Nat) (out : Int) (x : Int) (x1 : Int) (p_1 : List (Int × Int)) (a2 : Int) (a3 : Int) (brk : Nat → List P1 → Option α) (ret : Res → Option α) : ev ((impl_polygon_where_XG F0 F1 F2 G3 n).env Try.prog Try.f185 2 []) (findLoop (loopsIn (Try.f185.body.getD .skip)) 3) ((impl_polygon_where_t3.build [.int out, .int x, .int x1, .rows .pt p_1, .int a2, .int a3]).getD ⟨[], []⟩) (roundK (2 * 64) impl_polygon_where_t3 (fun q => impl_polygon_where_uG3 G3 n q brk ret) brk ret) = impl_polygon_where_lb3 F0 F1 F2 G3 n out x x1 p_1 a2 a3 (fun out x x1 p_1 a2 a3 => brk 0 [.int out, .int x, .int x1, .rows .pt p_1, .int a2, .int a3]) (fun v1 => ret ⟨[.int .i64 v1], []⟩) := by kernel_rfl
theorem impl_polygon_where_l3_eq {α : Type} (k : Nat) (out : Int) (x : Int) (x1 : Int) (p_1 : List (Int × Int)) (a2 : Int) (a3 : Int) (b0 : Int → Int → Int → (List (Int × Int)) → Int → Int → Option α) (r0 : Int → Option α) : impl_polygon_where_lb3 impl_polygon_next impl_turn cmp_Compare_int64 impl_polygon_where_l3 k out x x1 p_1 a2 a3 b0 r0 = impl_polygon_where_l3 (k + 1) out x x1 p_1 a2 a3 b0 r0 := (impl_polygon_where_lb3.eq_1 impl_polygon_next impl_turn cmp_Compare_int64 impl_polygon_where_l3 k out x x1 p_1 a2 a3 b0 r0).trans (show impl_polygon_where_l3 (k + 1) out x x1 p_1 a2 a3 b0 r0 = _ from impl_polygon_where_l3.eq_2 _ _ _ _ _ _ _ _ _ ).symm
theorem impl_polygon_where_l3_rn {α : Type} (G : Nat → Int → Int → Int → (List (Int × Int)) → Int → Int → (Int → Int → Int → (List (Int × Int)) → Int → Int → Option α) → (Int → Option α) → Option α) (n : Nat) (out : Int) (x : Int) (x1 : Int) (p_1 : List (Int × Int)) (a2 : Int) (a3 : Int) (brk : Nat → List P1 → Option α) (ret : Res → Option α) : impl_polygon_where_uG3 G n [.int out, .int x, .int x1, .rows .pt p_1, .int a2, .int a3] brk ret = G n out x x1 p_1 a2 a3 (fun out x x1 p_1 a2 a3 => brk 0 [.int out, .int x, .int x1, .rows .pt p_1, .int a2, .int a3]) (fun v1 => ret ⟨[.int .i64 v1], []⟩) := rfl
theorem impl_polygon_where_l3_ev {α : Type} (n : Nat) (out : Int) (x : Int) (x1 : Int) (p_1 : List (Int × Int)) (a2 : Int) (a3 : Int) (brk : Nat → List P1 → Option α) (ret : Res → Option α) : ev ((impl_polygon_where_X n).env Try.prog Try.f185 2 []) (findLoop (loopsIn (Try.f185.body.getD .skip)) 3) ((impl_polygon_where_t3.build [.int out, .int x, .int x1, .rows .pt p_1, .int a2, .int a3]).getD ⟨[], []⟩) (roundK (2 * 64) impl_polygon_where_t3 (fun q => impl_polygon_where_u3 n q brk ret) brk ret) = impl_polygon_where_u3 (n + 1) [.int out, .int x, .int x1, .rows .pt p_1, .int a2, .int a3] brk ret := (impl_polygon_where_l3_gen impl_polygon_next impl_turn cmp_Compare_int64 impl_polygon_where_l3 n out x x1 p_1 a2 a3 brk ret).trans ((impl_polygon_where_l3_eq n out x x1 p_1 a2 a3 (fun out x x1 p_1 a2 a3 => brk 0 [.int out, .int x, .int x1, .rows .pt p_1, .int a2, .int a3]) (fun v1 => ret ⟨[.int .i64 v1], []⟩)).trans ((impl_polygon_where_u3.eq_1 (n + 1) [.int out, .int x, .int x1, .rows .pt p_1, .int a2, .int a3] brk ret).trans (impl_polygon_where_l3_rn impl_polygon_where_l3 (n + 1) out x x1 p_1 a2 a3 brk ret)).symm)
def impl_polygon_where_body {α : Type} (F0 : Nat → (List (Int × Int)) → Int → (Int → Int → Option α) → Option α) (F1 : Nat → Int → Int → Int → Int → Int → Int → (Int → Option α) → Option α) (F2 : Nat → Int → Int → (Int → Option α) → Option α) (G3 : Nat → Int → Int → Int → (List (Int × Int)) → Int → Int → (Int → Int → Int → (List (Int × Int)) → Int → Int → Option α) → (Int → Option α) → Option α) (k : Nat) (p_ : List (Int × Int)) (a : Int) (a1 : Int) (r0 : Int → Option α) : Option α :=
  G3 k 1 (((List.length p_) : Nat) : Int) 0 p_ a a1
    (fun out1 x2 x3 p_2 a4 a5 =>
      r0 out1)
    r0
theorem impl_polygon_where_gen {α : Type} (F0 : Nat → (List (Int × Int)) → Int → (Int → Int → Option α) → Option α) (F1 : Nat → Int → Int → Int → Int → Int → Int → (Int → Option α) → Option α) (F2 : Nat → Int → Int → (Int → Option α) → Option α) (G3 : Nat → Int → Int → Int → (List (Int × Int)) → Int → Int → (Int → Int → Int → (List (Int × Int)) → Int → Int → Option α) → (Int → Option α) → Option α) (n : Nat) (p_ : List (Int × Int)) (a : Int) (a1 : Int) (κ : Res → Option α) : evFn Try.prog (impl_polygon_where_XG F0 F1 F2 G3 n) Try.f185 (((buildDs impl_polygon_where_sh [.rows .pt p_, .int a, .int a1]).map Prod.fst).getD []) κ = impl_polygon_where_body F0 F1 F2 G3 n p_ a a1 (fun v1 => κ ⟨[.int .i64 v1], []⟩) := by kernel_rfl
theorem impl_polygon_where_eq {α : Type} (n : Nat) (p_ : List (Int × Int)) (a : Int) (a1 : Int) (r0 : Int → Option α) : impl_polygon_where_body impl_polygon_next impl_turn cmp_Compare_int64 impl_polygon_where_l3 n p_ a a1 r0 = impl_polygon_where n p_ a a1 r0 := (impl_polygon_where_body.eq_1 impl_polygon_next impl_turn cmp_Compare_int64 impl_polygon_where_l3 n p_ a a1 r0).trans (impl_polygon_where.eq_1 n p_ a a1 r0).symm
theorem impl_polygon_where_rn {α : Type} (F : Nat → (List (Int × Int)) → Int → Int → (Int → Option α) → Option α) (n : Nat) (p_ : List (Int × Int)) (a : Int) (a1 : Int) (κ : Res → Option α) : impl_polygon_where_runG F n [.rows .pt p_, .int a, .int a1] κ = F n p_ a a1 (fun v1 => κ ⟨[.int .i64 v1], []⟩) := rfl
theorem impl_polygon_where_ev {α : Type} (n : Nat) (p_ : List (Int × Int)) (a : Int) (a1 : Int) (κ : Res → Option α) : evFn Try.prog (impl_polygon_where_X n) Try.f185 (((buildDs impl_polygon_where_sh [.rows .pt p_, .int a, .int a1]).map Prod.fst).getD []) κ = impl_polygon_where_run n [.rows .pt p_, .int a, .int a1] κ := (impl_polygon_where_gen impl_polygon_next impl_turn cmp_Compare_int64 impl_polygon_where_l3 n p_ a a1 κ).trans ((impl_polygon_where_eq n p_ a a1 (fun v1 => κ ⟨[.int .i64 v1], []⟩)).trans ((impl_polygon_where_run.eq_1 n [.rows .pt p_, .int a, .int a1] κ).trans (impl_polygon_where_rn impl_polygon_where n p_ a a1 κ)).symm)
theorem impl_polygon_where_en (p_ : List (Int × Int)) (a : Int) (a1 : Int) : (entry 0 (((buildDs impl_polygon_where_sh [.rows .pt p_, .int a, .int a1]).map Prod.fst).getD [])).map (fun x => (x.1.length, x.2.lent)) = some (2, []) := by kernel_rfl
theorem impl_polygon_where_good {α : Type} : ∀ n, GoodFn (α := α) Try.prog 185 (byShape impl_polygon_where_sh (impl_polygon_where_run n)) := by
  refine fn_good' Try.func185 (c := (Try.f185.body.getD .skip)) (by kernel_rfl) (by kernel_rfl) (by kernel_rfl) impl_polygon_where_C impl_polygon_where_M eqs impl_polygon_where_lps (fun n => tabC_good (List.forall_mem_cons.2 ⟨(impl_polygon_next_good n), (List.forall_mem_cons.2 ⟨(impl_turn_good n), (List.forall_mem_cons.2 ⟨(cmp_Compare_int64_good n), (fun _ h => absurd h List.not_mem_nil)⟩)⟩)⟩)) eqs_ok impl_polygon_where_Lt ?_ ?_ impl_polygon_where_sh impl_polygon_where_run ?_
  · refine List.forall_mem_cons.2 ⟨?_, (fun _ h => absurd h List.not_mem_nil)⟩
    · intro p brk ret; show impl_polygon_where_u3 0 p brk ret = none; unfold impl_polygon_where_u3 impl_polygon_where_uG3; split <;> rfl
  · refine List.forall_mem_cons.2 ⟨?_, (fun _ h => absurd h List.not_mem_nil)⟩
    · intro np lent hL n p brk ret st r hb hr
      obtain ⟨rfl, rfl⟩ := hL
      rw [← tpl_of hb]
      change impl_polygon_where_u3 (n + 1) p brk ret = some r at hr
      have hr0 := hr
      unfold impl_polygon_where_u3 impl_polygon_where_uG3 at hr
      split at hr
      · exact (impl_polygon_where_l3_ev n _ _ _ _ _ _ brk ret).trans hr0
      · cases hr
  · intro n p κ r ds hd hr
    have hr0 := hr
    unfold impl_polygon_where_run impl_polygon_where_runG at hr
    split at hr
    · rw [← ds_of hd]
      exact ⟨en_of (impl_polygon_where_en _ _ _) ⟨rfl, rfl⟩, (impl_polygon_where_ev n _ _ _ κ).trans hr0⟩
    · cases hr

end Go.Proofs.Ytjekmhinmcniaaa
