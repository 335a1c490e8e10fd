/- The program's functions hold to their readings without memory: printed by a program of ours. -/
import Derived.Test.YtjekmhinmcniaaaSeXDualPolygon
namespace Go.Proofs.Ytjekmhinmcniaaa
open Go Go.Ev Go.Sh Go.Proofs

/-! loop.example/g01297/laws.szPointS -/
def laws_szPointS_sh : List SkD := [.sl 22 .pt, .int .i64]
def laws_szPointS_runG {α : Type} (F : Nat → (List (Int × Int)) → Int → (Int → Option α) → Option α) (n : Nat) (p : List P1) (κ : Res → Option α) : Option α := match p with
  | [.rows .pt a, .int left] => F n a left (fun v1 => κ ⟨[.int .i64 v1], []⟩)
  | _ => none
def laws_szPointS_run {α : Type} (n : Nat) (p : List P1) (κ : Res → Option α) : Option α := laws_szPointS_runG laws_szPointS n p κ
def laws_szPointS_CG {α : Type}  (n : Nat) : FuncId → List D → (Res → Option α) → Option α := tabC []
def laws_szPointS_C {α : Type} (n : Nat) : FuncId → List D → (Res → Option α) → Option α := laws_szPointS_CG n
def laws_szPointS_M : FuncId → List Nat := tabM []
def laws_szPointS_lpsG {α : Type}  : List (LoopT α) := []
def laws_szPointS_lps {α : Type} : List (LoopT α) := laws_szPointS_lpsG
def laws_szPointS_XG {α : Type}   (n : Nat) : Ctx α := ⟨laws_szPointS_CG n, laws_szPointS_M, eqs, lpOf (laws_szPointS_lpsG) n⟩
def laws_szPointS_X {α : Type} (n : Nat) : Ctx α := laws_szPointS_XG n
def laws_szPointS_Lt (np : Nat) (lent : List (Bool × Nat × Blk)) : Prop := np = 2 ∧ lent = []
def laws_szPointS_body {α : Type}   (k : Nat) (a : List (Int × Int)) (left : Int) (r0 : Int → Option α) : Option α :=
  bif decide ((w64 (left - (((List.length a) : Nat) : Int))) < 0) then
    r0 (-1)
  else
    r0 (w64 (left - (((List.length a) : Nat) : Int)))
theorem laws_szPointS_gen {α : Type}   (n : Nat) (a : List (Int × Int)) (left : Int) (κ : Res → Option α) : evFn Try.prog (laws_szPointS_XG n) Try.f42 (((buildDs laws_szPointS_sh [.rows .pt a, .int left]).map Prod.fst).getD []) κ = laws_szPointS_body n a left (fun v1 => κ ⟨[.int .i64 v1], []⟩) := by kernel_rfl
theorem laws_szPointS_eq {α : Type} (n : Nat) (a : List (Int × Int)) (left : Int) (r0 : Int → Option α) : laws_szPointS_body n a left r0 = laws_szPointS n a left r0 := (laws_szPointS_body.eq_1 n a left r0).trans (laws_szPointS.eq_1 n a left r0).symm
theorem laws_szPointS_rn {α : Type} (F : Nat → (List (Int × Int)) → Int → (Int → Option α) → Option α) (n : Nat) (a : List (Int × Int)) (left : Int) (κ : Res → Option α) : laws_szPointS_runG F n [.rows .pt a, .int left] κ = F n a left (fun v1 => κ ⟨[.int .i64 v1], []⟩) := rfl
theorem laws_szPointS_ev {α : Type} (n : Nat) (a : List (Int × Int)) (left : Int) (κ : Res → Option α) : evFn Try.prog (laws_szPointS_X n) Try.f42 (((buildDs laws_szPointS_sh [.rows .pt a, .int left]).map Prod.fst).getD []) κ = laws_szPointS_run n [.rows .pt a, .int left] κ := (laws_szPointS_gen n a left κ).trans ((laws_szPointS_eq n a left (fun v1 => κ ⟨[.int .i64 v1], []⟩)).trans ((laws_szPointS_run.eq_1 n [.rows .pt a, .int left] κ).trans (laws_szPointS_rn laws_szPointS n a left κ)).symm)
theorem laws_szPointS_en (a : List (Int × Int)) (left : Int) : (entry 0 (((buildDs laws_szPointS_sh [.rows .pt a, .int left]).map Prod.fst).getD [])).map (fun x => (x.1.length, x.2.lent)) = some (2, []) := by kernel_rfl
theorem laws_szPointS_good {α : Type} : ∀ n, GoodFn (α := α) Try.prog 42 (byShape laws_szPointS_sh (laws_szPointS_run n)) := by
  refine fn_good' Try.func42 (c := (Try.f42.body.getD .skip)) (by kernel_rfl) (by kernel_rfl) (by kernel_rfl) laws_szPointS_C laws_szPointS_M eqs laws_szPointS_lps (fun n => tabC_good (fun _ h => absurd h List.not_mem_nil)) eqs_ok laws_szPointS_Lt ?_ ?_ laws_szPointS_sh laws_szPointS_run ?_
  · exact (fun _ h => absurd h List.not_mem_nil)
  · exact (fun _ h => absurd h List.not_mem_nil)
  · intro n p κ r ds hd hr
    have hr0 := hr
    unfold laws_szPointS_run laws_szPointS_runG at hr
    split at hr
    · rw [← ds_of hd]
      exact ⟨en_of (laws_szPointS_en _ _) ⟨rfl, rfl⟩, (laws_szPointS_ev n _ _ κ).trans hr0⟩
    · cases hr

/-! loop.example/g01297/laws.toPoint -/
def laws_toPoint_sh : List SkD := [.agg [.int .i64, .int .i64]]
def laws_toPoint_runG {α : Type} (F : Nat → Int → Int → (Int → Int → Option α) → Option α) (n : Nat) (p : List P1) (κ : Res → Option α) : Option α := match p with
  | [.int a, .int a1] => F n a a1 (fun v1 v2 => κ ⟨[.agg [.int .i64 v1, .int .i64 v2]], []⟩)
  | _ => none
def laws_toPoint_run {α : Type} (n : Nat) (p : List P1) (κ : Res → Option α) : Option α := laws_toPoint_runG laws_toPoint n p κ
def laws_toPoint_CG {α : Type}  (n : Nat) : FuncId → List D → (Res → Option α) → Option α := tabC []
def laws_toPoint_C {α : Type} (n : Nat) : FuncId → List D → (Res → Option α) → Option α := laws_toPoint_CG n
def laws_toPoint_M : FuncId → List Nat := tabM []
def laws_toPoint_lpsG {α : Type}  : List (LoopT α) := []
def laws_toPoint_lps {α : Type} : List (LoopT α) := laws_toPoint_lpsG
def laws_toPoint_XG {α : Type}   (n : Nat) : Ctx α := ⟨laws_toPoint_CG n, laws_toPoint_M, eqs, lpOf (laws_toPoint_lpsG) n⟩
def laws_toPoint_X {α : Type} (n : Nat) : Ctx α := laws_toPoint_XG n
def laws_toPoint_Lt (np : Nat) (lent : List (Bool × Nat × Blk)) : Prop := np = 1 ∧ lent = []
def laws_toPoint_body {α : Type}   (k : Nat) (a : Int) (a1 : Int) (r0 : Int → Int → Option α) : Option α :=
  r0 a a1
theorem laws_toPoint_gen {α : Type}   (n : Nat) (a : Int) (a1 : Int) (κ : Res → Option α) : evFn Try.prog (laws_toPoint_XG n) Try.f149 (((buildDs laws_toPoint_sh [.int a, .int a1]).map Prod.fst).getD []) κ = laws_toPoint_body n a a1 (fun v1 v2 => κ ⟨[.agg [.int .i64 v1, .int .i64 v2]], []⟩) := by kernel_rfl
theorem laws_toPoint_eq {α : Type} (n : Nat) (a : Int) (a1 : Int) (r0 : Int → Int → Option α) : laws_toPoint_body n a a1 r0 = laws_toPoint n a a1 r0 := (laws_toPoint_body.eq_1 n a a1 r0).trans (laws_toPoint.eq_1 n a a1 r0).symm
theorem laws_toPoint_rn {α : Type} (F : Nat → Int → Int → (Int → Int → Option α) → Option α) (n : Nat) (a : Int) (a1 : Int) (κ : Res → Option α) : laws_toPoint_runG F n [.int a, .int a1] κ = F n a a1 (fun v1 v2 => κ ⟨[.agg [.int .i64 v1, .int .i64 v2]], []⟩) := rfl
theorem laws_toPoint_ev {α : Type} (n : Nat) (a : Int) (a1 : Int) (κ : Res → Option α) : evFn Try.prog (laws_toPoint_X n) Try.f149 (((buildDs laws_toPoint_sh [.int a, .int a1]).map Prod.fst).getD []) κ = laws_toPoint_run n [.int a, .int a1] κ := (laws_toPoint_gen n a a1 κ).trans ((laws_toPoint_eq n a a1 (fun v1 v2 => κ ⟨[.agg [.int .i64 v1, .int .i64 v2]], []⟩)).trans ((laws_toPoint_run.eq_1 n [.int a, .int a1] κ).trans (laws_toPoint_rn laws_toPoint n a a1 κ)).symm)
theorem laws_toPoint_en (a : Int) (a1 : Int) : (entry 0 (((buildDs laws_toPoint_sh [.int a, .int a1]).map Prod.fst).getD [])).map (fun x => (x.1.length, x.2.lent)) = some (1, []) := by kernel_rfl
theorem laws_toPoint_good {α : Type} : ∀ n, GoodFn (α := α) Try.prog 149 (byShape laws_toPoint_sh (laws_toPoint_run n)) := by
  refine fn_good' Try.func149 (c := (Try.f149.body.getD .skip)) (by kernel_rfl) (by kernel_rfl) (by kernel_rfl) laws_toPoint_C laws_toPoint_M eqs laws_toPoint_lps (fun n => tabC_good (fun _ h => absurd h List.not_mem_nil)) eqs_ok laws_toPoint_Lt ?_ ?_ laws_toPoint_sh laws_toPoint_run ?_
  · exact (fun _ h => absurd h List.not_mem_nil)
  · exact (fun _ h => absurd h List.not_mem_nil)
  · intro n p κ r ds hd hr
    have hr0 := hr
    unfold laws_toPoint_run laws_toPoint_runG at hr
    split at hr
    · rw [← ds_of hd]
      exact ⟨en_of (laws_toPoint_en _ _) ⟨rfl, rfl⟩, (laws_toPoint_ev n _ _ κ).trans hr0⟩
    · cases hr

/-! loop.example/g01297/laws.toPointS -/
def laws_toPointS_sh : List SkD := [.sl 22 .pt]
def laws_toPointS_runG {α : Type} (F : Nat → (List (Int × Int)) → ((List (Int × Int)) → Option α) → Option α) (n : Nat) (p : List P1) (κ : Res → Option α) : Option α := match p with
  | [.rows .pt a] => F n a (fun v1 => κ ⟨[.sl 26 .pt v1], []⟩)
  | _ => none
def laws_toPointS_run {α : Type} (n : Nat) (p : List P1) (κ : Res → Option α) : Option α := laws_toPointS_runG laws_toPointS n p κ
def laws_toPointS_CG {α : Type} (F0 : Nat → Int → Int → (Int → Int → Option α) → Option α) (n : Nat) : FuncId → List D → (Res → Option α) → Option α := tabC [(149, (byShape laws_toPoint_sh (laws_toPoint_runG F0 n)))]
def laws_toPointS_C {α : Type} (n : Nat) : FuncId → List D → (Res → Option α) → Option α := laws_toPointS_CG laws_toPoint n
def laws_toPointS_M : FuncId → List Nat := tabM []
def laws_toPointS_t3 : Tpl := ⟨[.sl 0, .any, .any, .sl 448, .int .i64, .any, .any, .any, .any, .any, .any, .any, .any, .any, .any, .any, .any, .any, .any, .any, .any, .any, .any], [(0, .rows 0 22 .pt), (448, .rows 2 26 .pt)], []⟩
def laws_toPointS_uG3 {α : Type} (G : Nat → Int → (List (Int × Int)) → (List (Int × Int)) → (Int → (List (Int × Int)) → (List (Int × Int)) → Option α) → ((List (Int × Int)) → Option α) → Option α) (n : Nat) (p : List P1) (brk : Nat → List P1 → Option α) (ret : Res → Option α) : Option α := match p with
  | [.int i, .rows .pt a1, .rows .pt out] => G n i a1 out (fun i a1 out => brk 0 [.int i, .rows .pt a1, .rows .pt out]) (fun v1 => ret ⟨[.sl 26 .pt v1], []⟩)
  | _ => none
def laws_toPointS_u3 {α : Type} (n : Nat) (p : List P1) (brk : Nat → List P1 → Option α) (ret : Res → Option α) : Option α := laws_toPointS_uG3 laws_toPointS_l3 n p brk ret
def laws_toPointS_lpsG {α : Type} (G3 : Nat → Int → (List (Int × Int)) → (List (Int × Int)) → (Int → (List (Int × Int)) → (List (Int × Int)) → Option α) → ((List (Int × Int)) → Option α) → Option α) : List (LoopT α) := [⟨3, laws_toPointS_t3, laws_toPointS_uG3 G3⟩]
def laws_toPointS_lps {α : Type} : List (LoopT α) := laws_toPointS_lpsG laws_toPointS_l3
def laws_toPointS_XG {α : Type} (F0 : Nat → Int → Int → (Int → Int → Option α) → Option α) (G3 : Nat → Int → (List (Int × Int)) → (List (Int × Int)) → (Int → (List (Int × Int)) → (List (Int × Int)) → Option α) → ((List (Int × Int)) → Option α) → Option α) (n : Nat) : Ctx α := ⟨laws_toPointS_CG F0 n, laws_toPointS_M, eqs, lpOf (laws_toPointS_lpsG G3) n⟩
def laws_toPointS_X {α : Type} (n : Nat) : Ctx α := laws_toPointS_XG laws_toPoint laws_toPointS_l3 n
def laws_toPointS_Lt (np : Nat) (lent : List (Bool × Nat × Blk)) : Prop := np = 1 ∧ lent = []
def laws_toPointS_lb3 {α : Type} (F0 : Nat → Int → Int → (Int → Int → Option α) → Option α) (G3 : Nat → Int → (List (Int × Int)) → (List (Int × Int)) → (Int → (List (Int × Int)) → (List (Int × Int)) → Option α) → ((List (Int × Int)) → Option α) → Option α) (k : Nat) (i : Int) (a1 : List (Int × Int)) (out : List (Int × Int)) (b0 : Int → (List (Int × Int)) → (List (Int × Int)) → Option α) (r0 : (List (Int × Int)) → Option α) : Option α :=
  bif decide (i < (((List.length a1) : Nat) : Int)) then
    bif (decide (0 ≤ i) && decide (i < (((List.length a1) : Nat) : Int))) then
      (a1[i.toNat]?).bind fun e_ =>
      F0 k e_.1 e_.2 fun v v1 =>
      bif (decide (0 ≤ i) && decide (i < (((List.length out) : Nat) : Int))) then
        (out[i.toNat]?).bind fun e_1 =>
        G3 k (w64 (i + 1)) a1 (List.set out i.toNat (v, v1)) b0 r0
      else
        none
    else
      none
  else
    b0 i a1 out
theorem laws_toPointS_l3_gen {α : Type} (F0 : Nat → Int → Int → (Int → Int → Option α) → Option α) (G3 : Nat → Int → (List (Int × Int)) → (List (Int × Int)) → (Int → (List (Int × Int)) → (List (Int × Int)) → Option α) → ((List (Int × Int)) → Option α) → Option α) (n : Nat) (i : Int) (a1 : List (Int × Int)) (out : List (Int × Int)) (brk : Nat → List P1 → Option α) (ret : Res → Option α) : ev ((laws_toPointS_XG F0 G3 n).env Try.prog Try.f44 1 []) (findLoop (loopsIn (Try.f44.body.getD .skip)) 3) ((laws_toPointS_t3.build [.int i, .rows .pt a1, .rows .pt out]).getD ⟨[], []⟩) (roundK (1 * 64) laws_toPointS_t3 (fun q => laws_toPointS_uG3 G3 n q brk ret) brk ret) = laws_toPointS_lb3 F0 G3 n i a1 out (fun i a1 out => brk 0 [.int i, .rows .pt a1, .rows .pt out]) (fun v1 => ret ⟨[.sl 26 .pt v1], []⟩) := by kernel_rfl
theorem laws_toPointS_l3_eq {α : Type} (k : Nat) (i : Int) (a1 : List (Int × Int)) (out : List (Int × Int)) (b0 : Int → (List (Int × Int)) → (List (Int × Int)) → Option α) (r0 : (List (Int × Int)) → Option α) : laws_toPointS_lb3 laws_toPoint laws_toPointS_l3 k i a1 out b0 r0 = laws_toPointS_l3 (k + 1) i a1 out b0 r0 := (laws_toPointS_lb3.eq_1 laws_toPoint laws_toPointS_l3 k i a1 out b0 r0).trans (show laws_toPointS_l3 (k + 1) i a1 out b0 r0 = _ from laws_toPointS_l3.eq_2 _ _ _ _ _ _ ).symm
theorem laws_toPointS_l3_rn {α : Type} (G : Nat → Int → (List (Int × Int)) → (List (Int × Int)) → (Int → (List (Int × Int)) → (List (Int × Int)) → Option α) → ((List (Int × Int)) → Option α) → Option α) (n : Nat) (i : Int) (a1 : List (Int × Int)) (out : List (Int × Int)) (brk : Nat → List P1 → Option α) (ret : Res → Option α) : laws_toPointS_uG3 G n [.int i, .rows .pt a1, .rows .pt out] brk ret = G n i a1 out (fun i a1 out => brk 0 [.int i, .rows .pt a1, .rows .pt out]) (fun v1 => ret ⟨[.sl 26 .pt v1], []⟩) := rfl
theorem laws_toPointS_l3_ev {α : Type} (n : Nat) (i : Int) (a1 : List (Int × Int)) (out : List (Int × Int)) (brk : Nat → List P1 → Option α) (ret : Res → Option α) : ev ((laws_toPointS_X n).env Try.prog Try.f44 1 []) (findLoop (loopsIn (Try.f44.body.getD .skip)) 3) ((laws_toPointS_t3.build [.int i, .rows .pt a1, .rows .pt out]).getD ⟨[], []⟩) (roundK (1 * 64) laws_toPointS_t3 (fun q => laws_toPointS_u3 n q brk ret) brk ret) = laws_toPointS_u3 (n + 1) [.int i, .rows .pt a1, .rows .pt out] brk ret := (laws_toPointS_l3_gen laws_toPoint laws_toPointS_l3 n i a1 out brk ret).trans ((laws_toPointS_l3_eq n i a1 out (fun i a1 out => brk 0 [.int i, .rows .pt a1, .rows .pt out]) (fun v1 => ret ⟨[.sl 26 .pt v1], []⟩)).trans ((laws_toPointS_u3.eq_1 (n + 1) [.int i, .rows .pt a1, .rows .pt out] brk ret).trans (laws_toPointS_l3_rn laws_toPointS_l3 (n + 1) i a1 out brk ret)).symm)
def laws_toPointS_body {α : Type} (F0 : Nat → Int → Int → (Int → Int → Option α) → Option α) (G3 : Nat → Int → (List (Int × Int)) → (List (Int × Int)) → (Int → (List (Int × Int)) → (List (Int × Int)) → Option α) → ((List (Int × Int)) → Option α) → Option α) (k : Nat) (a : List (Int × Int)) (r0 : (List (Int × Int)) → Option α) : Option α :=
  bif (decide (0 ≤ (((List.length a) : Nat) : Int)) && decide ((((List.length a) : Nat) : Int) ≤ (big : Int))) then
    G3 k 0 a (List.replicate (((List.length a) : Nat) : Int).toNat (0, 0))
      (fun i1 a2 out1 =>
        r0 out1)
      r0
  else
    none
theorem laws_toPointS_gen {α : Type} (F0 : Nat → Int → Int → (Int → Int → Option α) → Option α) (G3 : Nat → Int → (List (Int × Int)) → (List (Int × Int)) → (Int → (List (Int × Int)) → (List (Int × Int)) → Option α) → ((List (Int × Int)) → Option α) → Option α) (n : Nat) (a : List (Int × Int)) (κ : Res → Option α) : evFn Try.prog (laws_toPointS_XG F0 G3 n) Try.f44 (((buildDs laws_toPointS_sh [.rows .pt a]).map Prod.fst).getD []) κ = laws_toPointS_body F0 G3 n a (fun v1 => κ ⟨[.sl 26 .pt v1], []⟩) := by kernel_rfl
theorem laws_toPointS_eq {α : Type} (n : Nat) (a : List (Int × Int)) (r0 : (List (Int × Int)) → Option α) : laws_toPointS_body laws_toPoint laws_toPointS_l3 n a r0 = laws_toPointS n a r0 := (laws_toPointS_body.eq_1 laws_toPoint laws_toPointS_l3 n a r0).trans (laws_toPointS.eq_1 n a r0).symm
theorem laws_toPointS_rn {α : Type} (F : Nat → (List (Int × Int)) → ((List (Int × Int)) → Option α) → Option α) (n : Nat) (a : List (Int × Int)) (κ : Res → Option α) : laws_toPointS_runG F n [.rows .pt a] κ = F n a (fun v1 => κ ⟨[.sl 26 .pt v1], []⟩) := rfl
theorem laws_toPointS_ev {α : Type} (n : Nat) (a : List (Int × Int)) (κ : Res → Option α) : evFn Try.prog (laws_toPointS_X n) Try.f44 (((buildDs laws_toPointS_sh [.rows .pt a]).map Prod.fst).getD []) κ = laws_toPointS_run n [.rows .pt a] κ := (laws_toPointS_gen laws_toPoint laws_toPointS_l3 n a κ).trans ((laws_toPointS_eq n a (fun v1 => κ ⟨[.sl 26 .pt v1], []⟩)).trans ((laws_toPointS_run.eq_1 n [.rows .pt a] κ).trans (laws_toPointS_rn laws_toPointS n a κ)).symm)
theorem laws_toPointS_en (a : List (Int × Int)) : (entry 0 (((buildDs laws_toPointS_sh [.rows .pt a]).map Prod.fst).getD [])).map (fun x => (x.1.length, x.2.lent)) = some (1, []) := by kernel_rfl
theorem laws_toPointS_good {α : Type} : ∀ n, GoodFn (α := α) Try.prog 44 (byShape laws_toPointS_sh (laws_toPointS_run n)) := by
  refine fn_good' Try.func44 (c := (Try.f44.body.getD .skip)) (by kernel_rfl) (by kernel_rfl) (by kernel_rfl) laws_toPointS_C laws_toPointS_M eqs laws_toPointS_lps (fun n => tabC_good (List.forall_mem_cons.2 ⟨(laws_toPoint_good n), (fun _ h => absurd h List.not_mem_nil)⟩)) eqs_ok laws_toPointS_Lt ?_ ?_ laws_toPointS_sh laws_toPointS_run ?_
  · refine List.forall_mem_cons.2 ⟨?_, (fun _ h => absurd h List.not_mem_nil)⟩
    · intro p brk ret; show laws_toPointS_u3 0 p brk ret = none; unfold laws_toPointS_u3 laws_toPointS_uG3; split <;> rfl
  · refine List.forall_mem_cons.2 ⟨?_, (fun _ h => absurd h List.not_mem_nil)⟩
    · intro np lent hL n p brk ret st r hb hr
      obtain ⟨rfl, rfl⟩ := hL
      rw [← tpl_of hb]
      change laws_toPointS_u3 (n + 1) p brk ret = some r at hr
      have hr0 := hr
      unfold laws_toPointS_u3 laws_toPointS_uG3 at hr
      split at hr
      · exact (laws_toPointS_l3_ev n _ _ _ brk ret).trans hr0
      · cases hr
  · intro n p κ r ds hd hr
    have hr0 := hr
    unfold laws_toPointS_run laws_toPointS_runG at hr
    split at hr
    · rw [← ds_of hd]
      exact ⟨en_of (laws_toPointS_en _) ⟨rfl, rfl⟩, (laws_toPointS_ev n _ κ).trans hr0⟩
    · cases hr

/-! loop.example/g01297/spec.l01In -/
def spec_l01In_sh : List SkD := [.int .i64, .int .i64, .int .i64]
def spec_l01In_runG {α : Type} (F : Nat → Int → Int → Int → (Bool → Option α) → Option α) (n : Nat) (p : List P1) (κ : Res → Option α) : Option α := match p with
  | [.int n_, .int low, .int high] => F n n_ low high (fun v1 => κ ⟨[.bool v1], []⟩)
  | _ => none
def spec_l01In_run {α : Type} (n : Nat) (p : List P1) (κ : Res → Option α) : Option α := spec_l01In_runG spec_l01In n p κ
def spec_l01In_CG {α : Type}  (n : Nat) : FuncId → List D → (Res → Option α) → Option α := tabC []
def spec_l01In_C {α : Type} (n : Nat) : FuncId → List D → (Res → Option α) → Option α := spec_l01In_CG n
def spec_l01In_M : FuncId → List Nat := tabM []
def spec_l01In_lpsG {α : Type}  : List (LoopT α) := []
def spec_l01In_lps {α : Type} : List (LoopT α) := spec_l01In_lpsG
def spec_l01In_XG {α : Type}   (n : Nat) : Ctx α := ⟨spec_l01In_CG n, spec_l01In_M, eqs, lpOf (spec_l01In_lpsG) n⟩
def spec_l01In_X {α : Type} (n : Nat) : Ctx α := spec_l01In_XG n
def spec_l01In_Lt (np : Nat) (lent : List (Bool × Nat × Blk)) : Prop := np = 3 ∧ lent = []
def spec_l01In_body {α : Type}   (k : Nat) (n_ : Int) (low : Int) (high : Int) (r0 : Bool → Option α) : Option α :=
  bif decide (low ≤ n_) then
    r0 (decide (n_ ≤ high))
  else
    r0 false
theorem spec_l01In_gen {α : Type}   (n : Nat) (n_ : Int) (low : Int) (high : Int) (κ : Res → Option α) : evFn Try.prog (spec_l01In_XG n) Try.f170 (((buildDs spec_l01In_sh [.int n_, .int low, .int high]).map Prod.fst).getD []) κ = spec_l01In_body n n_ low high (fun v1 => κ ⟨[.bool v1], []⟩) := by kernel_rfl
theorem spec_l01In_eq {α : Type} (n : Nat) (n_ : Int) (low : Int) (high : Int) (r0 : Bool → Option α) : spec_l01In_body n n_ low high r0 = spec_l01In n n_ low high r0 := (spec_l01In_body.eq_1 n n_ low high r0).trans (spec_l01In.eq_1 n n_ low high r0).symm
theorem spec_l01In_rn {α : Type} (F : Nat → Int → Int → Int → (Bool → Option α) → Option α) (n : Nat) (n_ : Int) (low : Int) (high : Int) (κ : Res → Option α) : spec_l01In_runG F n [.int n_, .int low, .int high] κ = F n n_ low high (fun v1 => κ ⟨[.bool v1], []⟩) := rfl
theorem spec_l01In_ev {α : Type} (n : Nat) (n_ : Int) (low : Int) (high : Int) (κ : Res → Option α) : evFn Try.prog (spec_l01In_X n) Try.f170 (((buildDs spec_l01In_sh [.int n_, .int low, .int high]).map Prod.fst).getD []) κ = spec_l01In_run n [.int n_, .int low, .int high] κ := (spec_l01In_gen n n_ low high κ).trans ((spec_l01In_eq n n_ low high (fun v1 => κ ⟨[.bool v1], []⟩)).trans ((spec_l01In_run.eq_1 n [.int n_, .int low, .int high] κ).trans (spec_l01In_rn spec_l01In n n_ low high κ)).symm)
theorem spec_l01In_en (n_ : Int) (low : Int) (high : Int) : (entry 0 (((buildDs spec_l01In_sh [.int n_, .int low, .int high]).map Prod.fst).getD [])).map (fun x => (x.1.length, x.2.lent)) = some (3, []) := by kernel_rfl
theorem spec_l01In_good {α : Type} : ∀ n, GoodFn (α := α) Try.prog 170 (byShape spec_l01In_sh (spec_l01In_run n)) := by
  refine fn_good' Try.func170 (c := (Try.f170.body.getD .skip)) (by kernel_rfl) (by kernel_rfl) (by kernel_rfl) spec_l01In_C spec_l01In_M eqs spec_l01In_lps (fun n => tabC_good (fun _ h => absurd h List.not_mem_nil)) eqs_ok spec_l01In_Lt ?_ ?_ spec_l01In_sh spec_l01In_run ?_
  · exact (fun _ h => absurd h List.not_mem_nil)
  · exact (fun _ h => absurd h List.not_mem_nil)
  · intro n p κ r ds hd hr
    have hr0 := hr
    unfold spec_l01In_run spec_l01In_runG at hr
    split at hr
    · rw [← ds_of hd]
      exact ⟨en_of (spec_l01In_en _ _ _) ⟨rfl, rfl⟩, (spec_l01In_ev n _ _ _ κ).trans hr0⟩
    · cases hr

/-! loop.example/g01297/spec.l01Fits -/
def spec_l01Fits_sh : List SkD := [.int .i64]
def spec_l01Fits_runG {α : Type} (F : Nat → Int → (Bool → Option α) → Option α) (n : Nat) (p : List P1) (κ : Res → Option α) : Option α := match p with
  | [.int x] => F n x (fun v1 => κ ⟨[.bool v1], []⟩)
  | _ => none
def spec_l01Fits_run {α : Type} (n : Nat) (p : List P1) (κ : Res → Option α) : Option α := spec_l01Fits_runG spec_l01Fits n p κ
def spec_l01Fits_CG {α : Type} (F0 : Nat → Int → Int → Int → (Bool → Option α) → Option α) (n : Nat) : FuncId → List D → (Res → Option α) → Option α := tabC [(170, (byShape spec_l01In_sh (spec_l01In_runG F0 n)))]
def spec_l01Fits_C {α : Type} (n : Nat) : FuncId → List D → (Res → Option α) → Option α := spec_l01Fits_CG spec_l01In n
def spec_l01Fits_M : FuncId → List Nat := tabM []
def spec_l01Fits_lpsG {α : Type}  : List (LoopT α) := []
def spec_l01Fits_lps {α : Type} : List (LoopT α) := spec_l01Fits_lpsG
def spec_l01Fits_XG {α : Type} (F0 : Nat → Int → Int → Int → (Bool → Option α) → Option α)  (n : Nat) : Ctx α := ⟨spec_l01Fits_CG F0 n, spec_l01Fits_M, eqs, lpOf (spec_l01Fits_lpsG) n⟩
def spec_l01Fits_X {α : Type} (n : Nat) : Ctx α := spec_l01Fits_XG spec_l01In n
def spec_l01Fits_Lt (np : Nat) (lent : List (Bool × Nat × Blk)) : Prop := np = 1 ∧ lent = []
def spec_l01Fits_body {α : Type} (F0 : Nat → Int → Int → Int → (Bool → Option α) → Option α)  (k : Nat) (x : Int) (r0 : Bool → Option α) : Option α :=
  F0 k x (-1000000) 1000000 fun v =>
  r0 v
theorem spec_l01Fits_gen {α : Type} (F0 : Nat → Int → Int → Int → (Bool → Option α) → Option α)  (n : Nat) (x : Int) (κ : Res → Option α) : evFn Try.prog (spec_l01Fits_XG F0 n) Try.f244 (((buildDs spec_l01Fits_sh [.int x]).map Prod.fst).getD []) κ = spec_l01Fits_body F0 n x (fun v1 => κ ⟨[.bool v1], []⟩) := by kernel_rfl
theorem spec_l01Fits_eq {α : Type} (n : Nat) (x : Int) (r0 : Bool → Option α) : spec_l01Fits_body spec_l01In n x r0 = spec_l01Fits n x r0 := (spec_l01Fits_body.eq_1 spec_l01In n x r0).trans (spec_l01Fits.eq_1 n x r0).symm
theorem spec_l01Fits_rn {α : Type} (F : Nat → Int → (Bool → Option α) → Option α) (n : Nat) (x : Int) (κ : Res → Option α) : spec_l01Fits_runG F n [.int x] κ = F n x (fun v1 => κ ⟨[.bool v1], []⟩) := rfl
theorem spec_l01Fits_ev {α : Type} (n : Nat) (x : Int) (κ : Res → Option α) : evFn Try.prog (spec_l01Fits_X n) Try.f244 (((buildDs spec_l01Fits_sh [.int x]).map Prod.fst).getD []) κ = spec_l01Fits_run n [.int x] κ := (spec_l01Fits_gen spec_l01In n x κ).trans ((spec_l01Fits_eq n x (fun v1 => κ ⟨[.bool v1], []⟩)).trans ((spec_l01Fits_run.eq_1 n [.int x] κ).trans (spec_l01Fits_rn spec_l01Fits n x κ)).symm)
theorem spec_l01Fits_en (x : Int) : (entry 0 (((buildDs spec_l01Fits_sh [.int x]).map Prod.fst).getD [])).map (fun x => (x.1.length, x.2.lent)) = some (1, []) := by kernel_rfl
theorem spec_l01Fits_good {α : Type} : ∀ n, GoodFn (α := α) Try.prog 244 (byShape spec_l01Fits_sh (spec_l01Fits_run n)) := by
  refine fn_good' Try.func244 (c := (Try.f244.body.getD .skip)) (by kernel_rfl) (by kernel_rfl) (by kernel_rfl) spec_l01Fits_C spec_l01Fits_M eqs spec_l01Fits_lps (fun n => tabC_good (List.forall_mem_cons.2 ⟨(spec_l01In_good n), (fun _ h => absurd h List.not_mem_nil)⟩)) eqs_ok spec_l01Fits_Lt ?_ ?_ spec_l01Fits_sh spec_l01Fits_run ?_
  · exact (fun _ h => absurd h List.not_mem_nil)
  · exact (fun _ h => absurd h List.not_mem_nil)
  · intro n p κ r ds hd hr
    have hr0 := hr
    unfold spec_l01Fits_run spec_l01Fits_runG at hr
    split at hr
    · rw [← ds_of hd]
      exact ⟨en_of (spec_l01Fits_en _) ⟨rfl, rfl⟩, (spec_l01Fits_ev n _ κ).trans hr0⟩
    · cases hr

/-! loop.example/g01297/spec.l01Is -/
def spec_l01Is_sh : List SkD := [.agg [.int .i64, .int .i64]]
def spec_l01Is_runG {α : Type} (F : Nat → Int → Int → (Bool → Option α) → Option α) (n : Nat) (p : List P1) (κ : Res → Option α) : Option α := match p with
  | [.int a, .int a1] => F n a a1 (fun v1 => κ ⟨[.bool v1], []⟩)
  | _ => none
def spec_l01Is_run {α : Type} (n : Nat) (p : List P1) (κ : Res → Option α) : Option α := spec_l01Is_runG spec_l01Is n p κ
def spec_l01Is_CG {α : Type} (F0 : Nat → Int → (Bool → Option α) → Option α) (n : Nat) : FuncId → List D → (Res → Option α) → Option α := tabC [(244, (byShape spec_l01Fits_sh (spec_l01Fits_runG F0 n)))]
def spec_l01Is_C {α : Type} (n : Nat) : FuncId → List D → (Res → Option α) → Option α := spec_l01Is_CG spec_l01Fits n
def spec_l01Is_M : FuncId → List Nat := tabM []
def spec_l01Is_lpsG {α : Type}  : List (LoopT α) := []
def spec_l01Is_lps {α : Type} : List (LoopT α) := spec_l01Is_lpsG
def spec_l01Is_XG {α : Type} (F0 : Nat → Int → (Bool → Option α) → Option α)  (n : Nat) : Ctx α := ⟨spec_l01Is_CG F0 n, spec_l01Is_M, eqs, lpOf (spec_l01Is_lpsG) n⟩
def spec_l01Is_X {α : Type} (n : Nat) : Ctx α := spec_l01Is_XG spec_l01Fits n
def spec_l01Is_Lt (np : Nat) (lent : List (Bool × Nat × Blk)) : Prop := np = 1 ∧ lent = []
def spec_l01Is_body {α : Type} (F0 : Nat → Int → (Bool → Option α) → Option α)  (k : Nat) (a : Int) (a1 : Int) (r0 : Bool → Option α) : Option α :=
  F0 k a fun v =>
  bif v then
    F0 k a1 fun v1 =>
    r0 v1
  else
    r0 false
theorem spec_l01Is_gen {α : Type} (F0 : Nat → Int → (Bool → Option α) → Option α)  (n : Nat) (a : Int) (a1 : Int) (κ : Res → Option α) : evFn Try.prog (spec_l01Is_XG F0 n) Try.f165 (((buildDs spec_l01Is_sh [.int a, .int a1]).map Prod.fst).getD []) κ = spec_l01Is_body F0 n a a1 (fun v1 => κ ⟨[.bool v1], []⟩) := by kernel_rfl
theorem spec_l01Is_eq {α : Type} (n : Nat) (a : Int) (a1 : Int) (r0 : Bool → Option α) : spec_l01Is_body spec_l01Fits n a a1 r0 = spec_l01Is n a a1 r0 := (spec_l01Is_body.eq_1 spec_l01Fits n a a1 r0).trans (spec_l01Is.eq_1 n a a1 r0).symm
theorem spec_l01Is_rn {α : Type} (F : Nat → Int → Int → (Bool → Option α) → Option α) (n : Nat) (a : Int) (a1 : Int) (κ : Res → Option α) : spec_l01Is_runG F n [.int a, .int a1] κ = F n a a1 (fun v1 => κ ⟨[.bool v1], []⟩) := rfl
theorem spec_l01Is_ev {α : Type} (n : Nat) (a : Int) (a1 : Int) (κ : Res → Option α) : evFn Try.prog (spec_l01Is_X n) Try.f165 (((buildDs spec_l01Is_sh [.int a, .int a1]).map Prod.fst).getD []) κ = spec_l01Is_run n [.int a, .int a1] κ := (spec_l01Is_gen spec_l01Fits n a a1 κ).trans ((spec_l01Is_eq n a a1 (fun v1 => κ ⟨[.bool v1], []⟩)).trans ((spec_l01Is_run.eq_1 n [.int a, .int a1] κ).trans (spec_l01Is_rn spec_l01Is n a a1 κ)).symm)
theorem spec_l01Is_en (a : Int) (a1 : Int) : (entry 0 (((buildDs spec_l01Is_sh [.int a, .int a1]).map Prod.fst).getD [])).map (fun x => (x.1.length, x.2.lent)) = some (1, []) := by kernel_rfl
theorem spec_l01Is_good {α : Type} : ∀ n, GoodFn (α := α) Try.prog 165 (byShape spec_l01Is_sh (spec_l01Is_run n)) := by
  refine fn_good' Try.func165 (c := (Try.f165.body.getD .skip)) (by kernel_rfl) (by kernel_rfl) (by kernel_rfl) spec_l01Is_C spec_l01Is_M eqs spec_l01Is_lps (fun n => tabC_good (List.forall_mem_cons.2 ⟨(spec_l01Fits_good n), (fun _ h => absurd h List.not_mem_nil)⟩)) eqs_ok spec_l01Is_Lt ?_ ?_ spec_l01Is_sh spec_l01Is_run ?_
  · exact (fun _ h => absurd h List.not_mem_nil)
  · exact (fun _ h => absurd h List.not_mem_nil)
  · intro n p κ r ds hd hr
    have hr0 := hr
    unfold spec_l01Is_run spec_l01Is_runG at hr
    split at hr
    · rw [← ds_of hd]
      exact ⟨en_of (spec_l01Is_en _ _) ⟨rfl, rfl⟩, (spec_l01Is_ev n _ _ κ).trans hr0⟩
    · cases hr

/-! loop.example/g01297/spec.l01Plus -/
def spec_l01Plus_sh : List SkD := [.agg [.int .i64, .int .i64], .agg [.int .i64, .int .i64], .int .i64]
def spec_l01Plus_runG {α : Type} (F : Nat → Int → Int → Int → Int → Int → (Int → Int → Option α) → Option α) (n : Nat) (p : List P1) (κ : Res → Option α) : Option α := match p with
  | [.int a, .int a1, .int b_, .int b_1, .int k_] => F n a a1 b_ b_1 k_ (fun v1 v2 => κ ⟨[.agg [.int .i64 v1, .int .i64 v2]], []⟩)
  | _ => none
def spec_l01Plus_run {α : Type} (n : Nat) (p : List P1) (κ : Res → Option α) : Option α := spec_l01Plus_runG spec_l01Plus n p κ
def spec_l01Plus_CG {α : Type}  (n : Nat) : FuncId → List D → (Res → Option α) → Option α := tabC []
def spec_l01Plus_C {α : Type} (n : Nat) : FuncId → List D → (Res → Option α) → Option α := spec_l01Plus_CG n
def spec_l01Plus_M : FuncId → List Nat := tabM []
def spec_l01Plus_lpsG {α : Type}  : List (LoopT α) := []
def spec_l01Plus_lps {α : Type} : List (LoopT α) := spec_l01Plus_lpsG
def spec_l01Plus_XG {α : Type}   (n : Nat) : Ctx α := ⟨spec_l01Plus_CG n, spec_l01Plus_M, eqs, lpOf (spec_l01Plus_lpsG) n⟩
def spec_l01Plus_X {α : Type} (n : Nat) : Ctx α := spec_l01Plus_XG n
def spec_l01Plus_Lt (np : Nat) (lent : List (Bool × Nat × Blk)) : Prop := np = 3 ∧ lent = []
def spec_l01Plus_body {α : Type}   (k : Nat) (a : Int) (a1 : Int) (b_ : Int) (b_1 : Int) (k_ : Int) (r0 : Int → Int → Option α) : Option α :=
  r0 (w64 (a + (w64 (k_ * b_)))) (w64 (a1 + (w64 (k_ * b_1))))
theorem spec_l01Plus_gen {α : Type}   (n : Nat) (a : Int) (a1 : Int) (b_ : Int) (b_1 : Int) (k_ : Int) (κ : Res → Option α) : evFn Try.prog (spec_l01Plus_XG n) Try.f183 (((buildDs spec_l01Plus_sh [.int a, .int a1, .int b_, .int b_1, .int k_]).map Prod.fst).getD []) κ = spec_l01Plus_body n a a1 b_ b_1 k_ (fun v1 v2 => κ ⟨[.agg [.int .i64 v1, .int .i64 v2]], []⟩) := by kernel_rfl
theorem spec_l01Plus_eq {α : Type} (n : Nat) (a : Int) (a1 : Int) (b_ : Int) (b_1 : Int) (k_ : Int) (r0 : Int → Int → Option α) : spec_l01Plus_body n a a1 b_ b_1 k_ r0 = spec_l01Plus n a a1 b_ b_1 k_ r0 := (spec_l01Plus_body.eq_1 n a a1 b_ b_1 k_ r0).trans (spec_l01Plus.eq_1 n a a1 b_ b_1 k_ r0).symm
theorem spec_l01Plus_rn {α : Type} (F : Nat → Int → Int → Int → Int → Int → (Int → Int → Option α) → Option α) (n : Nat) (a : Int) (a1 : Int) (b_ : Int) (b_1 : Int) (k_ : Int) (κ : Res → Option α) : spec_l01Plus_runG F n [.int a, .int a1, .int b_, .int b_1, .int k_] κ = F n a a1 b_ b_1 k_ (fun v1 v2 => κ ⟨[.agg [.int .i64 v1, .int .i64 v2]], []⟩) := rfl
theorem spec_l01Plus_ev {α : Type} (n : Nat) (a : Int) (a1 : Int) (b_ : Int) (b_1 : Int) (k_ : Int) (κ : Res → Option α) : evFn Try.prog (spec_l01Plus_X n) Try.f183 (((buildDs spec_l01Plus_sh [.int a, .int a1, .int b_, .int b_1, .int k_]).map Prod.fst).getD []) κ = spec_l01Plus_run n [.int a, .int a1, .int b_, .int b_1, .int k_] κ := (spec_l01Plus_gen n a a1 b_ b_1 k_ κ).trans ((spec_l01Plus_eq n a a1 b_ b_1 k_ (fun v1 v2 => κ ⟨[.agg [.int .i64 v1, .int .i64 v2]], []⟩)).trans ((spec_l01Plus_run.eq_1 n [.int a, .int a1, .int b_, .int b_1, .int k_] κ).trans (spec_l01Plus_rn spec_l01Plus n a a1 b_ b_1 k_ κ)).symm)
theorem spec_l01Plus_en (a : Int) (a1 : Int) (b_ : Int) (b_1 : Int) (k_ : Int) : (entry 0 (((buildDs spec_l01Plus_sh [.int a, .int a1, .int b_, .int b_1, .int k_]).map Prod.fst).getD [])).map (fun x => (x.1.length, x.2.lent)) = some (3, []) := by kernel_rfl
theorem spec_l01Plus_good {α : Type} : ∀ n, GoodFn (α := α) Try.prog 183 (byShape spec_l01Plus_sh (spec_l01Plus_run n)) := by
  refine fn_good' Try.func183 (c := (Try.f183.body.getD .skip)) (by kernel_rfl) (by kernel_rfl) (by kernel_rfl) spec_l01Plus_C spec_l01Plus_M eqs spec_l01Plus_lps (fun n => tabC_good (fun _ h => absurd h List.not_mem_nil)) eqs_ok spec_l01Plus_Lt ?_ ?_ spec_l01Plus_sh spec_l01Plus_run ?_
  · exact (fun _ h => absurd h List.not_mem_nil)
  · exact (fun _ h => absurd h List.not_mem_nil)
  · intro n p κ r ds hd hr
    have hr0 := hr
    unfold spec_l01Plus_run spec_l01Plus_runG at hr
    split at hr
    · rw [← ds_of hd]
      exact ⟨en_of (spec_l01Plus_en _ _ _ _ _) ⟨rfl, rfl⟩, (spec_l01Plus_ev n _ _ _ _ _ κ).trans hr0⟩
    · cases hr

/-! loop.example/g01297/spec.l01Det -/
def spec_l01Det_sh : List SkD := [.agg [.int .i64, .int .i64], .agg [.int .i64, .int .i64]]
def spec_l01Det_runG {α : Type} (F : Nat → Int → Int → Int → Int → (Int → Option α) → Option α) (n : Nat) (p : List P1) (κ : Res → Option α) : Option α := match p with
  | [.int a, .int a1, .int b_, .int b_1] => F n a a1 b_ b_1 (fun v1 => κ ⟨[.int .i64 v1], []⟩)
  | _ => none
def spec_l01Det_run {α : Type} (n : Nat) (p : List P1) (κ : Res → Option α) : Option α := spec_l01Det_runG spec_l01Det n p κ
def spec_l01Det_CG {α : Type}  (n : Nat) : FuncId → List D → (Res → Option α) → Option α := tabC []
def spec_l01Det_C {α : Type} (n : Nat) : FuncId → List D → (Res → Option α) → Option α := spec_l01Det_CG n
def spec_l01Det_M : FuncId → List Nat := tabM []
def spec_l01Det_lpsG {α : Type}  : List (LoopT α) := []
def spec_l01Det_lps {α : Type} : List (LoopT α) := spec_l01Det_lpsG
def spec_l01Det_XG {α : Type}   (n : Nat) : Ctx α := ⟨spec_l01Det_CG n, spec_l01Det_M, eqs, lpOf (spec_l01Det_lpsG) n⟩
def spec_l01Det_X {α : Type} (n : Nat) : Ctx α := spec_l01Det_XG n
def spec_l01Det_Lt (np : Nat) (lent : List (Bool × Nat × Blk)) : Prop := np = 2 ∧ lent = []
def spec_l01Det_body {α : Type}   (k : Nat) (a : Int) (a1 : Int) (b_ : Int) (b_1 : Int) (r0 : Int → Option α) : Option α :=
  r0 (w64 ((w64 (a * b_1)) - (w64 (a1 * b_))))
theorem spec_l01Det_gen {α : Type}   (n : Nat) (a : Int) (a1 : Int) (b_ : Int) (b_1 : Int) (κ : Res → Option α) : evFn Try.prog (spec_l01Det_XG n) Try.f260 (((buildDs spec_l01Det_sh [.int a, .int a1, .int b_, .int b_1]).map Prod.fst).getD []) κ = spec_l01Det_body n a a1 b_ b_1 (fun v1 => κ ⟨[.int .i64 v1], []⟩) := by kernel_rfl
theorem spec_l01Det_eq {α : Type} (n : Nat) (a : Int) (a1 : Int) (b_ : Int) (b_1 : Int) (r0 : Int → Option α) : spec_l01Det_body n a a1 b_ b_1 r0 = spec_l01Det n a a1 b_ b_1 r0 := (spec_l01Det_body.eq_1 n a a1 b_ b_1 r0).trans (spec_l01Det.eq_1 n a a1 b_ b_1 r0).symm
theorem spec_l01Det_rn {α : Type} (F : Nat → Int → Int → Int → Int → (Int → Option α) → Option α) (n : Nat) (a : Int) (a1 : Int) (b_ : Int) (b_1 : Int) (κ : Res → Option α) : spec_l01Det_runG F n [.int a, .int a1, .int b_, .int b_1] κ = F n a a1 b_ b_1 (fun v1 => κ ⟨[.int .i64 v1], []⟩) := rfl
theorem spec_l01Det_ev {α : Type} (n : Nat) (a : Int) (a1 : Int) (b_ : Int) (b_1 : Int) (κ : Res → Option α) : evFn Try.prog (spec_l01Det_X n) Try.f260 (((buildDs spec_l01Det_sh [.int a, .int a1, .int b_, .int b_1]).map Prod.fst).getD []) κ = spec_l01Det_run n [.int a, .int a1, .int b_, .int b_1] κ := (spec_l01Det_gen n a a1 b_ b_1 κ).trans ((spec_l01Det_eq n a a1 b_ b_1 (fun v1 => κ ⟨[.int .i64 v1], []⟩)).trans ((spec_l01Det_run.eq_1 n [.int a, .int a1, .int b_, .int b_1] κ).trans (spec_l01Det_rn spec_l01Det n a a1 b_ b_1 κ)).symm)
theorem spec_l01Det_en (a : Int) (a1 : Int) (b_ : Int) (b_1 : Int) : (entry 0 (((buildDs spec_l01Det_sh [.int a, .int a1, .int b_, .int b_1]).map Prod.fst).getD [])).map (fun x => (x.1.length, x.2.lent)) = some (2, []) := by kernel_rfl
theorem spec_l01Det_good {α : Type} : ∀ n, GoodFn (α := α) Try.prog 260 (byShape spec_l01Det_sh (spec_l01Det_run n)) := by
  refine fn_good' Try.func260 (c := (Try.f260.body.getD .skip)) (by kernel_rfl) (by kernel_rfl) (by kernel_rfl) spec_l01Det_C spec_l01Det_M eqs spec_l01Det_lps (fun n => tabC_good (fun _ h => absurd h List.not_mem_nil)) eqs_ok spec_l01Det_Lt ?_ ?_ spec_l01Det_sh spec_l01Det_run ?_
  · exact (fun _ h => absurd h List.not_mem_nil)
  · exact (fun _ h => absurd h List.not_mem_nil)
  · intro n p κ r ds hd hr
    have hr0 := hr
    unfold spec_l01Det_run spec_l01Det_runG at hr
    split at hr
    · rw [← ds_of hd]
      exact ⟨en_of (spec_l01Det_en _ _ _ _) ⟨rfl, rfl⟩, (spec_l01Det_ev n _ _ _ _ κ).trans hr0⟩
    · cases hr

/-! loop.example/g01297/spec.l09Side -/
def spec_l09Side_sh : List SkD := [.agg [.int .i64, .int .i64], .agg [.int .i64, .int .i64], .agg [.int .i64, .int .i64]]
def spec_l09Side_runG {α : Type} (F : Nat → Int → Int → Int → Int → Int → Int → (Int → Option α) → Option α) (n : Nat) (p : List P1) (κ : Res → Option α) : Option α := match p with
  | [.int a, .int a1, .int b_, .int b_1, .int c, .int c1] => F n a a1 b_ b_1 c c1 (fun v1 => κ ⟨[.int .i64 v1], []⟩)
  | _ => none
def spec_l09Side_run {α : Type} (n : Nat) (p : List P1) (κ : Res → Option α) : Option α := spec_l09Side_runG spec_l09Side n p κ
def spec_l09Side_CG {α : Type} (F0 : Nat → Int → Int → Int → Int → Int → (Int → Int → Option α) → Option α) (F1 : Nat → Int → Int → Int → Int → (Int → Option α) → Option α) (n : Nat) : FuncId → List D → (Res → Option α) → Option α := tabC [(183, (byShape spec_l01Plus_sh (spec_l01Plus_runG F0 n))), (260, (byShape spec_l01Det_sh (spec_l01Det_runG F1 n)))]
def spec_l09Side_C {α : Type} (n : Nat) : FuncId → List D → (Res → Option α) → Option α := spec_l09Side_CG spec_l01Plus spec_l01Det n
def spec_l09Side_M : FuncId → List Nat := tabM []
def spec_l09Side_lpsG {α : Type}  : List (LoopT α) := []
def spec_l09Side_lps {α : Type} : List (LoopT α) := spec_l09Side_lpsG
def spec_l09Side_XG {α : Type} (F0 : Nat → Int → Int → Int → Int → Int → (Int → Int → Option α) → Option α) (F1 : Nat → Int → Int → Int → Int → (Int → Option α) → Option α)  (n : Nat) : Ctx α := ⟨spec_l09Side_CG F0 F1 n, spec_l09Side_M, eqs, lpOf (spec_l09Side_lpsG) n⟩
def spec_l09Side_X {α : Type} (n : Nat) : Ctx α := spec_l09Side_XG spec_l01Plus spec_l01Det n
def spec_l09Side_Lt (np : Nat) (lent : List (Bool × Nat × Blk)) : Prop := np = 3 ∧ lent = []
def spec_l09Side_body {α : Type} (F0 : Nat → Int → Int → Int → Int → Int → (Int → Int → Option α) → Option α) (F1 : Nat → Int → Int → Int → Int → (Int → Option α) → Option α)  (k : Nat) (a : Int) (a1 : Int) (b_ : Int) (b_1 : Int) (c : Int) (c1 : Int) (r0 : Int → Option α) : Option α :=
  F0 k b_ b_1 a a1 (-1) fun v v1 =>
  F0 k c c1 b_ b_1 (-1) fun v2 v3 =>
  F1 k v v1 v2 v3 fun v4 =>
  r0 v4
theorem spec_l09Side_gen {α : Type} (F0 : Nat → Int → Int → Int → Int → Int → (Int → Int → Option α) → Option α) (F1 : Nat → Int → Int → Int → Int → (Int → Option α) → Option α)  (n : Nat) (a : Int) (a1 : Int) (b_ : Int) (b_1 : Int) (c : Int) (c1 : Int) (κ : Res → Option α) : evFn Try.prog (spec_l09Side_XG F0 F1 n) Try.f315 (((buildDs spec_l09Side_sh [.int a, .int a1, .int b_, .int b_1, .int c, .int c1]).map Prod.fst).getD []) κ = spec_l09Side_body F0 F1 n a a1 b_ b_1 c c1 (fun v1 => κ ⟨[.int .i64 v1], []⟩) := by kernel_rfl
theorem spec_l09Side_eq {α : Type} (n : Nat) (a : Int) (a1 : Int) (b_ : Int) (b_1 : Int) (c : Int) (c1 : Int) (r0 : Int → Option α) : spec_l09Side_body spec_l01Plus spec_l01Det n a a1 b_ b_1 c c1 r0 = spec_l09Side n a a1 b_ b_1 c c1 r0 := (spec_l09Side_body.eq_1 spec_l01Plus spec_l01Det n a a1 b_ b_1 c c1 r0).trans (spec_l09Side.eq_1 n a a1 b_ b_1 c c1 r0).symm
theorem spec_l09Side_rn {α : Type} (F : Nat → Int → Int → Int → Int → Int → Int → (Int → Option α) → Option α) (n : Nat) (a : Int) (a1 : Int) (b_ : Int) (b_1 : Int) (c : Int) (c1 : Int) (κ : Res → Option α) : spec_l09Side_runG F n [.int a, .int a1, .int b_, .int b_1, .int c, .int c1] κ = F n a a1 b_ b_1 c c1 (fun v1 => κ ⟨[.int .i64 v1], []⟩) := rfl
theorem spec_l09Side_ev {α : Type} (n : Nat) (a : Int) (a1 : Int) (b_ : Int) (b_1 : Int) (c : Int) (c1 : Int) (κ : Res → Option α) : evFn Try.prog (spec_l09Side_X n) Try.f315 (((buildDs spec_l09Side_sh [.int a, .int a1, .int b_, .int b_1, .int c, .int c1]).map Prod.fst).getD []) κ = spec_l09Side_run n [.int a, .int a1, .int b_, .int b_1, .int c, .int c1] κ := (spec_l09Side_gen spec_l01Plus spec_l01Det n a a1 b_ b_1 c c1 κ).trans ((spec_l09Side_eq n a a1 b_ b_1 c c1 (fun v1 => κ ⟨[.int .i64 v1], []⟩)).trans ((spec_l09Side_run.eq_1 n [.int a, .int a1, .int b_, .int b_1, .int c, .int c1] κ).trans (spec_l09Side_rn spec_l09Side n a a1 b_ b_1 c c1 κ)).symm)
theorem spec_l09Side_en (a : Int) (a1 : Int) (b_ : Int) (b_1 : Int) (c : Int) (c1 : Int) : (entry 0 (((buildDs spec_l09Side_sh [.int a, .int a1, .int b_, .int b_1, .int c, .int c1]).map Prod.fst).getD [])).map (fun x => (x.1.length, x.2.lent)) = some (3, []) := by kernel_rfl
theorem spec_l09Side_good {α : Type} : ∀ n, GoodFn (α := α) Try.prog 315 (byShape spec_l09Side_sh (spec_l09Side_run n)) := by
  refine fn_good' Try.func315 (c := (Try.f315.body.getD .skip)) (by kernel_rfl) (by kernel_rfl) (by kernel_rfl) spec_l09Side_C spec_l09Side_M eqs spec_l09Side_lps (fun n => tabC_good (List.forall_mem_cons.2 ⟨(spec_l01Plus_good n), (List.forall_mem_cons.2 ⟨(spec_l01Det_good n), (fun _ h => absurd h List.not_mem_nil)⟩)⟩)) eqs_ok spec_l09Side_Lt ?_ ?_ spec_l09Side_sh spec_l09Side_run ?_
  · exact (fun _ h => absurd h List.not_mem_nil)
  · exact (fun _ h => absurd h List.not_mem_nil)
  · intro n p κ r ds hd hr
    have hr0 := hr
    unfold spec_l09Side_run spec_l09Side_runG at hr
    split at hr
    · rw [← ds_of hd]
      exact ⟨en_of (spec_l09Side_en _ _ _ _ _ _) ⟨rfl, rfl⟩, (spec_l09Side_ev n _ _ _ _ _ _ κ).trans hr0⟩
    · cases hr

/-! loop.example/g01297/spec.l09Half -/
def spec_l09Half_sh : List SkD := [.agg [.int .i64, .int .i64]]
def spec_l09Half_runG {α : Type} (F : Nat → Int → Int → (Int → Option α) → Option α) (n : Nat) (p : List P1) (κ : Res → Option α) : Option α := match p with
  | [.int a, .int a1] => F n a a1 (fun v1 => κ ⟨[.int .i64 v1], []⟩)
  | _ => none
def spec_l09Half_run {α : Type} (n : Nat) (p : List P1) (κ : Res → Option α) : Option α := spec_l09Half_runG spec_l09Half n p κ
def spec_l09Half_CG {α : Type}  (n : Nat) : FuncId → List D → (Res → Option α) → Option α := tabC []
def spec_l09Half_C {α : Type} (n : Nat) : FuncId → List D → (Res → Option α) → Option α := spec_l09Half_CG n
def spec_l09Half_M : FuncId → List Nat := tabM []
def spec_l09Half_lpsG {α : Type}  : List (LoopT α) := []
def spec_l09Half_lps {α : Type} : List (LoopT α) := spec_l09Half_lpsG
def spec_l09Half_XG {α : Type}   (n : Nat) : Ctx α := ⟨spec_l09Half_CG n, spec_l09Half_M, eqs, lpOf (spec_l09Half_lpsG) n⟩
def spec_l09Half_X {α : Type} (n : Nat) : Ctx α := spec_l09Half_XG n
def spec_l09Half_Lt (np : Nat) (lent : List (Bool × Nat × Blk)) : Prop := np = 1 ∧ lent = []
def spec_l09Half_body {α : Type}   (k : Nat) (a : Int) (a1 : Int) (r0 : Int → Option α) : Option α :=
  bif decide (0 < a1) then
    r0 0
  else
  bif decide (a1 = 0) then
    bif decide (0 < a) then
      r0 0
    else
      r0 1
  else
    r0 1
theorem spec_l09Half_gen {α : Type}   (n : Nat) (a : Int) (a1 : Int) (κ : Res → Option α) : evFn Try.prog (spec_l09Half_XG n) Try.f316 (((buildDs spec_l09Half_sh [.int a, .int a1]).map Prod.fst).getD []) κ = spec_l09Half_body n a a1 (fun v1 => κ ⟨[.int .i64 v1], []⟩) := by kernel_rfl
theorem spec_l09Half_eq {α : Type} (n : Nat) (a : Int) (a1 : Int) (r0 : Int → Option α) : spec_l09Half_body n a a1 r0 = spec_l09Half n a a1 r0 := (spec_l09Half_body.eq_1 n a a1 r0).trans (spec_l09Half.eq_1 n a a1 r0).symm
theorem spec_l09Half_rn {α : Type} (F : Nat → Int → Int → (Int → Option α) → Option α) (n : Nat) (a : Int) (a1 : Int) (κ : Res → Option α) : spec_l09Half_runG F n [.int a, .int a1] κ = F n a a1 (fun v1 => κ ⟨[.int .i64 v1], []⟩) := rfl
theorem spec_l09Half_ev {α : Type} (n : Nat) (a : Int) (a1 : Int) (κ : Res → Option α) : evFn Try.prog (spec_l09Half_X n) Try.f316 (((buildDs spec_l09Half_sh [.int a, .int a1]).map Prod.fst).getD []) κ = spec_l09Half_run n [.int a, .int a1] κ := (spec_l09Half_gen n a a1 κ).trans ((spec_l09Half_eq n a a1 (fun v1 => κ ⟨[.int .i64 v1], []⟩)).trans ((spec_l09Half_run.eq_1 n [.int a, .int a1] κ).trans (spec_l09Half_rn spec_l09Half n a a1 κ)).symm)
theorem spec_l09Half_en (a : Int) (a1 : Int) : (entry 0 (((buildDs spec_l09Half_sh [.int a, .int a1]).map Prod.fst).getD [])).map (fun x => (x.1.length, x.2.lent)) = some (1, []) := by kernel_rfl
theorem spec_l09Half_good {α : Type} : ∀ n, GoodFn (α := α) Try.prog 316 (byShape spec_l09Half_sh (spec_l09Half_run n)) := by
  refine fn_good' Try.func316 (c := (Try.f316.body.getD .skip)) (by kernel_rfl) (by kernel_rfl) (by kernel_rfl) spec_l09Half_C spec_l09Half_M eqs spec_l09Half_lps (fun n => tabC_good (fun _ h => absurd h List.not_mem_nil)) eqs_ok spec_l09Half_Lt ?_ ?_ spec_l09Half_sh spec_l09Half_run ?_
  · exact (fun _ h => absurd h List.not_mem_nil)
  · exact (fun _ h => absurd h List.not_mem_nil)
  · intro n p κ r ds hd hr
    have hr0 := hr
    unfold spec_l09Half_run spec_l09Half_runG at hr
    split at hr
    · rw [← ds_of hd]
      exact ⟨en_of (spec_l09Half_en _ _) ⟨rfl, rfl⟩, (spec_l09Half_ev n _ _ κ).trans hr0⟩
    · cases hr

/-! loop.example/g01297/spec.l09Is -/
def spec_l09Is_sh : List SkD := [.sl 26 .pt]
def spec_l09Is_runG {α : Type} (F : Nat → (List (Int × Int)) → (Bool → Option α) → Option α) (n : Nat) (p : List P1) (κ : Res → Option α) : Option α := match p with
  | [.rows .pt list] => F n list (fun v1 => κ ⟨[.bool v1], []⟩)
  | _ => none
def spec_l09Is_run {α : Type} (n : Nat) (p : List P1) (κ : Res → Option α) : Option α := spec_l09Is_runG spec_l09Is n p κ
def spec_l09Is_CG {α : Type} (F0 : Nat → Int → Int → Int → (Bool → Option α) → Option α) (F1 : Nat → Int → Int → (Bool → Option α) → Option α) (F2 : Nat → Int → Int → Int → Int → Int → Int → (Int → Option α) → Option α) (F3 : Nat → Int → Int → Int → Int → Int → (Int → Int → Option α) → Option α) (F4 : Nat → Int → Int → (Int → Option α) → Option α) (n : Nat) : FuncId → List D → (Res → Option α) → Option α := tabC [(170, (byShape spec_l01In_sh (spec_l01In_runG F0 n))), (165, (byShape spec_l01Is_sh (spec_l01Is_runG F1 n))), (315, (byShape spec_l09Side_sh (spec_l09Side_runG F2 n))), (183, (byShape spec_l01Plus_sh (spec_l01Plus_runG F3 n))), (316, (byShape spec_l09Half_sh (spec_l09Half_runG F4 n)))]
def spec_l09Is_C {α : Type} (n : Nat) : FuncId → List D → (Res → Option α) → Option α := spec_l09Is_CG spec_l01In spec_l01Is spec_l09Side spec_l01Plus spec_l09Half n
def spec_l09Is_M : FuncId → List Nat := tabM []
def spec_l09Is_t6 : Tpl := ⟨[.sl 0, .any, .any, .int .i64, .int .i64, .int .i64, .any, .any, .any, .any, .any, .any, .any, .any, .any, .any, .any, .any, .any, .any, .any, .any, .any, .any, .any, .any, .any, .any, .any, .any, .any, .any, .any, .any, .any, .any, .any, .any, .any, .any, .any, .any, .any, .any, .any, .any, .any, .any, .any, .any, .any, .any, .any, .any, .any, .any, .any, .any, .any, .any, .any, .any, .any, .any, .any, .any, .any, .any, .any, .any, .any, .any, .any, .any, .any, .any, .any, .any, .any, .any, .any], [(0, .rows 0 26 .pt)], []⟩
def spec_l09Is_uG6 {α : Type} (G : Nat → Int → Int → Int → (List (Int × Int)) → (Int → Int → Int → (List (Int × Int)) → Option α) → (Bool → Option α) → Option α) (n : Nat) (p : List P1) (brk : Nat → List P1 → Option α) (ret : Res → Option α) : Option α := match p with
  | [.int n_, .int turns, .int i, .rows .pt list1] => G n n_ turns i list1 (fun n_ turns i list1 => brk 0 [.int n_, .int turns, .int i, .rows .pt list1]) (fun v1 => ret ⟨[.bool v1], []⟩)
  | _ => none
def spec_l09Is_u6 {α : Type} (n : Nat) (p : List P1) (brk : Nat → List P1 → Option α) (ret : Res → Option α) : Option α := spec_l09Is_uG6 spec_l09Is_l6 n p brk ret
def spec_l09Is_lpsG {α : Type} (G6 : Nat → Int → Int → Int → (List (Int × Int)) → (Int → Int → Int → (List (Int × Int)) → Option α) → (Bool → Option α) → Option α) : List (LoopT α) := [⟨6, spec_l09Is_t6, spec_l09Is_uG6 G6⟩]
def spec_l09Is_lps {α : Type} : List (LoopT α) := spec_l09Is_lpsG spec_l09Is_l6
def spec_l09Is_XG {α : Type} (F0 : Nat → Int → Int → Int → (Bool → Option α) → Option α) (F1 : Nat → Int → Int → (Bool → Option α) → Option α) (F2 : Nat → Int → Int → Int → Int → Int → Int → (Int → Option α) → Option α) (F3 : Nat → Int → Int → Int → Int → Int → (Int → Int → Option α) → Option α) (F4 : Nat → Int → Int → (Int → Option α) → Option α) (G6 : Nat → Int → Int → Int → (List (Int × Int)) → (Int → Int → Int → (List (Int × Int)) → Option α) → (Bool → Option α) → Option α) (n : Nat) : Ctx α := ⟨spec_l09Is_CG F0 F1 F2 F3 F4 n, spec_l09Is_M, eqs, lpOf (spec_l09Is_lpsG G6) n⟩
def spec_l09Is_X {α : Type} (n : Nat) : Ctx α := spec_l09Is_XG spec_l01In spec_l01Is spec_l09Side spec_l01Plus spec_l09Half spec_l09Is_l6 n
def spec_l09Is_Lt (np : Nat) (lent : List (Bool × Nat × Blk)) : Prop := np = 1 ∧ lent = []
def spec_l09Is_lb6 {α : Type} (F0 : Nat → Int → Int → Int → (Bool → Option α) → Option α) (F1 : Nat → Int → Int → (Bool → Option α) → Option α) (F2 : Nat → Int → Int → Int → Int → Int → Int → (Int → Option α) → Option α) (F3 : Nat → Int → Int → Int → Int → Int → (Int → Int → Option α) → Option α) (F4 : Nat → Int → Int → (Int → Option α) → Option α) (G6 : Nat → Int → Int → Int → (List (Int × Int)) → (Int → Int → Int → (List (Int × Int)) → Option α) → (Bool → Option α) → Option α) (k : Nat) (n_ : Int) (turns : Int) (i : Int) (list1 : List (Int × Int)) (b0 : Int → Int → Int → (List (Int × Int)) → Option α) (r0 : Bool → Option α) : Option α :=
  bif decide (i < n_) then
    bif (decide (0 ≤ i) && decide (i < (((List.length list1) : Nat) : Int))) then
      (list1[i.toNat]?).bind fun e_ =>
      bif decide (n_ = 0) then
        none
      else
      bif (decide (0 ≤ (Int.tmod (w64 (i + 1)) n_)) && decide ((Int.tmod (w64 (i + 1)) n_) < (((List.length list1) : Nat) : Int))) then
        (list1[(Int.tmod (w64 (i + 1)) n_).toNat]?).bind fun e_1 =>
        bif decide (n_ = 0) then
          none
        else
        bif (decide (0 ≤ (Int.tmod (w64 (i + 2)) n_)) && decide ((Int.tmod (w64 (i + 2)) n_) < (((List.length list1) : Nat) : Int))) then
          (list1[(Int.tmod (w64 (i + 2)) n_).toNat]?).bind fun e_2 =>
          F0 k e_.1 (-1000) 1000 fun v =>
          bif (!v) then
            r0 false
          else
            F0 k e_.2 (-1000) 1000 fun v1 =>
            bif (!v1) then
              r0 false
            else
              F1 k e_1.1 e_1.2 fun v2 =>
              bif (!v2) then
                r0 false
              else
                F1 k e_2.1 e_2.2 fun v3 =>
                bif (!v3) then
                  r0 false
                else
                  F2 k e_.1 e_.2 e_1.1 e_1.2 e_2.1 e_2.2 fun v4 =>
                  bif decide (v4 ≤ 0) then
                    r0 false
                  else
                    F3 k e_1.1 e_1.2 e_.1 e_.2 (-1) fun v5 v6 =>
                    F4 k v5 v6 fun v7 =>
                    bif decide (v7 = 1) then
                      F3 k e_2.1 e_2.2 e_1.1 e_1.2 (-1) fun v8 v9 =>
                      F4 k v8 v9 fun v10 =>
                      bif decide (v10 = 0) then
                        G6 k n_ (w64 (turns + 1)) (w64 (i + 1)) list1 b0 r0
                      else
                        G6 k n_ turns (w64 (i + 1)) list1 b0 r0
                    else
                      G6 k n_ turns (w64 (i + 1)) list1 b0 r0
        else
          none
      else
        none
    else
      none
  else
    b0 n_ turns i list1
theorem spec_l09Is_l6_gen {α : Type} (F0 : Nat → Int → Int → Int → (Bool → Option α) → Option α) (F1 : Nat → Int → Int → (Bool → Option α) → Option α) (F2 : Nat → Int → Int → Int → Int → Int → Int → (Int → Option α) → Option α) (F3 : Nat → Int → Int → Int → Int → Int → (Int → Int → Option α) → Option α) (F4 : Nat → Int → Int → (Int → Option α) → Option α) (G6 : Nat → Int → Int → Int → (List (Int × Int)) → (Int → Int → Int → (List (Int × Int)) → Option α) → (Bool → Option α) → Option α) (n : Nat) (n_ : Int) (turns : Int) (i : Int) (list1 : List (Int × Int)) (brk : Nat → List P1 → Option α) (ret : Res → Option α) : ev ((spec_l09Is_XG F0 F1 F2 F3 F4 G6 n).env Try.prog Try.f275 1 []) (findLoop (loopsIn (Try.f275.body.getD .skip)) 6) ((spec_l09Is_t6.build [.int n_, .int turns, .int i, .rows .pt list1]).getD ⟨[], []⟩) (roundK (1 * 64) spec_l09Is_t6 (fun q => spec_l09Is_uG6 G6 n q brk ret) brk ret) = spec_l09Is_lb6 F0 F1 F2 F3 F4 G6 n n_ turns i list1 (fun n_ turns i list1 => brk 0 [.int n_, .int turns, .int i, .rows .pt list1]) (fun v1 => ret ⟨[.bool v1], []⟩) := by kernel_rfl
theorem spec_l09Is_l6_eq {α : Type} (k : Nat) (n_ : Int) (turns : Int) (i : Int) (list1 : List (Int × Int)) (b0 : Int → Int → Int → (List (Int × Int)) → Option α) (r0 : Bool → Option α) : spec_l09Is_lb6 spec_l01In spec_l01Is spec_l09Side spec_l01Plus spec_l09Half spec_l09Is_l6 k n_ turns i list1 b0 r0 = spec_l09Is_l6 (k + 1) n_ turns i list1 b0 r0 := (spec_l09Is_lb6.eq_1 spec_l01In spec_l01Is spec_l09Side spec_l01Plus spec_l09Half spec_l09Is_l6 k n_ turns i list1 b0 r0).trans (show spec_l09Is_l6 (k + 1) n_ turns i list1 b0 r0 = _ from spec_l09Is_l6.eq_2 _ _ _ _ _ _ _ ).symm
theorem spec_l09Is_l6_rn {α : Type} (G : Nat → Int → Int → Int → (List (Int × Int)) → (Int → Int → Int → (List (Int × Int)) → Option α) → (Bool → Option α) → Option α) (n : Nat) (n_ : Int) (turns : Int) (i : Int) (list1 : List (Int × Int)) (brk : Nat → List P1 → Option α) (ret : Res → Option α) : spec_l09Is_uG6 G n [.int n_, .int turns, .int i, .rows .pt list1] brk ret = G n n_ turns i list1 (fun n_ turns i list1 => brk 0 [.int n_, .int turns, .int i, .rows .pt list1]) (fun v1 => ret ⟨[.bool v1], []⟩) := rfl
theorem spec_l09Is_l6_ev {α : Type} (n : Nat) (n_ : Int) (turns : Int) (i : Int) (list1 : List (Int × Int)) (brk : Nat → List P1 → Option α) (ret : Res → Option α) : ev ((spec_l09Is_X n).env Try.prog Try.f275 1 []) (findLoop (loopsIn (Try.f275.body.getD .skip)) 6) ((spec_l09Is_t6.build [.int n_, .int turns, .int i, .rows .pt list1]).getD ⟨[], []⟩) (roundK (1 * 64) spec_l09Is_t6 (fun q => spec_l09Is_u6 n q brk ret) brk ret) = spec_l09Is_u6 (n + 1) [.int n_, .int turns, .int i, .rows .pt list1] brk ret := (spec_l09Is_l6_gen spec_l01In spec_l01Is spec_l09Side spec_l01Plus spec_l09Half spec_l09Is_l6 n n_ turns i list1 brk ret).trans ((spec_l09Is_l6_eq n n_ turns i list1 (fun n_ turns i list1 => brk 0 [.int n_, .int turns, .int i, .rows .pt list1]) (fun v1 => ret ⟨[.bool v1], []⟩)).trans ((spec_l09Is_u6.eq_1 (n + 1) [.int n_, .int turns, .int i, .rows .pt list1] brk ret).trans (spec_l09Is_l6_rn spec_l09Is_l6 (n + 1) n_ turns i list1 brk ret)).symm)
def spec_l09Is_body {α : Type} (F0 : Nat → Int → Int → Int → (Bool → Option α) → Option α) (F1 : Nat → Int → Int → (Bool → Option α) → Option α) (F2 : Nat → Int → Int → Int → Int → Int → Int → (Int → Option α) → Option α) (F3 : Nat → Int → Int → Int → Int → Int → (Int → Int → Option α) → Option α) (F4 : Nat → Int → Int → (Int → Option α) → Option α) (G6 : Nat → Int → Int → Int → (List (Int × Int)) → (Int → Int → Int → (List (Int × Int)) → Option α) → (Bool → Option α) → Option α) (k : Nat) (list : List (Int × Int)) (r0 : Bool → Option α) : Option α :=
  bif decide ((((List.length list) : Nat) : Int) < 3) then
    r0 false
  else
  bif decide (12 < (((List.length list) : Nat) : Int)) then
    r0 false
  else
    G6 k (((List.length list) : Nat) : Int) 0 0 list
      (fun n_1 turns1 i1 list2 =>
        r0 (decide (turns1 = 1)))
      r0
theorem spec_l09Is_gen {α : Type} (F0 : Nat → Int → Int → Int → (Bool → Option α) → Option α) (F1 : Nat → Int → Int → (Bool → Option α) → Option α) (F2 : Nat → Int → Int → Int → Int → Int → Int → (Int → Option α) → Option α) (F3 : Nat → Int → Int → Int → Int → Int → (Int → Int → Option α) → Option α) (F4 : Nat → Int → Int → (Int → Option α) → Option α) (G6 : Nat → Int → Int → Int → (List (Int × Int)) → (Int → Int → Int → (List (Int × Int)) → Option α) → (Bool → Option α) → Option α) (n : Nat) (list : List (Int × Int)) (κ : Res → Option α) : evFn Try.prog (spec_l09Is_XG F0 F1 F2 F3 F4 G6 n) Try.f275 (((buildDs spec_l09Is_sh [.rows .pt list]).map Prod.fst).getD []) κ = spec_l09Is_body F0 F1 F2 F3 F4 G6 n list (fun v1 => κ ⟨[.bool v1], []⟩) := by kernel_rfl
theorem spec_l09Is_eq {α : Type} (n : Nat) (list : List (Int × Int)) (r0 : Bool → Option α) : spec_l09Is_body spec_l01In spec_l01Is spec_l09Side spec_l01Plus spec_l09Half spec_l09Is_l6 n list r0 = spec_l09Is n list r0 := (spec_l09Is_body.eq_1 spec_l01In spec_l01Is spec_l09Side spec_l01Plus spec_l09Half spec_l09Is_l6 n list r0).trans (spec_l09Is.eq_1 n list r0).symm
theorem spec_l09Is_rn {α : Type} (F : Nat → (List (Int × Int)) → (Bool → Option α) → Option α) (n : Nat) (list : List (Int × Int)) (κ : Res → Option α) : spec_l09Is_runG F n [.rows .pt list] κ = F n list (fun v1 => κ ⟨[.bool v1], []⟩) := rfl
theorem spec_l09Is_ev {α : Type} (n : Nat) (list : List (Int × Int)) (κ : Res → Option α) : evFn Try.prog (spec_l09Is_X n) Try.f275 (((buildDs spec_l09Is_sh [.rows .pt list]).map Prod.fst).getD []) κ = spec_l09Is_run n [.rows .pt list] κ := (spec_l09Is_gen spec_l01In spec_l01Is spec_l09Side spec_l01Plus spec_l09Half spec_l09Is_l6 n list κ).trans ((spec_l09Is_eq n list (fun v1 => κ ⟨[.bool v1], []⟩)).trans ((spec_l09Is_run.eq_1 n [.rows .pt list] κ).trans (spec_l09Is_rn spec_l09Is n list κ)).symm)
theorem spec_l09Is_en (list : List (Int × Int)) : (entry 0 (((buildDs spec_l09Is_sh [.rows .pt list]).map Prod.fst).getD [])).map (fun x => (x.1.length, x.2.lent)) = some (1, []) := by kernel_rfl
theorem spec_l09Is_good {α : Type} : ∀ n, GoodFn (α := α) Try.prog 275 (byShape spec_l09Is_sh (spec_l09Is_run n)) := by
  refine fn_good' Try.func275 (c := (Try.f275.body.getD .skip)) (by kernel_rfl) (by kernel_rfl) (by kernel_rfl) spec_l09Is_C spec_l09Is_M eqs spec_l09Is_lps (fun n => tabC_good (List.forall_mem_cons.2 ⟨(spec_l01In_good n), (List.forall_mem_cons.2 ⟨(spec_l01Is_good n), (List.forall_mem_cons.2 ⟨(spec_l09Side_good n), (List.forall_mem_cons.2 ⟨(spec_l01Plus_good n), (List.forall_mem_cons.2 ⟨(spec_l09Half_good n), (fun _ h => absurd h List.not_mem_nil)⟩)⟩)⟩)⟩)⟩)) eqs_ok spec_l09Is_Lt ?_ ?_ spec_l09Is_sh spec_l09Is_run ?_
  · refine List.forall_mem_cons.2 ⟨?_, (fun _ h => absurd h List.not_mem_nil)⟩
    · intro p brk ret; show spec_l09Is_u6 0 p brk ret = none; unfold spec_l09Is_u6 spec_l09Is_uG6; split <;> rfl
  · refine List.forall_mem_cons.2 ⟨?_, (fun _ h => absurd h List.not_mem_nil)⟩
    · intro np lent hL n p brk ret st r hb hr
      obtain ⟨rfl, rfl⟩ := hL
      rw [← tpl_of hb]
      change spec_l09Is_u6 (n + 1) p brk ret = some r at hr
      have hr0 := hr
      unfold spec_l09Is_u6 spec_l09Is_uG6 at hr
      split at hr
      · exact (spec_l09Is_l6_ev n _ _ _ _ brk ret).trans hr0
      · cases hr
  · intro n p κ r ds hd hr
    have hr0 := hr
    unfold spec_l09Is_run spec_l09Is_runG at hr
    split at hr
    · rw [← ds_of hd]
      exact ⟨en_of (spec_l09Is_en _) ⟨rfl, rfl⟩, (spec_l09Is_ev n _ κ).trans hr0⟩
    · cases hr

/-! loop.example/g01297/spec.l09Code -/
def spec_l09Code_0M1_sh : List SkD := [.slm 35 [.sl 26 .pt]]
def spec_l09Code_0M1_runG {α : Type} (F : Nat → (List (Int × Int)) → (Int → Option α) → Option α) (n : Nat) (p : List P1) (κ : Res → Option α) : Option α := match p with
  | [.rows .pt lists] => F n lists (fun v1 => κ ⟨[.int .i64 v1], []⟩)
  | _ => none
def spec_l09Code_0M1_run {α : Type} (n : Nat) (p : List P1) (κ : Res → Option α) : Option α := spec_l09Code_0M1_runG spec_l09Code_0M1 n p κ
def spec_l09Code_0M1_CG {α : Type} (F0 : Nat → (List (Int × Int)) → (Bool → Option α) → Option α) (n : Nat) : FuncId → List D → (Res → Option α) → Option α := tabC [(275, (byShape spec_l09Is_sh (spec_l09Is_runG F0 n)))]
def spec_l09Code_0M1_C {α : Type} (n : Nat) : FuncId → List D → (Res → Option α) → Option α := spec_l09Code_0M1_CG spec_l09Is n
def spec_l09Code_0M1_M : FuncId → List Nat := tabM []
def spec_l09Code_0M1_lpsG {α : Type}  : List (LoopT α) := []
def spec_l09Code_0M1_lps {α : Type} : List (LoopT α) := spec_l09Code_0M1_lpsG
def spec_l09Code_0M1_XG {α : Type} (F0 : Nat → (List (Int × Int)) → (Bool → Option α) → Option α)  (n : Nat) : Ctx α := ⟨spec_l09Code_0M1_CG F0 n, spec_l09Code_0M1_M, eqs, lpOf (spec_l09Code_0M1_lpsG) n⟩
def spec_l09Code_0M1_X {α : Type} (n : Nat) : Ctx α := spec_l09Code_0M1_XG spec_l09Is n
def spec_l09Code_0M1_Lt (np : Nat) (lent : List (Bool × Nat × Blk)) : Prop := np = 1 ∧ lent = []
def spec_l09Code_0M1_body {α : Type} (F0 : Nat → (List (Int × Int)) → (Bool → Option α) → Option α)  (k : Nat) (lists : List (Int × Int)) (r0 : Int → Option α) : Option α :=
  F0 k lists fun v =>
  bif (!v) then
    r0 1
  else
    r0 0
theorem spec_l09Code_0M1_gen {α : Type} (F0 : Nat → (List (Int × Int)) → (Bool → Option α) → Option α)  (n : Nat) (lists : List (Int × Int)) (κ : Res → Option α) : evFn Try.prog (spec_l09Code_0M1_XG F0 n) Try.f175 (((buildDs spec_l09Code_0M1_sh [.rows .pt lists]).map Prod.fst).getD []) κ = spec_l09Code_0M1_body F0 n lists (fun v1 => κ ⟨[.int .i64 v1], []⟩) := by kernel_rfl
theorem spec_l09Code_0M1_eq {α : Type} (n : Nat) (lists : List (Int × Int)) (r0 : Int → Option α) : spec_l09Code_0M1_body spec_l09Is n lists r0 = spec_l09Code_0M1 n lists r0 := (spec_l09Code_0M1_body.eq_1 spec_l09Is n lists r0).trans (spec_l09Code_0M1.eq_1 n lists r0).symm
theorem spec_l09Code_0M1_rn {α : Type} (F : Nat → (List (Int × Int)) → (Int → Option α) → Option α) (n : Nat) (lists : List (Int × Int)) (κ : Res → Option α) : spec_l09Code_0M1_runG F n [.rows .pt lists] κ = F n lists (fun v1 => κ ⟨[.int .i64 v1], []⟩) := rfl
theorem spec_l09Code_0M1_ev {α : Type} (n : Nat) (lists : List (Int × Int)) (κ : Res → Option α) : evFn Try.prog (spec_l09Code_0M1_X n) Try.f175 (((buildDs spec_l09Code_0M1_sh [.rows .pt lists]).map Prod.fst).getD []) κ = spec_l09Code_0M1_run n [.rows .pt lists] κ := (spec_l09Code_0M1_gen spec_l09Is n lists κ).trans ((spec_l09Code_0M1_eq n lists (fun v1 => κ ⟨[.int .i64 v1], []⟩)).trans ((spec_l09Code_0M1_run.eq_1 n [.rows .pt lists] κ).trans (spec_l09Code_0M1_rn spec_l09Code_0M1 n lists κ)).symm)
theorem spec_l09Code_0M1_en (lists : List (Int × Int)) : (entry 0 (((buildDs spec_l09Code_0M1_sh [.rows .pt lists]).map Prod.fst).getD [])).map (fun x => (x.1.length, x.2.lent)) = some (1, []) := by kernel_rfl
theorem spec_l09Code_0M1_good {α : Type} : ∀ n, GoodFn (α := α) Try.prog 175 (byShape spec_l09Code_0M1_sh (spec_l09Code_0M1_run n)) := by
  refine fn_good' Try.func175 (c := (Try.f175.body.getD .skip)) (by kernel_rfl) (by kernel_rfl) (by kernel_rfl) spec_l09Code_0M1_C spec_l09Code_0M1_M eqs spec_l09Code_0M1_lps (fun n => tabC_good (List.forall_mem_cons.2 ⟨(spec_l09Is_good n), (fun _ h => absurd h List.not_mem_nil)⟩)) eqs_ok spec_l09Code_0M1_Lt ?_ ?_ spec_l09Code_0M1_sh spec_l09Code_0M1_run ?_
  · exact (fun _ h => absurd h List.not_mem_nil)
  · exact (fun _ h => absurd h List.not_mem_nil)
  · intro n p κ r ds hd hr
    have hr0 := hr
    unfold spec_l09Code_0M1_run spec_l09Code_0M1_runG at hr
    split at hr
    · rw [← ds_of hd]
      exact ⟨en_of (spec_l09Code_0M1_en _) ⟨rfl, rfl⟩, (spec_l09Code_0M1_ev n _ κ).trans hr0⟩
    · cases hr

/-! loop.example/g01297/spec.l09Where -/
def spec_l09Where_sh : List SkD := [.sl 26 .pt, .agg [.int .i64, .int .i64]]
def spec_l09Where_runG {α : Type} (F : Nat → (List (Int × Int)) → Int → Int → (Int → Option α) → Option α) (n : Nat) (p : List P1) (κ : Res → Option α) : Option α := match p with
  | [.rows .pt list, .int a, .int a1] => F n list a a1 (fun v1 => κ ⟨[.int .i64 v1], []⟩)
  | _ => none
def spec_l09Where_run {α : Type} (n : Nat) (p : List P1) (κ : Res → Option α) : Option α := spec_l09Where_runG spec_l09Where n p κ
def spec_l09Where_CG {α : Type} (F0 : Nat → Int → Int → Int → Int → Int → (Int → Int → Option α) → Option α) (F1 : Nat → Int → Int → Int → Int → (Int → Option α) → Option α) (n : Nat) : FuncId → List D → (Res → Option α) → Option α := tabC [(183, (byShape spec_l01Plus_sh (spec_l01Plus_runG F0 n))), (260, (byShape spec_l01Det_sh (spec_l01Det_runG F1 n)))]
def spec_l09Where_C {α : Type} (n : Nat) : FuncId → List D → (Res → Option α) → Option α := spec_l09Where_CG spec_l01Plus spec_l01Det n
def spec_l09Where_M : FuncId → List Nat := tabM []
def spec_l09Where_t3 : Tpl := ⟨[.sl 0, .any, .any, .ptr 192 0 0, .any, .int .i64, .int .i64, .any, .any, .any, .any, .any, .any, .any, .any, .any, .any, .any, .any, .any, .any, .any, .any, .any, .any, .any, .any, .any, .any, .any, .any, .any, .any, .any, .any, .any, .any, .any, .any, .any], [(0, .rows 0 26 .pt), (192, .ints 2 26 .i64 2)], []⟩
def spec_l09Where_uG3 {α : Type} (G : Nat → Int → Int → (List (Int × Int)) → Int → Int → (Int → Int → (List (Int × Int)) → Int → Int → Option α) → (Int → Option α) → Option α) (n : Nat) (p : List P1) (brk : Nat → List P1 → Option α) (ret : Res → Option α) : Option α := match p with
  | [.int out, .int i, .rows .pt list1, .int a2, .int a3] => G n out i list1 a2 a3 (fun out i list1 a2 a3 => brk 0 [.int out, .int i, .rows .pt list1, .int a2, .int a3]) (fun v1 => ret ⟨[.int .i64 v1], []⟩)
  | _ => none
def spec_l09Where_u3 {α : Type} (n : Nat) (p : List P1) (brk : Nat → List P1 → Option α) (ret : Res → Option α) : Option α := spec_l09Where_uG3 spec_l09Where_l3 n p brk ret
def spec_l09Where_lpsG {α : Type} (G3 : Nat → Int → Int → (List (Int × Int)) → Int → Int → (Int → Int → (List (Int × Int)) → Int → Int → Option α) → (Int → Option α) → Option α) : List (LoopT α) := [⟨3, spec_l09Where_t3, spec_l09Where_uG3 G3⟩]
def spec_l09Where_lps {α : Type} : List (LoopT α) := spec_l09Where_lpsG spec_l09Where_l3
def spec_l09Where_XG {α : Type} (F0 : Nat → Int → Int → Int → Int → Int → (Int → Int → Option α) → Option α) (F1 : Nat → Int → Int → Int → Int → (Int → Option α) → Option α) (G3 : Nat → Int → Int → (List (Int × Int)) → Int → Int → (Int → Int → (List (Int × Int)) → Int → Int → Option α) → (Int → Option α) → Option α) (n : Nat) : Ctx α := ⟨spec_l09Where_CG F0 F1 n, spec_l09Where_M, eqs, lpOf (spec_l09Where_lpsG G3) n⟩
def spec_l09Where_X {α : Type} (n : Nat) : Ctx α := spec_l09Where_XG spec_l01Plus spec_l01Det spec_l09Where_l3 n
def spec_l09Where_Lt (np : Nat) (lent : List (Bool × Nat × Blk)) : Prop := np = 2 ∧ lent = []
def spec_l09Where_lb3 {α : Type} (F0 : Nat → Int → Int → Int → Int → Int → (Int → Int → Option α) → Option α) (F1 : Nat → Int → Int → Int → Int → (Int → Option α) → Option α) (G3 : Nat → Int → Int → (List (Int × Int)) → Int → Int → (Int → Int → (List (Int × Int)) → Int → Int → Option α) → (Int → Option α) → Option α) (k : Nat) (out : Int) (i : Int) (list1 : List (Int × Int)) (a2 : Int) (a3 : Int) (b0 : Int → Int → (List (Int × Int)) → Int → Int → Option α) (r0 : Int → Option α) : Option α :=
  bif decide (i < (((List.length list1) : Nat) : Int)) then
    bif (decide (0 ≤ i) && decide (i < (((List.length list1) : Nat) : Int))) then
      (list1[i.toNat]?).bind fun e_ =>
      bif decide ((((List.length list1) : Nat) : Int) = 0) then
        none
      else
      bif (decide (0 ≤ (Int.tmod (w64 (i + 1)) (((List.length list1) : Nat) : Int))) && decide ((Int.tmod (w64 (i + 1)) (((List.length list1) : Nat) : Int)) < (((List.length list1) : Nat) : Int))) then
        (list1[(Int.tmod (w64 (i + 1)) (((List.length list1) : Nat) : Int)).toNat]?).bind fun e_1 =>
        F0 k e_1.1 e_1.2 e_.1 e_.2 (-1) fun v v1 =>
        F0 k a2 a3 e_.1 e_.2 (-1) fun v2 v3 =>
        F1 k v v1 v2 v3 fun v4 =>
        bif decide (v4 < 0) then
          r0 (-1)
        else
        bif decide (v4 = 0) then
          G3 k 0 (w64 (i + 1)) list1 a2 a3 b0 r0
        else
          G3 k out (w64 (i + 1)) list1 a2 a3 b0 r0
      else
        none
    else
      none
  else
    b0 out i list1 a2 a3
theorem spec_l09Where_l3_gen {α : Type} (F0 : Nat → Int → Int → Int → Int → Int → (Int → Int → Option α) → Option α) (F1 : Nat → Int → Int → Int → Int → (Int → Option α) → Option α) (G3 : Nat → Int → Int → (List (Int × Int)) → Int → Int → (Int → Int → (List (Int × Int)) → Int → Int → Option α) → (Int → Option α) → Option α) (n : Nat) (out : Int) (i : Int) (list1 : List (Int × Int)) (a2 : Int) (a3 : Int) (brk : Nat → List P1 → Option α) (ret : Res → Option α) : ev ((spec_l09Where_XG F0 F1 G3 n).env Try.prog Try.f180 2 []) (findLoop (loopsIn (Try.f180.body.getD .skip)) 3) ((spec_l09Where_t3.build [.int out, .int i, .rows .pt list1, .int a2, .int a3]).getD ⟨[], []⟩) (roundK (2 * 64) spec_l09Where_t3 (fun q => spec_l09Where_uG3 G3 n q brk ret) brk ret) = spec_l09Where_lb3 F0 F1 G3 n out i list1 a2 a3 (fun out i list1 a2 a3 => brk 0 [.int out, .int i, .rows .pt list1, .int a2, .int a3]) (fun v1 => ret ⟨[.int .i64 v1], []⟩) := by kernel_rfl
theorem spec_l09Where_l3_eq {α : Type} (k : Nat) (out : Int) (i : Int) (list1 : List (Int × Int)) (a2 : Int) (a3 : Int) (b0 : Int → Int → (List (Int × Int)) → Int → Int → Option α) (r0 : Int → Option α) : spec_l09Where_lb3 spec_l01Plus spec_l01Det spec_l09Where_l3 k out i list1 a2 a3 b0 r0 = spec_l09Where_l3 (k + 1) out i list1 a2 a3 b0 r0 := (spec_l09Where_lb3.eq_1 spec_l01Plus spec_l01Det spec_l09Where_l3 k out i list1 a2 a3 b0 r0).trans (show spec_l09Where_l3 (k + 1) out i list1 a2 a3 b0 r0 = _ from spec_l09Where_l3.eq_2 _ _ _ _ _ _ _ _ ).symm
theorem spec_l09Where_l3_rn {α : Type} (G : Nat → Int → Int → (List (Int × Int)) → Int → Int → (Int → Int → (List (Int × Int)) → Int → Int → Option α) → (Int → Option α) → Option α) (n : Nat) (out : Int) (i : Int) (list1 : List (Int × Int)) (a2 : Int) (a3 : Int) (brk : Nat → List P1 → Option α) (ret : Res → Option α) : spec_l09Where_uG3 G n [.int out, .int i, .rows .pt list1, .int a2, .int a3] brk ret = G n out i list1 a2 a3 (fun out i list1 a2 a3 => brk 0 [.int out, .int i, .rows .pt list1, .int a2, .int a3]) (fun v1 => ret ⟨[.int .i64 v1], []⟩) := rfl
theorem spec_l09Where_l3_ev {α : Type} (n : Nat) (out : Int) (i : Int) (list1 : List (Int × Int)) (a2 : Int) (a3 : Int) (brk : Nat → List P1 → Option α) (ret : Res → Option α) : ev ((spec_l09Where_X n).env Try.prog Try.f180 2 []) (findLoop (loopsIn (Try.f180.body.getD .skip)) 3) ((spec_l09Where_t3.build [.int out, .int i, .rows .pt list1, .int a2, .int a3]).getD ⟨[], []⟩) (roundK (2 * 64) spec_l09Where_t3 (fun q => spec_l09Where_u3 n q brk ret) brk ret) = spec_l09Where_u3 (n + 1) [.int out, .int i, .rows .pt list1, .int a2, .int a3] brk ret := (spec_l09Where_l3_gen spec_l01Plus spec_l01Det spec_l09Where_l3 n out i list1 a2 a3 brk ret).trans ((spec_l09Where_l3_eq n out i list1 a2 a3 (fun out i list1 a2 a3 => brk 0 [.int out, .int i, .rows .pt list1, .int a2, .int a3]) (fun v1 => ret ⟨[.int .i64 v1], []⟩)).trans ((spec_l09Where_u3.eq_1 (n + 1) [.int out, .int i, .rows .pt list1, .int a2, .int a3] brk ret).trans (spec_l09Where_l3_rn spec_l09Where_l3 (n + 1) out i list1 a2 a3 brk ret)).symm)
def spec_l09Where_body {α : Type} (F0 : Nat → Int → Int → Int → Int → Int → (Int → Int → Option α) → Option α) (F1 : Nat → Int → Int → Int → Int → (Int → Option α) → Option α) (G3 : Nat → Int → Int → (List (Int × Int)) → Int → Int → (Int → Int → (List (Int × Int)) → Int → Int → Option α) → (Int → Option α) → Option α) (k : Nat) (list : List (Int × Int)) (a : Int) (a1 : Int) (r0 : Int → Option α) : Option α :=
  G3 k 1 0 list a a1
    (fun out1 i1 list2 a4 a5 =>
      r0 out1)
    r0
theorem spec_l09Where_gen {α : Type} (F0 : Nat → Int → Int → Int → Int → Int → (Int → Int → Option α) → Option α) (F1 : Nat → Int → Int → Int → Int → (Int → Option α) → Option α) (G3 : Nat → Int → Int → (List (Int × Int)) → Int → Int → (Int → Int → (List (Int × Int)) → Int → Int → Option α) → (Int → Option α) → Option α) (n : Nat) (list : List (Int × Int)) (a : Int) (a1 : Int) (κ : Res → Option α) : evFn Try.prog (spec_l09Where_XG F0 F1 G3 n) Try.f180 (((buildDs spec_l09Where_sh [.rows .pt list, .int a, .int a1]).map Prod.fst).getD []) κ = spec_l09Where_body F0 F1 G3 n list a a1 (fun v1 => κ ⟨[.int .i64 v1], []⟩) := by kernel_rfl
theorem spec_l09Where_eq {α : Type} (n : Nat) (list : List (Int × Int)) (a : Int) (a1 : Int) (r0 : Int → Option α) : spec_l09Where_body spec_l01Plus spec_l01Det spec_l09Where_l3 n list a a1 r0 = spec_l09Where n list a a1 r0 := (spec_l09Where_body.eq_1 spec_l01Plus spec_l01Det spec_l09Where_l3 n list a a1 r0).trans (spec_l09Where.eq_1 n list a a1 r0).symm
theorem spec_l09Where_rn {α : Type} (F : Nat → (List (Int × Int)) → Int → Int → (Int → Option α) → Option α) (n : Nat) (list : List (Int × Int)) (a : Int) (a1 : Int) (κ : Res → Option α) : spec_l09Where_runG F n [.rows .pt list, .int a, .int a1] κ = F n list a a1 (fun v1 => κ ⟨[.int .i64 v1], []⟩) := rfl
theorem spec_l09Where_ev {α : Type} (n : Nat) (list : List (Int × Int)) (a : Int) (a1 : Int) (κ : Res → Option α) : evFn Try.prog (spec_l09Where_X n) Try.f180 (((buildDs spec_l09Where_sh [.rows .pt list, .int a, .int a1]).map Prod.fst).getD []) κ = spec_l09Where_run n [.rows .pt list, .int a, .int a1] κ := (spec_l09Where_gen spec_l01Plus spec_l01Det spec_l09Where_l3 n list a a1 κ).trans ((spec_l09Where_eq n list a a1 (fun v1 => κ ⟨[.int .i64 v1], []⟩)).trans ((spec_l09Where_run.eq_1 n [.rows .pt list, .int a, .int a1] κ).trans (spec_l09Where_rn spec_l09Where n list a a1 κ)).symm)
theorem spec_l09Where_en (list : List (Int × Int)) (a : Int) (a1 : Int) : (entry 0 (((buildDs spec_l09Where_sh [.rows .pt list, .int a, .int a1]).map Prod.fst).getD [])).map (fun x => (x.1.length, x.2.lent)) = some (2, []) := by kernel_rfl
theorem spec_l09Where_good {α : Type} : ∀ n, GoodFn (α := α) Try.prog 180 (byShape spec_l09Where_sh (spec_l09Where_run n)) := by
  refine fn_good' Try.func180 (c := (Try.f180.body.getD .skip)) (by kernel_rfl) (by kernel_rfl) (by kernel_rfl) spec_l09Where_C spec_l09Where_M eqs spec_l09Where_lps (fun n => tabC_good (List.forall_mem_cons.2 ⟨(spec_l01Plus_good n), (List.forall_mem_cons.2 ⟨(spec_l01Det_good n), (fun _ h => absurd h List.not_mem_nil)⟩)⟩)) eqs_ok spec_l09Where_Lt ?_ ?_ spec_l09Where_sh spec_l09Where_run ?_
  · refine List.forall_mem_cons.2 ⟨?_, (fun _ h => absurd h List.not_mem_nil)⟩
    · intro p brk ret; show spec_l09Where_u3 0 p brk ret = none; unfold spec_l09Where_u3 spec_l09Where_uG3; split <;> rfl
  · refine List.forall_mem_cons.2 ⟨?_, (fun _ h => absurd h List.not_mem_nil)⟩
    · intro np lent hL n p brk ret st r hb hr
      obtain ⟨rfl, rfl⟩ := hL
      rw [← tpl_of hb]
      change spec_l09Where_u3 (n + 1) p brk ret = some r at hr
      have hr0 := hr
      unfold spec_l09Where_u3 spec_l09Where_uG3 at hr
      split at hr
      · exact (spec_l09Where_l3_ev n _ _ _ _ _ brk ret).trans hr0
      · cases hr
  · intro n p κ r ds hd hr
    have hr0 := hr
    unfold spec_l09Where_run spec_l09Where_runG at hr
    split at hr
    · rw [← ds_of hd]
      exact ⟨en_of (spec_l09Where_en _ _ _) ⟨rfl, rfl⟩, (spec_l09Where_ev n _ _ _ κ).trans hr0⟩
    · cases hr

/-! loop.example/g01297/spec.l09Area -/
def spec_l09Area_sh : List SkD := [.sl 26 .pt]
def spec_l09Area_runG {α : Type} (F : Nat → (List (Int × Int)) → (Int → Option α) → Option α) (n : Nat) (p : List P1) (κ : Res → Option α) : Option α := match p with
  | [.rows .pt list] => F n list (fun v1 => κ ⟨[.int .i64 v1], []⟩)
  | _ => none
def spec_l09Area_run {α : Type} (n : Nat) (p : List P1) (κ : Res → Option α) : Option α := spec_l09Area_runG spec_l09Area n p κ
def spec_l09Area_CG {α : Type} (F0 : Nat → Int → Int → Int → Int → (Int → Option α) → Option α) (n : Nat) : FuncId → List D → (Res → Option α) → Option α := tabC [(260, (byShape spec_l01Det_sh (spec_l01Det_runG F0 n)))]
def spec_l09Area_C {α : Type} (n : Nat) : FuncId → List D → (Res → Option α) → Option α := spec_l09Area_CG spec_l01Det n
def spec_l09Area_M : FuncId → List Nat := tabM []
def spec_l09Area_t3 : Tpl := ⟨[.sl 0, .any, .any, .int .i64, .int .i64, .any, .any, .any, .any, .any, .any, .any, .any, .any, .any, .any, .any, .any, .any, .any, .any, .any, .any, .any, .any, .any, .any], [(0, .rows 0 26 .pt)], []⟩
def spec_l09Area_uG3 {α : Type} (G : Nat → Int → Int → (List (Int × Int)) → (Int → Int → (List (Int × Int)) → Option α) → (Int → Option α) → Option α) (n : Nat) (p : List P1) (brk : Nat → List P1 → Option α) (ret : Res → Option α) : Option α := match p with
  | [.int sum, .int i, .rows .pt list1] => G n sum i list1 (fun sum i list1 => brk 0 [.int sum, .int i, .rows .pt list1]) (fun v1 => ret ⟨[.int .i64 v1], []⟩)
  | _ => none
def spec_l09Area_u3 {α : Type} (n : Nat) (p : List P1) (brk : Nat → List P1 → Option α) (ret : Res → Option α) : Option α := spec_l09Area_uG3 spec_l09Area_l3 n p brk ret
def spec_l09Area_lpsG {α : Type} (G3 : Nat → Int → Int → (List (Int × Int)) → (Int → Int → (List (Int × Int)) → Option α) → (Int → Option α) → Option α) : List (LoopT α) := [⟨3, spec_l09Area_t3, spec_l09Area_uG3 G3⟩]
def spec_l09Area_lps {α : Type} : List (LoopT α) := spec_l09Area_lpsG spec_l09Area_l3
def spec_l09Area_XG {α : Type} (F0 : Nat → Int → Int → Int → Int → (Int → Option α) → Option α) (G3 : Nat → Int → Int → (List (Int × Int)) → (Int → Int → (List (Int × Int)) → Option α) → (Int → Option α) → Option α) (n : Nat) : Ctx α := ⟨spec_l09Area_CG F0 n, spec_l09Area_M, eqs, lpOf (spec_l09Area_lpsG G3) n⟩
def spec_l09Area_X {α : Type} (n : Nat) : Ctx α := spec_l09Area_XG spec_l01Det spec_l09Area_l3 n
def spec_l09Area_Lt (np : Nat) (lent : List (Bool × Nat × Blk)) : Prop := np = 1 ∧ lent = []
def spec_l09Area_lb3 {α : Type} (F0 : Nat → Int → Int → Int → Int → (Int → Option α) → Option α) (G3 : Nat → Int → Int → (List (Int × Int)) → (Int → Int → (List (Int × Int)) → Option α) → (Int → Option α) → Option α) (k : Nat) (sum : Int) (i : Int) (list1 : List (Int × Int)) (b0 : Int → Int → (List (Int × Int)) → Option α) (r0 : Int → Option α) : Option α :=
  bif decide (i < (((List.length list1) : Nat) : Int)) then
    bif (decide (0 ≤ i) && decide (i < (((List.length list1) : Nat) : Int))) then
      (list1[i.toNat]?).bind fun e_ =>
      bif decide ((((List.length list1) : Nat) : Int) = 0) then
        none
      else
      bif (decide (0 ≤ (Int.tmod (w64 (i + 1)) (((List.length list1) : Nat) : Int))) && decide ((Int.tmod (w64 (i + 1)) (((List.length list1) : Nat) : Int)) < (((List.length list1) : Nat) : Int))) then
        (list1[(Int.tmod (w64 (i + 1)) (((List.length list1) : Nat) : Int)).toNat]?).bind fun e_1 =>
        F0 k e_.1 e_.2 e_1.1 e_1.2 fun v =>
        G3 k (w64 (sum + v)) (w64 (i + 1)) list1 b0 r0
      else
        none
    else
      none
  else
    b0 sum i list1
theorem spec_l09Area_l3_gen {α : Type} (F0 : Nat → Int → Int → Int → Int → (Int → Option α) → Option α) (G3 : Nat → Int → Int → (List (Int × Int)) → (Int → Int → (List (Int × Int)) → Option α) → (Int → Option α) → Option α) (n : Nat) (sum : Int) (i : Int) (list1 : List (Int × Int)) (brk : Nat → List P1 → Option α) (ret : Res → Option α) : ev ((spec_l09Area_XG F0 G3 n).env Try.prog Try.f283 1 []) (findLoop (loopsIn (Try.f283.body.getD .skip)) 3) ((spec_l09Area_t3.build [.int sum, .int i, .rows .pt list1]).getD ⟨[], []⟩) (roundK (1 * 64) spec_l09Area_t3 (fun q => spec_l09Area_uG3 G3 n q brk ret) brk ret) = spec_l09Area_lb3 F0 G3 n sum i list1 (fun sum i list1 => brk 0 [.int sum, .int i, .rows .pt list1]) (fun v1 => ret ⟨[.int .i64 v1], []⟩) := by kernel_rfl
theorem spec_l09Area_l3_eq {α : Type} (k : Nat) (sum : Int) (i : Int) (list1 : List (Int × Int)) (b0 : Int → Int → (List (Int × Int)) → Option α) (r0 : Int → Option α) : spec_l09Area_lb3 spec_l01Det spec_l09Area_l3 k sum i list1 b0 r0 = spec_l09Area_l3 (k + 1) sum i list1 b0 r0 := (spec_l09Area_lb3.eq_1 spec_l01Det spec_l09Area_l3 k sum i list1 b0 r0).trans (show spec_l09Area_l3 (k + 1) sum i list1 b0 r0 = _ from spec_l09Area_l3.eq_2 _ _ _ _ _ _ ).symm
theorem spec_l09Area_l3_rn {α : Type} (G : Nat → Int → Int → (List (Int × Int)) → (Int → Int → (List (Int × Int)) → Option α) → (Int → Option α) → Option α) (n : Nat) (sum : Int) (i : Int) (list1 : List (Int × Int)) (brk : Nat → List P1 → Option α) (ret : Res → Option α) : spec_l09Area_uG3 G n [.int sum, .int i, .rows .pt list1] brk ret = G n sum i list1 (fun sum i list1 => brk 0 [.int sum, .int i, .rows .pt list1]) (fun v1 => ret ⟨[.int .i64 v1], []⟩) := rfl
theorem spec_l09Area_l3_ev {α : Type} (n : Nat) (sum : Int) (i : Int) (list1 : List (Int × Int)) (brk : Nat → List P1 → Option α) (ret : Res → Option α) : ev ((spec_l09Area_X n).env Try.prog Try.f283 1 []) (findLoop (loopsIn (Try.f283.body.getD .skip)) 3) ((spec_l09Area_t3.build [.int sum, .int i, .rows .pt list1]).getD ⟨[], []⟩) (roundK (1 * 64) spec_l09Area_t3 (fun q => spec_l09Area_u3 n q brk ret) brk ret) = spec_l09Area_u3 (n + 1) [.int sum, .int i, .rows .pt list1] brk ret := (spec_l09Area_l3_gen spec_l01Det spec_l09Area_l3 n sum i list1 brk ret).trans ((spec_l09Area_l3_eq n sum i list1 (fun sum i list1 => brk 0 [.int sum, .int i, .rows .pt list1]) (fun v1 => ret ⟨[.int .i64 v1], []⟩)).trans ((spec_l09Area_u3.eq_1 (n + 1) [.int sum, .int i, .rows .pt list1] brk ret).trans (spec_l09Area_l3_rn spec_l09Area_l3 (n + 1) sum i list1 brk ret)).symm)
def spec_l09Area_body {α : Type} (F0 : Nat → Int → Int → Int → Int → (Int → Option α) → Option α) (G3 : Nat → Int → Int → (List (Int × Int)) → (Int → Int → (List (Int × Int)) → Option α) → (Int → Option α) → Option α) (k : Nat) (list : List (Int × Int)) (r0 : Int → Option α) : Option α :=
  G3 k 0 0 list
    (fun sum1 i1 list2 =>
      r0 sum1)
    r0
theorem spec_l09Area_gen {α : Type} (F0 : Nat → Int → Int → Int → Int → (Int → Option α) → Option α) (G3 : Nat → Int → Int → (List (Int × Int)) → (Int → Int → (List (Int × Int)) → Option α) → (Int → Option α) → Option α) (n : Nat) (list : List (Int × Int)) (κ : Res → Option α) : evFn Try.prog (spec_l09Area_XG F0 G3 n) Try.f283 (((buildDs spec_l09Area_sh [.rows .pt list]).map Prod.fst).getD []) κ = spec_l09Area_body F0 G3 n list (fun v1 => κ ⟨[.int .i64 v1], []⟩) := by kernel_rfl
theorem spec_l09Area_eq {α : Type} (n : Nat) (list : List (Int × Int)) (r0 : Int → Option α) : spec_l09Area_body spec_l01Det spec_l09Area_l3 n list r0 = spec_l09Area n list r0 := (spec_l09Area_body.eq_1 spec_l01Det spec_l09Area_l3 n list r0).trans (spec_l09Area.eq_1 n list r0).symm
theorem spec_l09Area_rn {α : Type} (F : Nat → (List (Int × Int)) → (Int → Option α) → Option α) (n : Nat) (list : List (Int × Int)) (κ : Res → Option α) : spec_l09Area_runG F n [.rows .pt list] κ = F n list (fun v1 => κ ⟨[.int .i64 v1], []⟩) := rfl
theorem spec_l09Area_ev {α : Type} (n : Nat) (list : List (Int × Int)) (κ : Res → Option α) : evFn Try.prog (spec_l09Area_X n) Try.f283 (((buildDs spec_l09Area_sh [.rows .pt list]).map Prod.fst).getD []) κ = spec_l09Area_run n [.rows .pt list] κ := (spec_l09Area_gen spec_l01Det spec_l09Area_l3 n list κ).trans ((spec_l09Area_eq n list (fun v1 => κ ⟨[.int .i64 v1], []⟩)).trans ((spec_l09Area_run.eq_1 n [.rows .pt list] κ).trans (spec_l09Area_rn spec_l09Area n list κ)).symm)
theorem spec_l09Area_en (list : List (Int × Int)) : (entry 0 (((buildDs spec_l09Area_sh [.rows .pt list]).map Prod.fst).getD [])).map (fun x => (x.1.length, x.2.lent)) = some (1, []) := by kernel_rfl
theorem spec_l09Area_good {α : Type} : ∀ n, GoodFn (α := α) Try.prog 283 (byShape spec_l09Area_sh (spec_l09Area_run n)) := by
  refine fn_good' Try.func283 (c := (Try.f283.body.getD .skip)) (by kernel_rfl) (by kernel_rfl) (by kernel_rfl) spec_l09Area_C spec_l09Area_M eqs spec_l09Area_lps (fun n => tabC_good (List.forall_mem_cons.2 ⟨(spec_l01Det_good n), (fun _ h => absurd h List.not_mem_nil)⟩)) eqs_ok spec_l09Area_Lt ?_ ?_ spec_l09Area_sh spec_l09Area_run ?_
  · refine List.forall_mem_cons.2 ⟨?_, (fun _ h => absurd h List.not_mem_nil)⟩
    · intro p brk ret; show spec_l09Area_u3 0 p brk ret = none; unfold spec_l09Area_u3 spec_l09Area_uG3; split <;> rfl
  · refine List.forall_mem_cons.2 ⟨?_, (fun _ h => absurd h List.not_mem_nil)⟩
    · intro np lent hL n p brk ret st r hb hr
      obtain ⟨rfl, rfl⟩ := hL
      rw [← tpl_of hb]
      change spec_l09Area_u3 (n + 1) p brk ret = some r at hr
      have hr0 := hr
      unfold spec_l09Area_u3 spec_l09Area_uG3 at hr
      split at hr
      · exact (spec_l09Area_l3_ev n _ _ _ brk ret).trans hr0
      · cases hr
  · intro n p κ r ds hd hr
    have hr0 := hr
    unfold spec_l09Area_run spec_l09Area_runG at hr
    split at hr
    · rw [← ds_of hd]
      exact ⟨en_of (spec_l09Area_en _) ⟨rfl, rfl⟩, (spec_l09Area_ev n _ κ).trans hr0⟩
    · cases hr

/-! loop.example/g01297/spec.l01Gcd -/
def spec_l01Gcd_sh : List SkD := [.int .i64, .int .i64]
def spec_l01Gcd_runG {α : Type} (F : Nat → Int → Int → (Int → Option α) → Option α) (n : Nat) (p : List P1) (κ : Res → Option α) : Option α := match p with
  | [.int a, .int b_] => F n a b_ (fun v1 => κ ⟨[.int .i64 v1], []⟩)
  | _ => none
def spec_l01Gcd_run {α : Type} (n : Nat) (p : List P1) (κ : Res → Option α) : Option α := spec_l01Gcd_runG spec_l01Gcd n p κ
def spec_l01Gcd_CG {α : Type}  (n : Nat) : FuncId → List D → (Res → Option α) → Option α := tabC []
def spec_l01Gcd_C {α : Type} (n : Nat) : FuncId → List D → (Res → Option α) → Option α := spec_l01Gcd_CG n
def spec_l01Gcd_M : FuncId → List Nat := tabM []
def spec_l01Gcd_t1 : Tpl := ⟨[.int .i64, .int .i64, .any, .any, .any, .any, .any, .any, .any, .any, .any, .any, .any, .any, .any, .any, .any], [], []⟩
def spec_l01Gcd_uG1 {α : Type} (G : Nat → Int → Int → (Int → Int → Option α) → (Int → Option α) → Option α) (n : Nat) (p : List P1) (brk : Nat → List P1 → Option α) (ret : Res → Option α) : Option α := match p with
  | [.int a1, .int b_1] => G n a1 b_1 (fun a1 b_1 => brk 0 [.int a1, .int b_1]) (fun v1 => ret ⟨[.int .i64 v1], []⟩)
  | _ => none
def spec_l01Gcd_u1 {α : Type} (n : Nat) (p : List P1) (brk : Nat → List P1 → Option α) (ret : Res → Option α) : Option α := spec_l01Gcd_uG1 spec_l01Gcd_l1 n p brk ret
def spec_l01Gcd_lpsG {α : Type} (G1 : Nat → Int → Int → (Int → Int → Option α) → (Int → Option α) → Option α) : List (LoopT α) := [⟨1, spec_l01Gcd_t1, spec_l01Gcd_uG1 G1⟩]
def spec_l01Gcd_lps {α : Type} : List (LoopT α) := spec_l01Gcd_lpsG spec_l01Gcd_l1
def spec_l01Gcd_XG {α : Type}  (G1 : Nat → Int → Int → (Int → Int → Option α) → (Int → Option α) → Option α) (n : Nat) : Ctx α := ⟨spec_l01Gcd_CG n, spec_l01Gcd_M, eqs, lpOf (spec_l01Gcd_lpsG G1) n⟩
def spec_l01Gcd_X {α : Type} (n : Nat) : Ctx α := spec_l01Gcd_XG spec_l01Gcd_l1 n
def spec_l01Gcd_Lt (np : Nat) (lent : List (Bool × Nat × Blk)) : Prop := np = 2 ∧ lent = []
def spec_l01Gcd_lb1 {α : Type}  (G1 : Nat → Int → Int → (Int → Int → Option α) → (Int → Option α) → Option α) (k : Nat) (a1 : Int) (b_1 : Int) (b0 : Int → Int → Option α) (r0 : Int → Option α) : Option α :=
  bif (!decide (b_1 = 0)) then
    bif decide (b_1 = 0) then
      none
    else
      G1 k b_1 (Int.tmod a1 b_1) b0 r0
  else
    b0 a1 b_1
theorem spec_l01Gcd_l1_gen {α : Type}  (G1 : Nat → Int → Int → (Int → Int → Option α) → (Int → Option α) → Option α) (n : Nat) (a1 : Int) (b_1 : Int) (brk : Nat → List P1 → Option α) (ret : Res → Option α) : ev ((spec_l01Gcd_XG G1 n).env Try.prog Try.f240 2 []) (findLoop (loopsIn (Try.f240.body.getD .skip)) 1) ((spec_l01Gcd_t1.build [.int a1, .int b_1]).getD ⟨[], []⟩) (roundK (2 * 64) spec_l01Gcd_t1 (fun q => spec_l01Gcd_uG1 G1 n q brk ret) brk ret) = spec_l01Gcd_lb1 G1 n a1 b_1 (fun a1 b_1 => brk 0 [.int a1, .int b_1]) (fun v1 => ret ⟨[.int .i64 v1], []⟩) := by kernel_rfl
theorem spec_l01Gcd_l1_eq {α : Type} (k : Nat) (a1 : Int) (b_1 : Int) (b0 : Int → Int → Option α) (r0 : Int → Option α) : spec_l01Gcd_lb1 spec_l01Gcd_l1 k a1 b_1 b0 r0 = spec_l01Gcd_l1 (k + 1) a1 b_1 b0 r0 := (spec_l01Gcd_lb1.eq_1 spec_l01Gcd_l1 k a1 b_1 b0 r0).trans (show spec_l01Gcd_l1 (k + 1) a1 b_1 b0 r0 = _ from spec_l01Gcd_l1.eq_2 _ _ _ _ _ ).symm
theorem spec_l01Gcd_l1_rn {α : Type} (G : Nat → Int → Int → (Int → Int → Option α) → (Int → Option α) → Option α) (n : Nat) (a1 : Int) (b_1 : Int) (brk : Nat → List P1 → Option α) (ret : Res → Option α) : spec_l01Gcd_uG1 G n [.int a1, .int b_1] brk ret = G n a1 b_1 (fun a1 b_1 => brk 0 [.int a1, .int b_1]) (fun v1 => ret ⟨[.int .i64 v1], []⟩) := rfl
theorem spec_l01Gcd_l1_ev {α : Type} (n : Nat) (a1 : Int) (b_1 : Int) (brk : Nat → List P1 → Option α) (ret : Res → Option α) : ev ((spec_l01Gcd_X n).env Try.prog Try.f240 2 []) (findLoop (loopsIn (Try.f240.body.getD .skip)) 1) ((spec_l01Gcd_t1.build [.int a1, .int b_1]).getD ⟨[], []⟩) (roundK (2 * 64) spec_l01Gcd_t1 (fun q => spec_l01Gcd_u1 n q brk ret) brk ret) = spec_l01Gcd_u1 (n + 1) [.int a1, .int b_1] brk ret := (spec_l01Gcd_l1_gen spec_l01Gcd_l1 n a1 b_1 brk ret).trans ((spec_l01Gcd_l1_eq n a1 b_1 (fun a1 b_1 => brk 0 [.int a1, .int b_1]) (fun v1 => ret ⟨[.int .i64 v1], []⟩)).trans ((spec_l01Gcd_u1.eq_1 (n + 1) [.int a1, .int b_1] brk ret).trans (spec_l01Gcd_l1_rn spec_l01Gcd_l1 (n + 1) a1 b_1 brk ret)).symm)
def spec_l01Gcd_body {α : Type}  (G1 : Nat → Int → Int → (Int → Int → Option α) → (Int → Option α) → Option α) (k : Nat) (a : Int) (b_ : Int) (r0 : Int → Option α) : Option α :=
  G1 k a b_
    (fun a2 b_2 =>
      r0 (max a2 (w64 (0 - a2))))
    r0
theorem spec_l01Gcd_gen {α : Type}  (G1 : Nat → Int → Int → (Int → Int → Option α) → (Int → Option α) → Option α) (n : Nat) (a : Int) (b_ : Int) (κ : Res → Option α) : evFn Try.prog (spec_l01Gcd_XG G1 n) Try.f240 (((buildDs spec_l01Gcd_sh [.int a, .int b_]).map Prod.fst).getD []) κ = spec_l01Gcd_body G1 n a b_ (fun v1 => κ ⟨[.int .i64 v1], []⟩) := by kernel_rfl
theorem spec_l01Gcd_eq {α : Type} (n : Nat) (a : Int) (b_ : Int) (r0 : Int → Option α) : spec_l01Gcd_body spec_l01Gcd_l1 n a b_ r0 = spec_l01Gcd n a b_ r0 := (spec_l01Gcd_body.eq_1 spec_l01Gcd_l1 n a b_ r0).trans (spec_l01Gcd.eq_1 n a b_ r0).symm
theorem spec_l01Gcd_rn {α : Type} (F : Nat → Int → Int → (Int → Option α) → Option α) (n : Nat) (a : Int) (b_ : Int) (κ : Res → Option α) : spec_l01Gcd_runG F n [.int a, .int b_] κ = F n a b_ (fun v1 => κ ⟨[.int .i64 v1], []⟩) := rfl
theorem spec_l01Gcd_ev {α : Type} (n : Nat) (a : Int) (b_ : Int) (κ : Res → Option α) : evFn Try.prog (spec_l01Gcd_X n) Try.f240 (((buildDs spec_l01Gcd_sh [.int a, .int b_]).map Prod.fst).getD []) κ = spec_l01Gcd_run n [.int a, .int b_] κ := (spec_l01Gcd_gen spec_l01Gcd_l1 n a b_ κ).trans ((spec_l01Gcd_eq n a b_ (fun v1 => κ ⟨[.int .i64 v1], []⟩)).trans ((spec_l01Gcd_run.eq_1 n [.int a, .int b_] κ).trans (spec_l01Gcd_rn spec_l01Gcd n a b_ κ)).symm)
theorem spec_l01Gcd_en (a : Int) (b_ : Int) : (entry 0 (((buildDs spec_l01Gcd_sh [.int a, .int b_]).map Prod.fst).getD [])).map (fun x => (x.1.length, x.2.lent)) = some (2, []) := by kernel_rfl
theorem spec_l01Gcd_good {α : Type} : ∀ n, GoodFn (α := α) Try.prog 240 (byShape spec_l01Gcd_sh (spec_l01Gcd_run n)) := by
  refine fn_good' Try.func240 (c := (Try.f240.body.getD .skip)) (by kernel_rfl) (by kernel_rfl) (by kernel_rfl) spec_l01Gcd_C spec_l01Gcd_M eqs spec_l01Gcd_lps (fun n => tabC_good (fun _ h => absurd h List.not_mem_nil)) eqs_ok spec_l01Gcd_Lt ?_ ?_ spec_l01Gcd_sh spec_l01Gcd_run ?_
  · refine List.forall_mem_cons.2 ⟨?_, (fun _ h => absurd h List.not_mem_nil)⟩
    · intro p brk ret; show spec_l01Gcd_u1 0 p brk ret = none; unfold spec_l01Gcd_u1 spec_l01Gcd_uG1; split <;> rfl
  · refine List.forall_mem_cons.2 ⟨?_, (fun _ h => absurd h List.not_mem_nil)⟩
    · intro np lent hL n p brk ret st r hb hr
      obtain ⟨rfl, rfl⟩ := hL
      rw [← tpl_of hb]
      change spec_l01Gcd_u1 (n + 1) p brk ret = some r at hr
      have hr0 := hr
      unfold spec_l01Gcd_u1 spec_l01Gcd_uG1 at hr
      split at hr
      · exact (spec_l01Gcd_l1_ev n _ _ brk ret).trans hr0
      · cases hr
  · intro n p κ r ds hd hr
    have hr0 := hr
    unfold spec_l01Gcd_run spec_l01Gcd_runG at hr
    split at hr
    · rw [← ds_of hd]
      exact ⟨en_of (spec_l01Gcd_en _ _) ⟨rfl, rfl⟩, (spec_l01Gcd_ev n _ _ κ).trans hr0⟩
    · cases hr

/-! loop.example/g01297/spec.l01Length -/
def spec_l01Length_sh : List SkD := [.agg [.int .i64, .int .i64], .agg [.int .i64, .int .i64]]
def spec_l01Length_runG {α : Type} (F : Nat → Int → Int → Int → Int → (Int → Option α) → Option α) (n : Nat) (p : List P1) (κ : Res → Option α) : Option α := match p with
  | [.int a, .int a1, .int b_, .int b_1] => F n a a1 b_ b_1 (fun v1 => κ ⟨[.int .i64 v1], []⟩)
  | _ => none
def spec_l01Length_run {α : Type} (n : Nat) (p : List P1) (κ : Res → Option α) : Option α := spec_l01Length_runG spec_l01Length n p κ
def spec_l01Length_CG {α : Type} (F0 : Nat → Int → Int → (Int → Option α) → Option α) (n : Nat) : FuncId → List D → (Res → Option α) → Option α := tabC [(240, (byShape spec_l01Gcd_sh (spec_l01Gcd_runG F0 n)))]
def spec_l01Length_C {α : Type} (n : Nat) : FuncId → List D → (Res → Option α) → Option α := spec_l01Length_CG spec_l01Gcd n
def spec_l01Length_M : FuncId → List Nat := tabM []
def spec_l01Length_lpsG {α : Type}  : List (LoopT α) := []
def spec_l01Length_lps {α : Type} : List (LoopT α) := spec_l01Length_lpsG
def spec_l01Length_XG {α : Type} (F0 : Nat → Int → Int → (Int → Option α) → Option α)  (n : Nat) : Ctx α := ⟨spec_l01Length_CG F0 n, spec_l01Length_M, eqs, lpOf (spec_l01Length_lpsG) n⟩
def spec_l01Length_X {α : Type} (n : Nat) : Ctx α := spec_l01Length_XG spec_l01Gcd n
def spec_l01Length_Lt (np : Nat) (lent : List (Bool × Nat × Blk)) : Prop := np = 2 ∧ lent = []
def spec_l01Length_body {α : Type} (F0 : Nat → Int → Int → (Int → Option α) → Option α)  (k : Nat) (a : Int) (a1 : Int) (b_ : Int) (b_1 : Int) (r0 : Int → Option α) : Option α :=
  F0 k (w64 (b_ - a)) (w64 (b_1 - a1)) fun v =>
  r0 v
theorem spec_l01Length_gen {α : Type} (F0 : Nat → Int → Int → (Int → Option α) → Option α)  (n : Nat) (a : Int) (a1 : Int) (b_ : Int) (b_1 : Int) (κ : Res → Option α) : evFn Try.prog (spec_l01Length_XG F0 n) Try.f242 (((buildDs spec_l01Length_sh [.int a, .int a1, .int b_, .int b_1]).map Prod.fst).getD []) κ = spec_l01Length_body F0 n a a1 b_ b_1 (fun v1 => κ ⟨[.int .i64 v1], []⟩) := by kernel_rfl
theorem spec_l01Length_eq {α : Type} (n : Nat) (a : Int) (a1 : Int) (b_ : Int) (b_1 : Int) (r0 : Int → Option α) : spec_l01Length_body spec_l01Gcd n a a1 b_ b_1 r0 = spec_l01Length n a a1 b_ b_1 r0 := (spec_l01Length_body.eq_1 spec_l01Gcd n a a1 b_ b_1 r0).trans (spec_l01Length.eq_1 n a a1 b_ b_1 r0).symm
theorem spec_l01Length_rn {α : Type} (F : Nat → Int → Int → Int → Int → (Int → Option α) → Option α) (n : Nat) (a : Int) (a1 : Int) (b_ : Int) (b_1 : Int) (κ : Res → Option α) : spec_l01Length_runG F n [.int a, .int a1, .int b_, .int b_1] κ = F n a a1 b_ b_1 (fun v1 => κ ⟨[.int .i64 v1], []⟩) := rfl
theorem spec_l01Length_ev {α : Type} (n : Nat) (a : Int) (a1 : Int) (b_ : Int) (b_1 : Int) (κ : Res → Option α) : evFn Try.prog (spec_l01Length_X n) Try.f242 (((buildDs spec_l01Length_sh [.int a, .int a1, .int b_, .int b_1]).map Prod.fst).getD []) κ = spec_l01Length_run n [.int a, .int a1, .int b_, .int b_1] κ := (spec_l01Length_gen spec_l01Gcd n a a1 b_ b_1 κ).trans ((spec_l01Length_eq n a a1 b_ b_1 (fun v1 => κ ⟨[.int .i64 v1], []⟩)).trans ((spec_l01Length_run.eq_1 n [.int a, .int a1, .int b_, .int b_1] κ).trans (spec_l01Length_rn spec_l01Length n a a1 b_ b_1 κ)).symm)
theorem spec_l01Length_en (a : Int) (a1 : Int) (b_ : Int) (b_1 : Int) : (entry 0 (((buildDs spec_l01Length_sh [.int a, .int a1, .int b_, .int b_1]).map Prod.fst).getD [])).map (fun x => (x.1.length, x.2.lent)) = some (2, []) := by kernel_rfl
theorem spec_l01Length_good {α : Type} : ∀ n, GoodFn (α := α) Try.prog 242 (byShape spec_l01Length_sh (spec_l01Length_run n)) := by
  refine fn_good' Try.func242 (c := (Try.f242.body.getD .skip)) (by kernel_rfl) (by kernel_rfl) (by kernel_rfl) spec_l01Length_C spec_l01Length_M eqs spec_l01Length_lps (fun n => tabC_good (List.forall_mem_cons.2 ⟨(spec_l01Gcd_good n), (fun _ h => absurd h List.not_mem_nil)⟩)) eqs_ok spec_l01Length_Lt ?_ ?_ spec_l01Length_sh spec_l01Length_run ?_
  · exact (fun _ h => absurd h List.not_mem_nil)
  · exact (fun _ h => absurd h List.not_mem_nil)
  · intro n p κ r ds hd hr
    have hr0 := hr
    unfold spec_l01Length_run spec_l01Length_runG at hr
    split at hr
    · rw [← ds_of hd]
      exact ⟨en_of (spec_l01Length_en _ _ _ _) ⟨rfl, rfl⟩, (spec_l01Length_ev n _ _ _ _ κ).trans hr0⟩
    · cases hr

/-! loop.example/g01297/spec.l09Border -/
def spec_l09Border_sh : List SkD := [.sl 26 .pt]
def spec_l09Border_runG {α : Type} (F : Nat → (List (Int × Int)) → (Int → Option α) → Option α) (n : Nat) (p : List P1) (κ : Res → Option α) : Option α := match p with
  | [.rows .pt list] => F n list (fun v1 => κ ⟨[.int .i64 v1], []⟩)
  | _ => none
def spec_l09Border_run {α : Type} (n : Nat) (p : List P1) (κ : Res → Option α) : Option α := spec_l09Border_runG spec_l09Border n p κ
def spec_l09Border_CG {α : Type} (F0 : Nat → Int → Int → Int → Int → (Int → Option α) → Option α) (n : Nat) : FuncId → List D → (Res → Option α) → Option α := tabC [(242, (byShape spec_l01Length_sh (spec_l01Length_runG F0 n)))]
def spec_l09Border_C {α : Type} (n : Nat) : FuncId → List D → (Res → Option α) → Option α := spec_l09Border_CG spec_l01Length n
def spec_l09Border_M : FuncId → List Nat := tabM []
def spec_l09Border_t3 : Tpl := ⟨[.sl 0, .any, .any, .int .i64, .int .i64, .any, .any, .any, .any, .any, .any, .any, .any, .any, .any, .any, .any, .any, .any, .any, .any, .any, .any, .any, .any, .any, .any], [(0, .rows 0 26 .pt)], []⟩
def spec_l09Border_uG3 {α : Type} (G : Nat → Int → Int → (List (Int × Int)) → (Int → Int → (List (Int × Int)) → Option α) → (Int → Option α) → Option α) (n : Nat) (p : List P1) (brk : Nat → List P1 → Option α) (ret : Res → Option α) : Option α := match p with
  | [.int sum, .int i, .rows .pt list1] => G n sum i list1 (fun sum i list1 => brk 0 [.int sum, .int i, .rows .pt list1]) (fun v1 => ret ⟨[.int .i64 v1], []⟩)
  | _ => none
def spec_l09Border_u3 {α : Type} (n : Nat) (p : List P1) (brk : Nat → List P1 → Option α) (ret : Res → Option α) : Option α := spec_l09Border_uG3 spec_l09Border_l3 n p brk ret
def spec_l09Border_lpsG {α : Type} (G3 : Nat → Int → Int → (List (Int × Int)) → (Int → Int → (List (Int × Int)) → Option α) → (Int → Option α) → Option α) : List (LoopT α) := [⟨3, spec_l09Border_t3, spec_l09Border_uG3 G3⟩]
def spec_l09Border_lps {α : Type} : List (LoopT α) := spec_l09Border_lpsG spec_l09Border_l3
def spec_l09Border_XG {α : Type} (F0 : Nat → Int → Int → Int → Int → (Int → Option α) → Option α) (G3 : Nat → Int → Int → (List (Int × Int)) → (Int → Int → (List (Int × Int)) → Option α) → (Int → Option α) → Option α) (n : Nat) : Ctx α := ⟨spec_l09Border_CG F0 n, spec_l09Border_M, eqs, lpOf (spec_l09Border_lpsG G3) n⟩
def spec_l09Border_X {α : Type} (n : Nat) : Ctx α := spec_l09Border_XG spec_l01Length spec_l09Border_l3 n
def spec_l09Border_Lt (np : Nat) (lent : List (Bool × Nat × Blk)) : Prop := np = 1 ∧ lent = []
def spec_l09Border_lb3 {α : Type} (F0 : Nat → Int → Int → Int → Int → (Int → Option α) → Option α) (G3 : Nat → Int → Int → (List (Int × Int)) → (Int → Int → (List (Int × Int)) → Option α) → (Int → Option α) → Option α) (k : Nat) (sum : Int) (i : Int) (list1 : List (Int × Int)) (b0 : Int → Int → (List (Int × Int)) → Option α) (r0 : Int → Option α) : Option α :=
  bif decide (i < (((List.length list1) : Nat) : Int)) then
    bif (decide (0 ≤ i) && decide (i < (((List.length list1) : Nat) : Int))) then
      (list1[i.toNat]?).bind fun e_ =>
      bif decide ((((List.length list1) : Nat) : Int) = 0) then
        none
      else
      bif (decide (0 ≤ (Int.tmod (w64 (i + 1)) (((List.length list1) : Nat) : Int))) && decide ((Int.tmod (w64 (i + 1)) (((List.length list1) : Nat) : Int)) < (((List.length list1) : Nat) : Int))) then
        (list1[(Int.tmod (w64 (i + 1)) (((List.length list1) : Nat) : Int)).toNat]?).bind fun e_1 =>
        F0 k e_.1 e_.2 e_1.1 e_1.2 fun v =>
        G3 k (w64 (sum + v)) (w64 (i + 1)) list1 b0 r0
      else
        none
    else
      none
  else
    b0 sum i list1
theorem spec_l09Border_l3_gen {α : Type} (F0 : Nat → Int → Int → Int → Int → (Int → Option α) → Option α) (G3 : Nat → Int → Int → (List (Int × Int)) → (Int → Int → (List (Int × Int)) → Option α) → (Int → Option α) → Option α) (n : Nat) (sum : Int) (i : Int) (list1 : List (Int × Int)) (brk : Nat → List P1 → Option α) (ret : Res → Option α) : ev ((spec_l09Border_XG F0 G3 n).env Try.prog Try.f284 1 []) (findLoop (loopsIn (Try.f284.body.getD .skip)) 3) ((spec_l09Border_t3.build [.int sum, .int i, .rows .pt list1]).getD ⟨[], []⟩) (roundK (1 * 64) spec_l09Border_t3 (fun q => spec_l09Border_uG3 G3 n q brk ret) brk ret) = spec_l09Border_lb3 F0 G3 n sum i list1 (fun sum i list1 => brk 0 [.int sum, .int i, .rows .pt list1]) (fun v1 => ret ⟨[.int .i64 v1], []⟩) := by kernel_rfl
theorem spec_l09Border_l3_eq {α : Type} (k : Nat) (sum : Int) (i : Int) (list1 : List (Int × Int)) (b0 : Int → Int → (List (Int × Int)) → Option α) (r0 : Int → Option α) : spec_l09Border_lb3 spec_l01Length spec_l09Border_l3 k sum i list1 b0 r0 = spec_l09Border_l3 (k + 1) sum i list1 b0 r0 := (spec_l09Border_lb3.eq_1 spec_l01Length spec_l09Border_l3 k sum i list1 b0 r0).trans (show spec_l09Border_l3 (k + 1) sum i list1 b0 r0 = _ from spec_l09Border_l3.eq_2 _ _ _ _ _ _ ).symm
theorem spec_l09Border_l3_rn {α : Type} (G : Nat → Int → Int → (List (Int × Int)) → (Int → Int → (List (Int × Int)) → Option α) → (Int → Option α) → Option α) (n : Nat) (sum : Int) (i : Int) (list1 : List (Int × Int)) (brk : Nat → List P1 → Option α) (ret : Res → Option α) : spec_l09Border_uG3 G n [.int sum, .int i, .rows .pt list1] brk ret = G n sum i list1 (fun sum i list1 => brk 0 [.int sum, .int i, .rows .pt list1]) (fun v1 => ret ⟨[.int .i64 v1], []⟩) := rfl
theorem spec_l09Border_l3_ev {α : Type} (n : Nat) (sum : Int) (i : Int) (list1 : List (Int × Int)) (brk : Nat → List P1 → Option α) (ret : Res → Option α) : ev ((spec_l09Border_X n).env Try.prog Try.f284 1 []) (findLoop (loopsIn (Try.f284.body.getD .skip)) 3) ((spec_l09Border_t3.build [.int sum, .int i, .rows .pt list1]).getD ⟨[], []⟩) (roundK (1 * 64) spec_l09Border_t3 (fun q => spec_l09Border_u3 n q brk ret) brk ret) = spec_l09Border_u3 (n + 1) [.int sum, .int i, .rows .pt list1] brk ret := (spec_l09Border_l3_gen spec_l01Length spec_l09Border_l3 n sum i list1 brk ret).trans ((spec_l09Border_l3_eq n sum i list1 (fun sum i list1 => brk 0 [.int sum, .int i, .rows .pt list1]) (fun v1 => ret ⟨[.int .i64 v1], []⟩)).trans ((spec_l09Border_u3.eq_1 (n + 1) [.int sum, .int i, .rows .pt list1] brk ret).trans (spec_l09Border_l3_rn spec_l09Border_l3 (n + 1) sum i list1 brk ret)).symm)
def spec_l09Border_body {α : Type} (F0 : Nat → Int → Int → Int → Int → (Int → Option α) → Option α) (G3 : Nat → Int → Int → (List (Int × Int)) → (Int → Int → (List (Int × Int)) → Option α) → (Int → Option α) → Option α) (k : Nat) (list : List (Int × Int)) (r0 : Int → Option α) : Option α :=
  G3 k 0 0 list
    (fun sum1 i1 list2 =>
      r0 sum1)
    r0
theorem spec_l09Border_gen {α : Type} (F0 : Nat → Int → Int → Int → Int → (Int → Option α) → Option α) (G3 : Nat → Int → Int → (List (Int × Int)) → (Int → Int → (List (Int × Int)) → Option α) → (Int → Option α) → Option α) (n : Nat) (list : List (Int × Int)) (κ : Res → Option α) : evFn Try.prog (spec_l09Border_XG F0 G3 n) Try.f284 (((buildDs spec_l09Border_sh [.rows .pt list]).map Prod.fst).getD []) κ = spec_l09Border_body F0 G3 n list (fun v1 => κ ⟨[.int .i64 v1], []⟩) := by kernel_rfl
theorem spec_l09Border_eq {α : Type} (n : Nat) (list : List (Int × Int)) (r0 : Int → Option α) : spec_l09Border_body spec_l01Length spec_l09Border_l3 n list r0 = spec_l09Border n list r0 := (spec_l09Border_body.eq_1 spec_l01Length spec_l09Border_l3 n list r0).trans (spec_l09Border.eq_1 n list r0).symm
theorem spec_l09Border_rn {α : Type} (F : Nat → (List (Int × Int)) → (Int → Option α) → Option α) (n : Nat) (list : List (Int × Int)) (κ : Res → Option α) : spec_l09Border_runG F n [.rows .pt list] κ = F n list (fun v1 => κ ⟨[.int .i64 v1], []⟩) := rfl
theorem spec_l09Border_ev {α : Type} (n : Nat) (list : List (Int × Int)) (κ : Res → Option α) : evFn Try.prog (spec_l09Border_X n) Try.f284 (((buildDs spec_l09Border_sh [.rows .pt list]).map Prod.fst).getD []) κ = spec_l09Border_run n [.rows .pt list] κ := (spec_l09Border_gen spec_l01Length spec_l09Border_l3 n list κ).trans ((spec_l09Border_eq n list (fun v1 => κ ⟨[.int .i64 v1], []⟩)).trans ((spec_l09Border_run.eq_1 n [.rows .pt list] κ).trans (spec_l09Border_rn spec_l09Border n list κ)).symm)
theorem spec_l09Border_en (list : List (Int × Int)) : (entry 0 (((buildDs spec_l09Border_sh [.rows .pt list]).map Prod.fst).getD [])).map (fun x => (x.1.length, x.2.lent)) = some (1, []) := by kernel_rfl
theorem spec_l09Border_good {α : Type} : ∀ n, GoodFn (α := α) Try.prog 284 (byShape spec_l09Border_sh (spec_l09Border_run n)) := by
  refine fn_good' Try.func284 (c := (Try.f284.body.getD .skip)) (by kernel_rfl) (by kernel_rfl) (by kernel_rfl) spec_l09Border_C spec_l09Border_M eqs spec_l09Border_lps (fun n => tabC_good (List.forall_mem_cons.2 ⟨(spec_l01Length_good n), (fun _ h => absurd h List.not_mem_nil)⟩)) eqs_ok spec_l09Border_Lt ?_ ?_ spec_l09Border_sh spec_l09Border_run ?_
  · refine List.forall_mem_cons.2 ⟨?_, (fun _ h => absurd h List.not_mem_nil)⟩
    · intro p brk ret; show spec_l09Border_u3 0 p brk ret = none; unfold spec_l09Border_u3 spec_l09Border_uG3; split <;> rfl
  · refine List.forall_mem_cons.2 ⟨?_, (fun _ h => absurd h List.not_mem_nil)⟩
    · intro np lent hL n p brk ret st r hb hr
      obtain ⟨rfl, rfl⟩ := hL
      rw [← tpl_of hb]
      change spec_l09Border_u3 (n + 1) p brk ret = some r at hr
      have hr0 := hr
      unfold spec_l09Border_u3 spec_l09Border_uG3 at hr
      split at hr
      · exact (spec_l09Border_l3_ev n _ _ _ brk ret).trans hr0
      · cases hr
  · intro n p κ r ds hd hr
    have hr0 := hr
    unfold spec_l09Border_run spec_l09Border_runG at hr
    split at hr
    · rw [← ds_of hd]
      exact ⟨en_of (spec_l09Border_en _) ⟨rfl, rfl⟩, (spec_l09Border_ev n _ κ).trans hr0⟩
    · cases hr

/-! loop.example/g01297/spec.l09Inner -/
def spec_l09Inner_sh : List SkD := [.sl 26 .pt]
def spec_l09Inner_runG {α : Type} (F : Nat → (List (Int × Int)) → (Int → Option α) → Option α) (n : Nat) (p : List P1) (κ : Res → Option α) : Option α := match p with
  | [.rows .pt list] => F n list (fun v1 => κ ⟨[.int .i64 v1], []⟩)
  | _ => none
def spec_l09Inner_run {α : Type} (n : Nat) (p : List P1) (κ : Res → Option α) : Option α := spec_l09Inner_runG spec_l09Inner n p κ
def spec_l09Inner_CG {α : Type} (F0 : Nat → (List (Int × Int)) → (Int → Option α) → Option α) (F1 : Nat → (List (Int × Int)) → (Int → Option α) → Option α) (n : Nat) : FuncId → List D → (Res → Option α) → Option α := tabC [(283, (byShape spec_l09Area_sh (spec_l09Area_runG F0 n))), (284, (byShape spec_l09Border_sh (spec_l09Border_runG F1 n)))]
def spec_l09Inner_C {α : Type} (n : Nat) : FuncId → List D → (Res → Option α) → Option α := spec_l09Inner_CG spec_l09Area spec_l09Border n
def spec_l09Inner_M : FuncId → List Nat := tabM []
def spec_l09Inner_lpsG {α : Type}  : List (LoopT α) := []
def spec_l09Inner_lps {α : Type} : List (LoopT α) := spec_l09Inner_lpsG
def spec_l09Inner_XG {α : Type} (F0 : Nat → (List (Int × Int)) → (Int → Option α) → Option α) (F1 : Nat → (List (Int × Int)) → (Int → Option α) → Option α)  (n : Nat) : Ctx α := ⟨spec_l09Inner_CG F0 F1 n, spec_l09Inner_M, eqs, lpOf (spec_l09Inner_lpsG) n⟩
def spec_l09Inner_X {α : Type} (n : Nat) : Ctx α := spec_l09Inner_XG spec_l09Area spec_l09Border n
def spec_l09Inner_Lt (np : Nat) (lent : List (Bool × Nat × Blk)) : Prop := np = 1 ∧ lent = []
def spec_l09Inner_body {α : Type} (F0 : Nat → (List (Int × Int)) → (Int → Option α) → Option α) (F1 : Nat → (List (Int × Int)) → (Int → Option α) → Option α)  (k : Nat) (list : List (Int × Int)) (r0 : Int → Option α) : Option α :=
  F0 k list fun v =>
  F1 k list fun v1 =>
  r0 (w64 (Int.tdiv (w64 ((w64 (v - v1)) + 2)) 2))
theorem spec_l09Inner_gen {α : Type} (F0 : Nat → (List (Int × Int)) → (Int → Option α) → Option α) (F1 : Nat → (List (Int × Int)) → (Int → Option α) → Option α)  (n : Nat) (list : List (Int × Int)) (κ : Res → Option α) : evFn Try.prog (spec_l09Inner_XG F0 F1 n) Try.f181 (((buildDs spec_l09Inner_sh [.rows .pt list]).map Prod.fst).getD []) κ = spec_l09Inner_body F0 F1 n list (fun v1 => κ ⟨[.int .i64 v1], []⟩) := by kernel_rfl
theorem spec_l09Inner_eq {α : Type} (n : Nat) (list : List (Int × Int)) (r0 : Int → Option α) : spec_l09Inner_body spec_l09Area spec_l09Border n list r0 = spec_l09Inner n list r0 := (spec_l09Inner_body.eq_1 spec_l09Area spec_l09Border n list r0).trans (spec_l09Inner.eq_1 n list r0).symm
theorem spec_l09Inner_rn {α : Type} (F : Nat → (List (Int × Int)) → (Int → Option α) → Option α) (n : Nat) (list : List (Int × Int)) (κ : Res → Option α) : spec_l09Inner_runG F n [.rows .pt list] κ = F n list (fun v1 => κ ⟨[.int .i64 v1], []⟩) := rfl
theorem spec_l09Inner_ev {α : Type} (n : Nat) (list : List (Int × Int)) (κ : Res → Option α) : evFn Try.prog (spec_l09Inner_X n) Try.f181 (((buildDs spec_l09Inner_sh [.rows .pt list]).map Prod.fst).getD []) κ = spec_l09Inner_run n [.rows .pt list] κ := (spec_l09Inner_gen spec_l09Area spec_l09Border n list κ).trans ((spec_l09Inner_eq n list (fun v1 => κ ⟨[.int .i64 v1], []⟩)).trans ((spec_l09Inner_run.eq_1 n [.rows .pt list] κ).trans (spec_l09Inner_rn spec_l09Inner n list κ)).symm)
theorem spec_l09Inner_en (list : List (Int × Int)) : (entry 0 (((buildDs spec_l09Inner_sh [.rows .pt list]).map Prod.fst).getD [])).map (fun x => (x.1.length, x.2.lent)) = some (1, []) := by kernel_rfl
theorem spec_l09Inner_good {α : Type} : ∀ n, GoodFn (α := α) Try.prog 181 (byShape spec_l09Inner_sh (spec_l09Inner_run n)) := by
  refine fn_good' Try.func181 (c := (Try.f181.body.getD .skip)) (by kernel_rfl) (by kernel_rfl) (by kernel_rfl) spec_l09Inner_C spec_l09Inner_M eqs spec_l09Inner_lps (fun n => tabC_good (List.forall_mem_cons.2 ⟨(spec_l09Area_good n), (List.forall_mem_cons.2 ⟨(spec_l09Border_good n), (fun _ h => absurd h List.not_mem_nil)⟩)⟩)) eqs_ok spec_l09Inner_Lt ?_ ?_ spec_l09Inner_sh spec_l09Inner_run ?_
  · exact (fun _ h => absurd h List.not_mem_nil)
  · exact (fun _ h => absurd h List.not_mem_nil)
  · intro n p κ r ds hd hr
    have hr0 := hr
    unfold spec_l09Inner_run spec_l09Inner_runG at hr
    split at hr
    · rw [← ds_of hd]
      exact ⟨en_of (spec_l09Inner_en _) ⟨rfl, rfl⟩, (spec_l09Inner_ev n _ κ).trans hr0⟩
    · cases hr

/-! loop.example/g01297/spec.l01Part -/
def spec_l01Part_sh : List SkD := [.agg [.int .i64, .int .i64]]
def spec_l01Part_runG {α : Type} (F : Nat → Int → Int → (Int → Int → Option α) → Option α) (n : Nat) (p : List P1) (κ : Res → Option α) : Option α := match p with
  | [.int a, .int a1] => F n a a1 (fun v1 v2 => κ ⟨[.agg [.int .i64 v1, .int .i64 v2]], []⟩)
  | _ => none
def spec_l01Part_run {α : Type} (n : Nat) (p : List P1) (κ : Res → Option α) : Option α := spec_l01Part_runG spec_l01Part n p κ
def spec_l01Part_CG {α : Type} (F0 : Nat → Int → Int → (Int → Option α) → Option α) (n : Nat) : FuncId → List D → (Res → Option α) → Option α := tabC [(240, (byShape spec_l01Gcd_sh (spec_l01Gcd_runG F0 n)))]
def spec_l01Part_C {α : Type} (n : Nat) : FuncId → List D → (Res → Option α) → Option α := spec_l01Part_CG spec_l01Gcd n
def spec_l01Part_M : FuncId → List Nat := tabM []
def spec_l01Part_lpsG {α : Type}  : List (LoopT α) := []
def spec_l01Part_lps {α : Type} : List (LoopT α) := spec_l01Part_lpsG
def spec_l01Part_XG {α : Type} (F0 : Nat → Int → Int → (Int → Option α) → Option α)  (n : Nat) : Ctx α := ⟨spec_l01Part_CG F0 n, spec_l01Part_M, eqs, lpOf (spec_l01Part_lpsG) n⟩
def spec_l01Part_X {α : Type} (n : Nat) : Ctx α := spec_l01Part_XG spec_l01Gcd n
def spec_l01Part_Lt (np : Nat) (lent : List (Bool × Nat × Blk)) : Prop := np = 1 ∧ lent = []
def spec_l01Part_body {α : Type} (F0 : Nat → Int → Int → (Int → Option α) → Option α)  (k : Nat) (a : Int) (a1 : Int) (r0 : Int → Int → Option α) : Option α :=
  F0 k a a1 fun v =>
  bif decide (v = 0) then
    none
  else
  bif decide (v = 0) then
    none
  else
    r0 (w64 (Int.tdiv a v)) (w64 (Int.tdiv a1 v))
theorem spec_l01Part_gen {α : Type} (F0 : Nat → Int → Int → (Int → Option α) → Option α)  (n : Nat) (a : Int) (a1 : Int) (κ : Res → Option α) : evFn Try.prog (spec_l01Part_XG F0 n) Try.f182 (((buildDs spec_l01Part_sh [.int a, .int a1]).map Prod.fst).getD []) κ = spec_l01Part_body F0 n a a1 (fun v1 v2 => κ ⟨[.agg [.int .i64 v1, .int .i64 v2]], []⟩) := by kernel_rfl
theorem spec_l01Part_eq {α : Type} (n : Nat) (a : Int) (a1 : Int) (r0 : Int → Int → Option α) : spec_l01Part_body spec_l01Gcd n a a1 r0 = spec_l01Part n a a1 r0 := (spec_l01Part_body.eq_1 spec_l01Gcd n a a1 r0).trans (spec_l01Part.eq_1 n a a1 r0).symm
theorem spec_l01Part_rn {α : Type} (F : Nat → Int → Int → (Int → Int → Option α) → Option α) (n : Nat) (a : Int) (a1 : Int) (κ : Res → Option α) : spec_l01Part_runG F n [.int a, .int a1] κ = F n a a1 (fun v1 v2 => κ ⟨[.agg [.int .i64 v1, .int .i64 v2]], []⟩) := rfl
theorem spec_l01Part_ev {α : Type} (n : Nat) (a : Int) (a1 : Int) (κ : Res → Option α) : evFn Try.prog (spec_l01Part_X n) Try.f182 (((buildDs spec_l01Part_sh [.int a, .int a1]).map Prod.fst).getD []) κ = spec_l01Part_run n [.int a, .int a1] κ := (spec_l01Part_gen spec_l01Gcd n a a1 κ).trans ((spec_l01Part_eq n a a1 (fun v1 v2 => κ ⟨[.agg [.int .i64 v1, .int .i64 v2]], []⟩)).trans ((spec_l01Part_run.eq_1 n [.int a, .int a1] κ).trans (spec_l01Part_rn spec_l01Part n a a1 κ)).symm)
theorem spec_l01Part_en (a : Int) (a1 : Int) : (entry 0 (((buildDs spec_l01Part_sh [.int a, .int a1]).map Prod.fst).getD [])).map (fun x => (x.1.length, x.2.lent)) = some (1, []) := by kernel_rfl
theorem spec_l01Part_good {α : Type} : ∀ n, GoodFn (α := α) Try.prog 182 (byShape spec_l01Part_sh (spec_l01Part_run n)) := by
  refine fn_good' Try.func182 (c := (Try.f182.body.getD .skip)) (by kernel_rfl) (by kernel_rfl) (by kernel_rfl) spec_l01Part_C spec_l01Part_M eqs spec_l01Part_lps (fun n => tabC_good (List.forall_mem_cons.2 ⟨(spec_l01Gcd_good n), (fun _ h => absurd h List.not_mem_nil)⟩)) eqs_ok spec_l01Part_Lt ?_ ?_ spec_l01Part_sh spec_l01Part_run ?_
  · exact (fun _ h => absurd h List.not_mem_nil)
  · exact (fun _ h => absurd h List.not_mem_nil)
  · intro n p κ r ds hd hr
    have hr0 := hr
    unfold spec_l01Part_run spec_l01Part_runG at hr
    split at hr
    · rw [← ds_of hd]
      exact ⟨en_of (spec_l01Part_en _ _) ⟨rfl, rfl⟩, (spec_l01Part_ev n _ _ κ).trans hr0⟩
    · cases hr

/-! loop.example/g01297/spec.DualPolygon -/
def spec_DualPolygon_sh : List SkD := [.sl 26 .pt]
def spec_DualPolygon_runG {α : Type} (F : Nat → (List (Int × Int)) → (Int → Option α) → ((List (Int × Int)) → Int → Option α) → Option α) (n : Nat) (p : List P1) (κ : Res → Option α) : Option α := match p with
  | [.rows .pt list] => F n list (fun v1 => κ ⟨[.nilsl, .int .i64 v1], []⟩) (fun v1 v2 => κ ⟨[.sl 26 .pt v1, .int .i64 v2], []⟩)
  | _ => none
def spec_DualPolygon_run {α : Type} (n : Nat) (p : List P1) (κ : Res → Option α) : Option α := spec_DualPolygon_runG spec_DualPolygon n p κ
def spec_DualPolygon_CG {α : Type} (F0 : Nat → (List (Int × Int)) → (Int → Option α) → Option α) (F1 : Nat → (List (Int × Int)) → Int → Int → (Int → Option α) → Option α) (F2 : Nat → (List (Int × Int)) → (Int → Option α) → Option α) (F3 : Nat → Int → Int → Int → Int → Int → (Int → Int → Option α) → Option α) (F4 : Nat → Int → Int → (Int → Int → Option α) → Option α) (n : Nat) : FuncId → List D → (Res → Option α) → Option α := tabC [(175, (byShape spec_l09Code_0M1_sh (spec_l09Code_0M1_runG F0 n))), (180, (byShape spec_l09Where_sh (spec_l09Where_runG F1 n))), (181, (byShape spec_l09Inner_sh (spec_l09Inner_runG F2 n))), (183, (byShape spec_l01Plus_sh (spec_l01Plus_runG F3 n))), (182, (byShape spec_l01Part_sh (spec_l01Part_runG F4 n)))]
def spec_DualPolygon_C {α : Type} (n : Nat) : FuncId → List D → (Res → Option α) → Option α := spec_DualPolygon_CG spec_l09Code_0M1 spec_l09Where spec_l09Inner spec_l01Plus spec_l01Part n
def spec_DualPolygon_M : FuncId → List Nat := tabM []
def spec_DualPolygon_t8 : Tpl := ⟨[.sl 0, .any, .any, .any, .any, .sl 1536, .int .i64, .any, .any, .any, .any, .any, .any, .any, .any, .any, .any, .any, .any, .any, .any, .any, .any, .any, .any, .any, .any, .any, .any, .any, .any, .any, .any, .any, .any, .any, .any, .any, .any, .any, .any, .any, .any, .any, .any, .any, .any, .any, .any, .any, .any, .any, .any, .any, .any, .any], [(0, .rows 0 26 .pt), (1536, .rows 2 26 .pt)], []⟩
def spec_DualPolygon_uG8 {α : Type} (G : Nat → Int → (List (Int × Int)) → (List (Int × Int)) → (Int → (List (Int × Int)) → (List (Int × Int)) → Option α) → (Int → Option α) → ((List (Int × Int)) → Int → Option α) → Option α) (n : Nat) (p : List P1) (brk : Nat → List P1 → Option α) (ret : Res → Option α) : Option α := match p with
  | [.int i, .rows .pt list1, .rows .pt out] => G n i list1 out (fun i list1 out => brk 0 [.int i, .rows .pt list1, .rows .pt out]) (fun v1 => ret ⟨[.nilsl, .int .i64 v1], []⟩) (fun v1 v2 => ret ⟨[.sl 26 .pt v1, .int .i64 v2], []⟩)
  | _ => none
def spec_DualPolygon_u8 {α : Type} (n : Nat) (p : List P1) (brk : Nat → List P1 → Option α) (ret : Res → Option α) : Option α := spec_DualPolygon_uG8 spec_DualPolygon_l8 n p brk ret
def spec_DualPolygon_lpsG {α : Type} (G8 : Nat → Int → (List (Int × Int)) → (List (Int × Int)) → (Int → (List (Int × Int)) → (List (Int × Int)) → Option α) → (Int → Option α) → ((List (Int × Int)) → Int → Option α) → Option α) : List (LoopT α) := [⟨8, spec_DualPolygon_t8, spec_DualPolygon_uG8 G8⟩]
def spec_DualPolygon_lps {α : Type} : List (LoopT α) := spec_DualPolygon_lpsG spec_DualPolygon_l8
def spec_DualPolygon_XG {α : Type} (F0 : Nat → (List (Int × Int)) → (Int → Option α) → Option α) (F1 : Nat → (List (Int × Int)) → Int → Int → (Int → Option α) → Option α) (F2 : Nat → (List (Int × Int)) → (Int → Option α) → Option α) (F3 : Nat → Int → Int → Int → Int → Int → (Int → Int → Option α) → Option α) (F4 : Nat → Int → Int → (Int → Int → Option α) → Option α) (G8 : Nat → Int → (List (Int × Int)) → (List (Int × Int)) → (Int → (List (Int × Int)) → (List (Int × Int)) → Option α) → (Int → Option α) → ((List (Int × Int)) → Int → Option α) → Option α) (n : Nat) : Ctx α := ⟨spec_DualPolygon_CG F0 F1 F2 F3 F4 n, spec_DualPolygon_M, eqs, lpOf (spec_DualPolygon_lpsG G8) n⟩
def spec_DualPolygon_X {α : Type} (n : Nat) : Ctx α := spec_DualPolygon_XG spec_l09Code_0M1 spec_l09Where spec_l09Inner spec_l01Plus spec_l01Part spec_DualPolygon_l8 n
def spec_DualPolygon_Lt (np : Nat) (lent : List (Bool × Nat × Blk)) : Prop := np = 1 ∧ lent = []
def spec_DualPolygon_lb8 {α : Type} (F0 : Nat → (List (Int × Int)) → (Int → Option α) → Option α) (F1 : Nat → (List (Int × Int)) → Int → Int → (Int → Option α) → Option α) (F2 : Nat → (List (Int × Int)) → (Int → Option α) → Option α) (F3 : Nat → Int → Int → Int → Int → Int → (Int → Int → Option α) → Option α) (F4 : Nat → Int → Int → (Int → Int → Option α) → Option α) (G8 : Nat → Int → (List (Int × Int)) → (List (Int × Int)) → (Int → (List (Int × Int)) → (List (Int × Int)) → Option α) → (Int → Option α) → ((List (Int × Int)) → Int → Option α) → Option α) (k : Nat) (i : Int) (list1 : List (Int × Int)) (out : List (Int × Int)) (b0 : Int → (List (Int × Int)) → (List (Int × Int)) → Option α) (r0 : Int → Option α) (r1 : (List (Int × Int)) → Int → Option α) : Option α :=
  bif decide (i < (((List.length list1) : Nat) : Int)) then
    bif (decide (0 ≤ i) && decide (i < (((List.length list1) : Nat) : Int))) then
      (list1[i.toNat]?).bind fun e_ =>
      bif decide ((((List.length list1) : Nat) : Int) = 0) then
        none
      else
      bif (decide (0 ≤ (Int.tmod (w64 (i + 1)) (((List.length list1) : Nat) : Int))) && decide ((Int.tmod (w64 (i + 1)) (((List.length list1) : Nat) : Int)) < (((List.length list1) : Nat) : Int))) then
        (list1[(Int.tmod (w64 (i + 1)) (((List.length list1) : Nat) : Int)).toNat]?).bind fun e_1 =>
        F3 k e_1.1 e_1.2 e_.1 e_.2 (-1) fun v3 v4 =>
        F4 k v3 v4 fun v5 v6 =>
        bif decide (((List.length out) + 1) ≤ big) then
          G8 k (w64 (i + 1)) list1 (out ++ [((w64 (0 - v6)), v5)]) b0 r0 r1
        else
          none
      else
        none
    else
      none
  else
    b0 i list1 out
theorem spec_DualPolygon_l8_gen {α : Type} (F0 : Nat → (List (Int × Int)) → (Int → Option α) → Option α) (F1 : Nat → (List (Int × Int)) → Int → Int → (Int → Option α) → Option α) (F2 : Nat → (List (Int × Int)) → (Int → Option α) → Option α) (F3 : Nat → Int → Int → Int → Int → Int → (Int → Int → Option α) → Option α) (F4 : Nat → Int → Int → (Int → Int → Option α) → Option α) (G8 : Nat → Int → (List (Int × Int)) → (List (Int × Int)) → (Int → (List (Int × Int)) → (List (Int × Int)) → Option α) → (Int → Option α) → ((List (Int × Int)) → Int → Option α) → Option α) (n : Nat) (i : Int) (list1 : List (Int × Int)) (out : List (Int × Int)) (brk : Nat → List P1 → Option α) (ret : Res → Option α) : ev ((spec_DualPolygon_XG F0 F1 F2 F3 F4 G8 n).env Try.prog Try.f49 1 []) (findLoop (loopsIn (Try.f49.body.getD .skip)) 8) ((spec_DualPolygon_t8.build [.int i, .rows .pt list1, .rows .pt out]).getD ⟨[], []⟩) (roundK (1 * 64) spec_DualPolygon_t8 (fun q => spec_DualPolygon_uG8 G8 n q brk ret) brk ret) = spec_DualPolygon_lb8 F0 F1 F2 F3 F4 G8 n i list1 out (fun i list1 out => brk 0 [.int i, .rows .pt list1, .rows .pt out]) (fun v1 => ret ⟨[.nilsl, .int .i64 v1], []⟩) (fun v1 v2 => ret ⟨[.sl 26 .pt v1, .int .i64 v2], []⟩) := by kernel_rfl
theorem spec_DualPolygon_l8_eq {α : Type} (k : Nat) (i : Int) (list1 : List (Int × Int)) (out : List (Int × Int)) (b0 : Int → (List (Int × Int)) → (List (Int × Int)) → Option α) (r0 : Int → Option α) (r1 : (List (Int × Int)) → Int → Option α) : spec_DualPolygon_lb8 spec_l09Code_0M1 spec_l09Where spec_l09Inner spec_l01Plus spec_l01Part spec_DualPolygon_l8 k i list1 out b0 r0 r1 = spec_DualPolygon_l8 (k + 1) i list1 out b0 r0 r1 := (spec_DualPolygon_lb8.eq_1 spec_l09Code_0M1 spec_l09Where spec_l09Inner spec_l01Plus spec_l01Part spec_DualPolygon_l8 k i list1 out b0 r0 r1).trans (show spec_DualPolygon_l8 (k + 1) i list1 out b0 r0 r1 = _ from spec_DualPolygon_l8.eq_2 _ _ _ _ _ _ _ ).symm
theorem spec_DualPolygon_l8_rn {α : Type} (G : Nat → Int → (List (Int × Int)) → (List (Int × Int)) → (Int → (List (Int × Int)) → (List (Int × Int)) → Option α) → (Int → Option α) → ((List (Int × Int)) → Int → Option α) → Option α) (n : Nat) (i : Int) (list1 : List (Int × Int)) (out : List (Int × Int)) (brk : Nat → List P1 → Option α) (ret : Res → Option α) : spec_DualPolygon_uG8 G n [.int i, .rows .pt list1, .rows .pt out] brk ret = G n i list1 out (fun i list1 out => brk 0 [.int i, .rows .pt list1, .rows .pt out]) (fun v1 => ret ⟨[.nilsl, .int .i64 v1], []⟩) (fun v1 v2 => ret ⟨[.sl 26 .pt v1, .int .i64 v2], []⟩) := rfl
theorem spec_DualPolygon_l8_ev {α : Type} (n : Nat) (i : Int) (list1 : List (Int × Int)) (out : List (Int × Int)) (brk : Nat → List P1 → Option α) (ret : Res → Option α) : ev ((spec_DualPolygon_X n).env Try.prog Try.f49 1 []) (findLoop (loopsIn (Try.f49.body.getD .skip)) 8) ((spec_DualPolygon_t8.build [.int i, .rows .pt list1, .rows .pt out]).getD ⟨[], []⟩) (roundK (1 * 64) spec_DualPolygon_t8 (fun q => spec_DualPolygon_u8 n q brk ret) brk ret) = spec_DualPolygon_u8 (n + 1) [.int i, .rows .pt list1, .rows .pt out] brk ret := (spec_DualPolygon_l8_gen spec_l09Code_0M1 spec_l09Where spec_l09Inner spec_l01Plus spec_l01Part spec_DualPolygon_l8 n i list1 out brk ret).trans ((spec_DualPolygon_l8_eq n i list1 out (fun i list1 out => brk 0 [.int i, .rows .pt list1, .rows .pt out]) (fun v1 => ret ⟨[.nilsl, .int .i64 v1], []⟩) (fun v1 v2 => ret ⟨[.sl 26 .pt v1, .int .i64 v2], []⟩)).trans ((spec_DualPolygon_u8.eq_1 (n + 1) [.int i, .rows .pt list1, .rows .pt out] brk ret).trans (spec_DualPolygon_l8_rn spec_DualPolygon_l8 (n + 1) i list1 out brk ret)).symm)
def spec_DualPolygon_body {α : Type} (F0 : Nat → (List (Int × Int)) → (Int → Option α) → Option α) (F1 : Nat → (List (Int × Int)) → Int → Int → (Int → Option α) → Option α) (F2 : Nat → (List (Int × Int)) → (Int → Option α) → Option α) (F3 : Nat → Int → Int → Int → Int → Int → (Int → Int → Option α) → Option α) (F4 : Nat → Int → Int → (Int → Int → Option α) → Option α) (G8 : Nat → Int → (List (Int × Int)) → (List (Int × Int)) → (Int → (List (Int × Int)) → (List (Int × Int)) → Option α) → (Int → Option α) → ((List (Int × Int)) → Int → Option α) → Option α) (k : Nat) (list : List (Int × Int)) (r0 : Int → Option α) (r1 : (List (Int × Int)) → Int → Option α) : Option α :=
  F0 k list fun v =>
  bif (!decide (v = 0)) then
    r0 v
  else
    F1 k list 0 0 fun v1 =>
    bif (!decide (v1 = 1)) then
      r0 5
    else
      F2 k list fun v2 =>
      bif (!decide (v2 = 1)) then
        r0 5
      else
        G8 k 0 list []
          (fun i1 list2 out1 =>
            r1 out1 0)
          r0 r1
theorem spec_DualPolygon_gen {α : Type} (F0 : Nat → (List (Int × Int)) → (Int → Option α) → Option α) (F1 : Nat → (List (Int × Int)) → Int → Int → (Int → Option α) → Option α) (F2 : Nat → (List (Int × Int)) → (Int → Option α) → Option α) (F3 : Nat → Int → Int → Int → Int → Int → (Int → Int → Option α) → Option α) (F4 : Nat → Int → Int → (Int → Int → Option α) → Option α) (G8 : Nat → Int → (List (Int × Int)) → (List (Int × Int)) → (Int → (List (Int × Int)) → (List (Int × Int)) → Option α) → (Int → Option α) → ((List (Int × Int)) → Int → Option α) → Option α) (n : Nat) (list : List (Int × Int)) (κ : Res → Option α) : evFn Try.prog (spec_DualPolygon_XG F0 F1 F2 F3 F4 G8 n) Try.f49 (((buildDs spec_DualPolygon_sh [.rows .pt list]).map Prod.fst).getD []) κ = spec_DualPolygon_body F0 F1 F2 F3 F4 G8 n list (fun v1 => κ ⟨[.nilsl, .int .i64 v1], []⟩) (fun v1 v2 => κ ⟨[.sl 26 .pt v1, .int .i64 v2], []⟩) := by kernel_rfl
theorem spec_DualPolygon_eq {α : Type} (n : Nat) (list : List (Int × Int)) (r0 : Int → Option α) (r1 : (List (Int × Int)) → Int → Option α) : spec_DualPolygon_body spec_l09Code_0M1 spec_l09Where spec_l09Inner spec_l01Plus spec_l01Part spec_DualPolygon_l8 n list r0 r1 = spec_DualPolygon n list r0 r1 := (spec_DualPolygon_body.eq_1 spec_l09Code_0M1 spec_l09Where spec_l09Inner spec_l01Plus spec_l01Part spec_DualPolygon_l8 n list r0 r1).trans (spec_DualPolygon.eq_1 n list r0 r1).symm
theorem spec_DualPolygon_rn {α : Type} (F : Nat → (List (Int × Int)) → (Int → Option α) → ((List (Int × Int)) → Int → Option α) → Option α) (n : Nat) (list : List (Int × Int)) (κ : Res → Option α) : spec_DualPolygon_runG F n [.rows .pt list] κ = F n list (fun v1 => κ ⟨[.nilsl, .int .i64 v1], []⟩) (fun v1 v2 => κ ⟨[.sl 26 .pt v1, .int .i64 v2], []⟩) := rfl
theorem spec_DualPolygon_ev {α : Type} (n : Nat) (list : List (Int × Int)) (κ : Res → Option α) : evFn Try.prog (spec_DualPolygon_X n) Try.f49 (((buildDs spec_DualPolygon_sh [.rows .pt list]).map Prod.fst).getD []) κ = spec_DualPolygon_run n [.rows .pt list] κ := (spec_DualPolygon_gen spec_l09Code_0M1 spec_l09Where spec_l09Inner spec_l01Plus spec_l01Part spec_DualPolygon_l8 n list κ).trans ((spec_DualPolygon_eq n list (fun v1 => κ ⟨[.nilsl, .int .i64 v1], []⟩) (fun v1 v2 => κ ⟨[.sl 26 .pt v1, .int .i64 v2], []⟩)).trans ((spec_DualPolygon_run.eq_1 n [.rows .pt list] κ).trans (spec_DualPolygon_rn spec_DualPolygon n list κ)).symm)
theorem spec_DualPolygon_en (list : List (Int × Int)) : (entry 0 (((buildDs spec_DualPolygon_sh [.rows .pt list]).map Prod.fst).getD [])).map (fun x => (x.1.length, x.2.lent)) = some (1, []) := by kernel_rfl
theorem spec_DualPolygon_good {α : Type} : ∀ n, GoodFn (α := α) Try.prog 49 (byShape spec_DualPolygon_sh (spec_DualPolygon_run n)) := by
  refine fn_good' Try.func49 (c := (Try.f49.body.getD .skip)) (by kernel_rfl) (by kernel_rfl) (by kernel_rfl) spec_DualPolygon_C spec_DualPolygon_M eqs spec_DualPolygon_lps (fun n => tabC_good (List.forall_mem_cons.2 ⟨(spec_l09Code_0M1_good n), (List.forall_mem_cons.2 ⟨(spec_l09Where_good n), (List.forall_mem_cons.2 ⟨(spec_l09Inner_good n), (List.forall_mem_cons.2 ⟨(spec_l01Plus_good n), (List.forall_mem_cons.2 ⟨(spec_l01Part_good n), (fun _ h => absurd h List.not_mem_nil)⟩)⟩)⟩)⟩)⟩)) eqs_ok spec_DualPolygon_Lt ?_ ?_ spec_DualPolygon_sh spec_DualPolygon_run ?_
  · refine List.forall_mem_cons.2 ⟨?_, (fun _ h => absurd h List.not_mem_nil)⟩
    · intro p brk ret; show spec_DualPolygon_u8 0 p brk ret = none; unfold spec_DualPolygon_u8 spec_DualPolygon_uG8; split <;> rfl
  · refine List.forall_mem_cons.2 ⟨?_, (fun _ h => absurd h List.not_mem_nil)⟩
    · intro np lent hL n p brk ret st r hb hr
      obtain ⟨rfl, rfl⟩ := hL
      rw [← tpl_of hb]
      change spec_DualPolygon_u8 (n + 1) p brk ret = some r at hr
      have hr0 := hr
      unfold spec_DualPolygon_u8 spec_DualPolygon_uG8 at hr
      split at hr
      · exact (spec_DualPolygon_l8_ev n _ _ _ brk ret).trans hr0
      · cases hr
  · intro n p κ r ds hd hr
    have hr0 := hr
    unfold spec_DualPolygon_run spec_DualPolygon_runG at hr
    split at hr
    · rw [← ds_of hd]
      exact ⟨en_of (spec_DualPolygon_en _) ⟨rfl, rfl⟩, (spec_DualPolygon_ev n _ κ).trans hr0⟩
    · cases hr

/-! loop.example/g01297/impl.in -/
def impl_in_sh : List SkD := [.int .i64, .int .i64, .int .i64]
def impl_in_runG {α : Type} (F : Nat → Int → Int → Int → (Bool → Option α) → Option α) (n : Nat) (p : List P1) (κ : Res → Option α) : Option α := match p with
  | [.int n_, .int low, .int high] => F n n_ low high (fun v1 => κ ⟨[.bool v1], []⟩)
  | _ => none
def impl_in_run {α : Type} (n : Nat) (p : List P1) (κ : Res → Option α) : Option α := impl_in_runG impl_in n p κ
def impl_in_CG {α : Type}  (n : Nat) : FuncId → List D → (Res → Option α) → Option α := tabC []
def impl_in_C {α : Type} (n : Nat) : FuncId → List D → (Res → Option α) → Option α := impl_in_CG n
def impl_in_M : FuncId → List Nat := tabM []
def impl_in_lpsG {α : Type}  : List (LoopT α) := []
def impl_in_lps {α : Type} : List (LoopT α) := impl_in_lpsG
def impl_in_XG {α : Type}   (n : Nat) : Ctx α := ⟨impl_in_CG n, impl_in_M, eqs, lpOf (impl_in_lpsG) n⟩
def impl_in_X {α : Type} (n : Nat) : Ctx α := impl_in_XG n
def impl_in_Lt (np : Nat) (lent : List (Bool × Nat × Blk)) : Prop := np = 3 ∧ lent = []
def impl_in_body {α : Type}   (k : Nat) (n_ : Int) (low : Int) (high : Int) (r0 : Bool → Option α) : Option α :=
  bif decide (low ≤ n_) then
    r0 (decide (n_ ≤ high))
  else
    r0 false
theorem impl_in_gen {α : Type}   (n : Nat) (n_ : Int) (low : Int) (high : Int) (κ : Res → Option α) : evFn Try.prog (impl_in_XG n) Try.f173 (((buildDs impl_in_sh [.int n_, .int low, .int high]).map Prod.fst).getD []) κ = impl_in_body n n_ low high (fun v1 => κ ⟨[.bool v1], []⟩) := by kernel_rfl
theorem impl_in_eq {α : Type} (n : Nat) (n_ : Int) (low : Int) (high : Int) (r0 : Bool → Option α) : impl_in_body n n_ low high r0 = impl_in n n_ low high r0 := (impl_in_body.eq_1 n n_ low high r0).trans (impl_in.eq_1 n n_ low high r0).symm
theorem impl_in_rn {α : Type} (F : Nat → Int → Int → Int → (Bool → Option α) → Option α) (n : Nat) (n_ : Int) (low : Int) (high : Int) (κ : Res → Option α) : impl_in_runG F n [.int n_, .int low, .int high] κ = F n n_ low high (fun v1 => κ ⟨[.bool v1], []⟩) := rfl
theorem impl_in_ev {α : Type} (n : Nat) (n_ : Int) (low : Int) (high : Int) (κ : Res → Option α) : evFn Try.prog (impl_in_X n) Try.f173 (((buildDs impl_in_sh [.int n_, .int low, .int high]).map Prod.fst).getD []) κ = impl_in_run n [.int n_, .int low, .int high] κ := (impl_in_gen n n_ low high κ).trans ((impl_in_eq n n_ low high (fun v1 => κ ⟨[.bool v1], []⟩)).trans ((impl_in_run.eq_1 n [.int n_, .int low, .int high] κ).trans (impl_in_rn impl_in n n_ low high κ)).symm)
theorem impl_in_en (n_ : Int) (low : Int) (high : Int) : (entry 0 (((buildDs impl_in_sh [.int n_, .int low, .int high]).map Prod.fst).getD [])).map (fun x => (x.1.length, x.2.lent)) = some (3, []) := by kernel_rfl
theorem impl_in_good {α : Type} : ∀ n, GoodFn (α := α) Try.prog 173 (byShape impl_in_sh (impl_in_run n)) := by
  refine fn_good' Try.func173 (c := (Try.f173.body.getD .skip)) (by kernel_rfl) (by kernel_rfl) (by kernel_rfl) impl_in_C impl_in_M eqs impl_in_lps (fun n => tabC_good (fun _ h => absurd h List.not_mem_nil)) eqs_ok impl_in_Lt ?_ ?_ impl_in_sh impl_in_run ?_
  · exact (fun _ h => absurd h List.not_mem_nil)
  · exact (fun _ h => absurd h List.not_mem_nil)
  · intro n p κ r ds hd hr
    have hr0 := hr
    unfold impl_in_run impl_in_runG at hr
    split at hr
    · rw [← ds_of hd]
      exact ⟨en_of (impl_in_en _ _ _) ⟨rfl, rfl⟩, (impl_in_ev n _ _ _ κ).trans hr0⟩
    · cases hr

/-! loop.example/g01297/impl.small -/
def impl_small_sh : List SkD := [.agg [.int .i64, .int .i64]]
def impl_small_runG {α : Type} (F : Nat → Int → Int → (Bool → Option α) → Option α) (n : Nat) (p : List P1) (κ : Res → Option α) : Option α := match p with
  | [.int a, .int a1] => F n a a1 (fun v1 => κ ⟨[.bool v1], []⟩)
  | _ => none
def impl_small_run {α : Type} (n : Nat) (p : List P1) (κ : Res → Option α) : Option α := impl_small_runG impl_small n p κ
def impl_small_CG {α : Type} (F0 : Nat → Int → Int → Int → (Bool → Option α) → Option α) (n : Nat) : FuncId → List D → (Res → Option α) → Option α := tabC [(173, (byShape impl_in_sh (impl_in_runG F0 n)))]
def impl_small_C {α : Type} (n : Nat) : FuncId → List D → (Res → Option α) → Option α := impl_small_CG impl_in n
def impl_small_M : FuncId → List Nat := tabM []
def impl_small_lpsG {α : Type}  : List (LoopT α) := []
def impl_small_lps {α : Type} : List (LoopT α) := impl_small_lpsG
def impl_small_XG {α : Type} (F0 : Nat → Int → Int → Int → (Bool → Option α) → Option α)  (n : Nat) : Ctx α := ⟨impl_small_CG F0 n, impl_small_M, eqs, lpOf (impl_small_lpsG) n⟩
def impl_small_X {α : Type} (n : Nat) : Ctx α := impl_small_XG impl_in n
def impl_small_Lt (np : Nat) (lent : List (Bool × Nat × Blk)) : Prop := np = 1 ∧ lent = []
def impl_small_body {α : Type} (F0 : Nat → Int → Int → Int → (Bool → Option α) → Option α)  (k : Nat) (a : Int) (a1 : Int) (r0 : Bool → Option α) : Option α :=
  F0 k a (-1000) 1000 fun v =>
  bif v then
    F0 k a1 (-1000) 1000 fun v1 =>
    r0 v1
  else
    r0 false
theorem impl_small_gen {α : Type} (F0 : Nat → Int → Int → Int → (Bool → Option α) → Option α)  (n : Nat) (a : Int) (a1 : Int) (κ : Res → Option α) : evFn Try.prog (impl_small_XG F0 n) Try.f204 (((buildDs impl_small_sh [.int a, .int a1]).map Prod.fst).getD []) κ = impl_small_body F0 n a a1 (fun v1 => κ ⟨[.bool v1], []⟩) := by kernel_rfl
theorem impl_small_eq {α : Type} (n : Nat) (a : Int) (a1 : Int) (r0 : Bool → Option α) : impl_small_body impl_in n a a1 r0 = impl_small n a a1 r0 := (impl_small_body.eq_1 impl_in n a a1 r0).trans (impl_small.eq_1 n a a1 r0).symm
theorem impl_small_rn {α : Type} (F : Nat → Int → Int → (Bool → Option α) → Option α) (n : Nat) (a : Int) (a1 : Int) (κ : Res → Option α) : impl_small_runG F n [.int a, .int a1] κ = F n a a1 (fun v1 => κ ⟨[.bool v1], []⟩) := rfl
theorem impl_small_ev {α : Type} (n : Nat) (a : Int) (a1 : Int) (κ : Res → Option α) : evFn Try.prog (impl_small_X n) Try.f204 (((buildDs impl_small_sh [.int a, .int a1]).map Prod.fst).getD []) κ = impl_small_run n [.int a, .int a1] κ := (impl_small_gen impl_in n a a1 κ).trans ((impl_small_eq n a a1 (fun v1 => κ ⟨[.bool v1], []⟩)).trans ((impl_small_run.eq_1 n [.int a, .int a1] κ).trans (impl_small_rn impl_small n a a1 κ)).symm)
theorem impl_small_en (a : Int) (a1 : Int) : (entry 0 (((buildDs impl_small_sh [.int a, .int a1]).map Prod.fst).getD [])).map (fun x => (x.1.length, x.2.lent)) = some (1, []) := by kernel_rfl
theorem impl_small_good {α : Type} : ∀ n, GoodFn (α := α) Try.prog 204 (byShape impl_small_sh (impl_small_run n)) := by
  refine fn_good' Try.func204 (c := (Try.f204.body.getD .skip)) (by kernel_rfl) (by kernel_rfl) (by kernel_rfl) impl_small_C impl_small_M eqs impl_small_lps (fun n => tabC_good (List.forall_mem_cons.2 ⟨(impl_in_good n), (fun _ h => absurd h List.not_mem_nil)⟩)) eqs_ok impl_small_Lt ?_ ?_ impl_small_sh impl_small_run ?_
  · exact (fun _ h => absurd h List.not_mem_nil)
  · exact (fun _ h => absurd h List.not_mem_nil)
  · intro n p κ r ds hd hr
    have hr0 := hr
    unfold impl_small_run impl_small_runG at hr
    split at hr
    · rw [← ds_of hd]
      exact ⟨en_of (impl_small_en _ _) ⟨rfl, rfl⟩, (impl_small_ev n _ _ κ).trans hr0⟩
    · cases hr

/-! loop.example/g01297/impl.IsPolygon$1 -/
def impl_IsPolygon_1_sh : List SkD := [.agg [.int .i64, .int .i64]]
def impl_IsPolygon_1_runG {α : Type} (F : Nat → Int → Int → (Bool → Option α) → Option α) (n : Nat) (p : List P1) (κ : Res → Option α) : Option α := match p with
  | [.int a, .int a1] => F n a a1 (fun v1 => κ ⟨[.bool v1], []⟩)
  | _ => none
def impl_IsPolygon_1_run {α : Type} (n : Nat) (p : List P1) (κ : Res → Option α) : Option α := impl_IsPolygon_1_runG impl_IsPolygon_1 n p κ
def impl_IsPolygon_1_CG {α : Type} (F0 : Nat → Int → Int → (Bool → Option α) → Option α) (n : Nat) : FuncId → List D → (Res → Option α) → Option α := tabC [(204, (byShape impl_small_sh (impl_small_runG F0 n)))]
def impl_IsPolygon_1_C {α : Type} (n : Nat) : FuncId → List D → (Res → Option α) → Option α := impl_IsPolygon_1_CG impl_small n
def impl_IsPolygon_1_M : FuncId → List Nat := tabM []
def impl_IsPolygon_1_lpsG {α : Type}  : List (LoopT α) := []
def impl_IsPolygon_1_lps {α : Type} : List (LoopT α) := impl_IsPolygon_1_lpsG
def impl_IsPolygon_1_XG {α : Type} (F0 : Nat → Int → Int → (Bool → Option α) → Option α)  (n : Nat) : Ctx α := ⟨impl_IsPolygon_1_CG F0 n, impl_IsPolygon_1_M, eqs, lpOf (impl_IsPolygon_1_lpsG) n⟩
def impl_IsPolygon_1_X {α : Type} (n : Nat) : Ctx α := impl_IsPolygon_1_XG impl_small n
def impl_IsPolygon_1_Lt (np : Nat) (lent : List (Bool × Nat × Blk)) : Prop := np = 1 ∧ lent = []
def impl_IsPolygon_1_body {α : Type} (F0 : Nat → Int → Int → (Bool → Option α) → Option α)  (k : Nat) (a : Int) (a1 : Int) (r0 : Bool → Option α) : Option α :=
  F0 k a a1 fun v =>
  r0 (!v)
theorem impl_IsPolygon_1_gen {α : Type} (F0 : Nat → Int → Int → (Bool → Option α) → Option α)  (n : Nat) (a : Int) (a1 : Int) (κ : Res → Option α) : evFn Try.prog (impl_IsPolygon_1_XG F0 n) Try.f277 (((buildDs impl_IsPolygon_1_sh [.int a, .int a1]).map Prod.fst).getD []) κ = impl_IsPolygon_1_body F0 n a a1 (fun v1 => κ ⟨[.bool v1], []⟩) := by kernel_rfl
theorem impl_IsPolygon_1_eq {α : Type} (n : Nat) (a : Int) (a1 : Int) (r0 : Bool → Option α) : impl_IsPolygon_1_body impl_small n a a1 r0 = impl_IsPolygon_1 n a a1 r0 := (impl_IsPolygon_1_body.eq_1 impl_small n a a1 r0).trans (impl_IsPolygon_1.eq_1 n a a1 r0).symm
theorem impl_IsPolygon_1_rn {α : Type} (F : Nat → Int → Int → (Bool → Option α) → Option α) (n : Nat) (a : Int) (a1 : Int) (κ : Res → Option α) : impl_IsPolygon_1_runG F n [.int a, .int a1] κ = F n a a1 (fun v1 => κ ⟨[.bool v1], []⟩) := rfl
theorem impl_IsPolygon_1_ev {α : Type} (n : Nat) (a : Int) (a1 : Int) (κ : Res → Option α) : evFn Try.prog (impl_IsPolygon_1_X n) Try.f277 (((buildDs impl_IsPolygon_1_sh [.int a, .int a1]).map Prod.fst).getD []) κ = impl_IsPolygon_1_run n [.int a, .int a1] κ := (impl_IsPolygon_1_gen impl_small n a a1 κ).trans ((impl_IsPolygon_1_eq n a a1 (fun v1 => κ ⟨[.bool v1], []⟩)).trans ((impl_IsPolygon_1_run.eq_1 n [.int a, .int a1] κ).trans (impl_IsPolygon_1_rn impl_IsPolygon_1 n a a1 κ)).symm)
theorem impl_IsPolygon_1_en (a : Int) (a1 : Int) : (entry 0 (((buildDs impl_IsPolygon_1_sh [.int a, .int a1]).map Prod.fst).getD [])).map (fun x => (x.1.length, x.2.lent)) = some (1, []) := by kernel_rfl
theorem impl_IsPolygon_1_good {α : Type} : ∀ n, GoodFn (α := α) Try.prog 277 (byShape impl_IsPolygon_1_sh (impl_IsPolygon_1_run n)) := by
  refine fn_good' Try.func277 (c := (Try.f277.body.getD .skip)) (by kernel_rfl) (by kernel_rfl) (by kernel_rfl) impl_IsPolygon_1_C impl_IsPolygon_1_M eqs impl_IsPolygon_1_lps (fun n => tabC_good (List.forall_mem_cons.2 ⟨(impl_small_good n), (fun _ h => absurd h List.not_mem_nil)⟩)) eqs_ok impl_IsPolygon_1_Lt ?_ ?_ impl_IsPolygon_1_sh impl_IsPolygon_1_run ?_
  · exact (fun _ h => absurd h List.not_mem_nil)
  · exact (fun _ h => absurd h List.not_mem_nil)
  · intro n p κ r ds hd hr
    have hr0 := hr
    unfold impl_IsPolygon_1_run impl_IsPolygon_1_runG at hr
    split at hr
    · rw [← ds_of hd]
      exact ⟨en_of (impl_IsPolygon_1_en _ _) ⟨rfl, rfl⟩, (impl_IsPolygon_1_ev n _ _ κ).trans hr0⟩
    · cases hr

end Go.Proofs.Ytjekmhinmcniaaa
