/- The program's functions hold to their readings without memory: printed by a program of ours. -/
import Derived.Test.YthgajnmmeibpiaaSeXOrderPolygon
namespace Go.Proofs.Ythgajnmmeibpiaa
open Go Go.Ev Go.Sh Go.Proofs

/-! loop.example/g01297/laws.szPointS -/
def laws_szPointS_sh : List SkD := [.sl 33 .pt, .int .i64]
def laws_szPointS_runG {α : Type} (F : T0 α) (n : Nat) (p : List P1) (κ : Res → Option α) : Option α := match p with
  | [.rows .pt a, .int left] => F n a left (fun v1 => κ ⟨[.int .i64 v1], []⟩)
  | _ => none
def laws_szPointS_run {α : Type} (n : Nat) (p : List P1) (κ : Res → Option α) : Option α := laws_szPointS_runG laws_szPointS n p κ
def laws_szPointS_CG {α : Type}  (n : Nat) : FuncId → List D → (Res → Option α) → Option α := tabC []
def laws_szPointS_C {α : Type} (n : Nat) : FuncId → List D → (Res → Option α) → Option α := laws_szPointS_CG n
def laws_szPointS_M : FuncId → List Nat := tabM []
def laws_szPointS_lpsG {α : Type}  : List (LoopT α) := []
def laws_szPointS_lps {α : Type} : List (LoopT α) := laws_szPointS_lpsG
def laws_szPointS_jt : Nat → Option Tpl := jtOf []
def laws_szPointS_XG {α : Type}   (n : Nat) : Ctx α := ⟨laws_szPointS_CG n, laws_szPointS_M, eqs, lpOf (laws_szPointS_lpsG) n, laws_szPointS_jt⟩
def laws_szPointS_X {α : Type} (n : Nat) : Ctx α := laws_szPointS_XG n
def laws_szPointS_Lt (np : Nat) (lent : List (Bool × Nat × Blk)) : Prop := np = 2 ∧ lent = []
def laws_szPointS_body {α : Type}   (k : Nat) (a : List (Int × Int)) (left : Int) (r0 : Int → Option α) : Option α :=
  bif decide ((w64 (left - (((List.length a) : Nat) : Int))) < 0) then
    r0 (-1)
  else
    r0 (w64 (left - (((List.length a) : Nat) : Int)))
theorem laws_szPointS_gen {α : Type}   (n : Nat) (a : List (Int × Int)) (left : Int) (κ : Res → Option α) : evFn Try.prog (laws_szPointS_XG n) Try.f4 (((buildDs laws_szPointS_sh [.rows .pt a, .int left]).map Prod.fst).getD []) κ = laws_szPointS_body n a left (fun v1 => κ ⟨[.int .i64 v1], []⟩) := by kernel_rfl
theorem laws_szPointS_eq {α : Type} (n : Nat) (a : List (Int × Int)) (left : Int) (r0 : Int → Option α) : laws_szPointS_body (α := α) n a left r0 = laws_szPointS (α := α) n a left r0 := (laws_szPointS_body.eq_1 n a left r0).trans (laws_szPointS.eq_1 n a left r0).symm
theorem laws_szPointS_rn {α : Type} (F : T0 α) (n : Nat) (a : List (Int × Int)) (left : Int) (κ : Res → Option α) : laws_szPointS_runG F n [.rows .pt a, .int left] κ = F n a left (fun v1 => κ ⟨[.int .i64 v1], []⟩) := rfl
theorem laws_szPointS_ev {α : Type} (n : Nat) (a : List (Int × Int)) (left : Int) (κ : Res → Option α) : evFn Try.prog (laws_szPointS_X n) Try.f4 (((buildDs laws_szPointS_sh [.rows .pt a, .int left]).map Prod.fst).getD []) κ = laws_szPointS_run n [.rows .pt a, .int left] κ := (laws_szPointS_gen n a left κ).trans ((laws_szPointS_eq n a left (fun v1 => κ ⟨[.int .i64 v1], []⟩)).trans ((laws_szPointS_run.eq_1 n [.rows .pt a, .int left] κ).trans (laws_szPointS_rn laws_szPointS n a left κ)).symm)
theorem laws_szPointS_en (a : List (Int × Int)) (left : Int) : (entry 0 (((buildDs laws_szPointS_sh [.rows .pt a, .int left]).map Prod.fst).getD [])).map (fun x => (x.1.length, x.2.lent)) = some (2, []) := by kernel_rfl
theorem laws_szPointS_good {α : Type} : ∀ n, GoodFn (α := α) Try.prog 4 (byShape laws_szPointS_sh (laws_szPointS_run n)) := by
  refine fn_good' Try.func4 (c := (Try.f4.body.getD .skip)) (by kernel_rfl) (by kernel_rfl) (by kernel_rfl) laws_szPointS_C laws_szPointS_M eqs laws_szPointS_lps laws_szPointS_jt (fun n => tabC_good (fun _ h => absurd h List.not_mem_nil)) eqs_ok laws_szPointS_Lt ?_ ?_ laws_szPointS_sh laws_szPointS_run ?_
  · exact (fun _ h => absurd h List.not_mem_nil)
  · exact (fun _ h => absurd h List.not_mem_nil)
  · intro n p κ r ds hd hr
    have hr0 := hr
    unfold laws_szPointS_run laws_szPointS_runG at hr
    split at hr
    · rw [← ds_of hd]
      exact ⟨en_of (laws_szPointS_en _ _) ⟨rfl, rfl⟩, (laws_szPointS_ev n _ _ κ).trans hr0⟩
    · cases hr

/-! loop.example/g01297/laws.toPoint -/
def laws_toPoint_sh : List SkD := [.agg [.int .i64, .int .i64]]
def laws_toPoint_runG {α : Type} (F : T1 α) (n : Nat) (p : List P1) (κ : Res → Option α) : Option α := match p with
  | [.int a, .int a1] => F n a a1 (fun v1 v2 => κ ⟨[.agg [.int .i64 v1, .int .i64 v2]], []⟩)
  | _ => none
def laws_toPoint_run {α : Type} (n : Nat) (p : List P1) (κ : Res → Option α) : Option α := laws_toPoint_runG laws_toPoint n p κ
def laws_toPoint_CG {α : Type}  (n : Nat) : FuncId → List D → (Res → Option α) → Option α := tabC []
def laws_toPoint_C {α : Type} (n : Nat) : FuncId → List D → (Res → Option α) → Option α := laws_toPoint_CG n
def laws_toPoint_M : FuncId → List Nat := tabM []
def laws_toPoint_lpsG {α : Type}  : List (LoopT α) := []
def laws_toPoint_lps {α : Type} : List (LoopT α) := laws_toPoint_lpsG
def laws_toPoint_jt : Nat → Option Tpl := jtOf []
def laws_toPoint_XG {α : Type}   (n : Nat) : Ctx α := ⟨laws_toPoint_CG n, laws_toPoint_M, eqs, lpOf (laws_toPoint_lpsG) n, laws_toPoint_jt⟩
def laws_toPoint_X {α : Type} (n : Nat) : Ctx α := laws_toPoint_XG n
def laws_toPoint_Lt (np : Nat) (lent : List (Bool × Nat × Blk)) : Prop := np = 1 ∧ lent = []
def laws_toPoint_body {α : Type}   (k : Nat) (a : Int) (a1 : Int) (r0 : Int → Int → Option α) : Option α :=
  r0 a a1
theorem laws_toPoint_gen {α : Type}   (n : Nat) (a : Int) (a1 : Int) (κ : Res → Option α) : evFn Try.prog (laws_toPoint_XG n) Try.f13 (((buildDs laws_toPoint_sh [.int a, .int a1]).map Prod.fst).getD []) κ = laws_toPoint_body n a a1 (fun v1 v2 => κ ⟨[.agg [.int .i64 v1, .int .i64 v2]], []⟩) := by kernel_rfl
theorem laws_toPoint_eq {α : Type} (n : Nat) (a : Int) (a1 : Int) (r0 : Int → Int → Option α) : laws_toPoint_body (α := α) n a a1 r0 = laws_toPoint (α := α) n a a1 r0 := (laws_toPoint_body.eq_1 n a a1 r0).trans (laws_toPoint.eq_1 n a a1 r0).symm
theorem laws_toPoint_rn {α : Type} (F : T1 α) (n : Nat) (a : Int) (a1 : Int) (κ : Res → Option α) : laws_toPoint_runG F n [.int a, .int a1] κ = F n a a1 (fun v1 v2 => κ ⟨[.agg [.int .i64 v1, .int .i64 v2]], []⟩) := rfl
theorem laws_toPoint_ev {α : Type} (n : Nat) (a : Int) (a1 : Int) (κ : Res → Option α) : evFn Try.prog (laws_toPoint_X n) Try.f13 (((buildDs laws_toPoint_sh [.int a, .int a1]).map Prod.fst).getD []) κ = laws_toPoint_run n [.int a, .int a1] κ := (laws_toPoint_gen n a a1 κ).trans ((laws_toPoint_eq n a a1 (fun v1 v2 => κ ⟨[.agg [.int .i64 v1, .int .i64 v2]], []⟩)).trans ((laws_toPoint_run.eq_1 n [.int a, .int a1] κ).trans (laws_toPoint_rn laws_toPoint n a a1 κ)).symm)
theorem laws_toPoint_en (a : Int) (a1 : Int) : (entry 0 (((buildDs laws_toPoint_sh [.int a, .int a1]).map Prod.fst).getD [])).map (fun x => (x.1.length, x.2.lent)) = some (1, []) := by kernel_rfl
theorem laws_toPoint_good {α : Type} : ∀ n, GoodFn (α := α) Try.prog 13 (byShape laws_toPoint_sh (laws_toPoint_run n)) := by
  refine fn_good' Try.func13 (c := (Try.f13.body.getD .skip)) (by kernel_rfl) (by kernel_rfl) (by kernel_rfl) laws_toPoint_C laws_toPoint_M eqs laws_toPoint_lps laws_toPoint_jt (fun n => tabC_good (fun _ h => absurd h List.not_mem_nil)) eqs_ok laws_toPoint_Lt ?_ ?_ laws_toPoint_sh laws_toPoint_run ?_
  · exact (fun _ h => absurd h List.not_mem_nil)
  · exact (fun _ h => absurd h List.not_mem_nil)
  · intro n p κ r ds hd hr
    have hr0 := hr
    unfold laws_toPoint_run laws_toPoint_runG at hr
    split at hr
    · rw [← ds_of hd]
      exact ⟨en_of (laws_toPoint_en _ _) ⟨rfl, rfl⟩, (laws_toPoint_ev n _ _ κ).trans hr0⟩
    · cases hr

/-! loop.example/g01297/laws.toPointS -/
def laws_toPointS_sh : List SkD := [.sl 33 .pt]
def laws_toPointS_runG {α : Type} (F : T2 α) (n : Nat) (p : List P1) (κ : Res → Option α) : Option α := match p with
  | [.rows .pt a] => F n a (fun v1 => κ ⟨[.sl 34 .pt v1], []⟩)
  | _ => none
def laws_toPointS_run {α : Type} (n : Nat) (p : List P1) (κ : Res → Option α) : Option α := laws_toPointS_runG laws_toPointS n p κ
def laws_toPointS_CG {α : Type} (F0 : T1 α) (n : Nat) : FuncId → List D → (Res → Option α) → Option α := tabC [(13, (byShape laws_toPoint_sh (laws_toPoint_runG F0 n)))]
def laws_toPointS_C {α : Type} (n : Nat) : FuncId → List D → (Res → Option α) → Option α := laws_toPointS_CG laws_toPoint n
def laws_toPointS_M : FuncId → List Nat := tabM []
def laws_toPointS_t3 : Tpl := ⟨[.sl 0, .any, .any, .sl 448, .int .i64, .any, .any, .any, .any, .any, .any, .any, .any, .any, .any, .any, .any, .any, .any, .any, .any, .any, .any], [(0, .rows 0 33 .pt), (448, .rows 2 34 .pt)], []⟩
def laws_toPointS_uG3 {α : Type} (G : Nat → Int → (List (Int × Int)) → (List (Int × Int)) → (Int → (List (Int × Int)) → (List (Int × Int)) → Option α) → ((List (Int × Int)) → Option α) → Option α) (n : Nat) (p : List P1) (brk : Nat → List P1 → Option α) (ret : Res → Option α) : Option α := match p with
  | [.int i, .rows .pt a1, .rows .pt out] => G n i a1 out (fun i a1 out => brk 0 [.int i, .rows .pt a1, .rows .pt out]) (fun v1 => ret ⟨[.sl 34 .pt v1], []⟩)
  | _ => none
def laws_toPointS_u3 {α : Type} (n : Nat) (p : List P1) (brk : Nat → List P1 → Option α) (ret : Res → Option α) : Option α := laws_toPointS_uG3 laws_toPointS_l3 n p brk ret
def laws_toPointS_lpsG {α : Type} (G3 : Nat → Int → (List (Int × Int)) → (List (Int × Int)) → (Int → (List (Int × Int)) → (List (Int × Int)) → Option α) → ((List (Int × Int)) → Option α) → Option α) : List (LoopT α) := [⟨3, laws_toPointS_t3, laws_toPointS_uG3 G3⟩]
def laws_toPointS_lps {α : Type} : List (LoopT α) := laws_toPointS_lpsG laws_toPointS_l3
def laws_toPointS_jt : Nat → Option Tpl := jtOf []
def laws_toPointS_XG {α : Type} (F0 : T1 α) (G3 : Nat → Int → (List (Int × Int)) → (List (Int × Int)) → (Int → (List (Int × Int)) → (List (Int × Int)) → Option α) → ((List (Int × Int)) → Option α) → Option α) (n : Nat) : Ctx α := ⟨laws_toPointS_CG F0 n, laws_toPointS_M, eqs, lpOf (laws_toPointS_lpsG G3) n, laws_toPointS_jt⟩
def laws_toPointS_X {α : Type} (n : Nat) : Ctx α := laws_toPointS_XG laws_toPoint laws_toPointS_l3 n
def laws_toPointS_Lt (np : Nat) (lent : List (Bool × Nat × Blk)) : Prop := np = 1 ∧ lent = []
def laws_toPointS_lb3 {α : Type} (F0 : T1 α) (G3 : Nat → Int → (List (Int × Int)) → (List (Int × Int)) → (Int → (List (Int × Int)) → (List (Int × Int)) → Option α) → ((List (Int × Int)) → Option α) → Option α) (k : Nat) (i : Int) (a1 : List (Int × Int)) (out : List (Int × Int)) (b0 : Int → (List (Int × Int)) → (List (Int × Int)) → Option α) (r0 : (List (Int × Int)) → Option α) : Option α :=
  bif decide (i < (((List.length a1) : Nat) : Int)) then
    bif (decide (0 ≤ i) && decide (i < (((List.length a1) : Nat) : Int))) then
      (a1[i.toNat]?).bind fun e_ =>
      F0 k e_.1 e_.2 fun v v1 =>
      bif (decide (0 ≤ i) && decide (i < (((List.length out) : Nat) : Int))) then
        (out[i.toNat]?).bind fun _ =>
        G3 k (w64 (i + 1)) a1 (List.set out i.toNat (v, v1)) b0 r0
      else
        none
    else
      none
  else
    b0 i a1 out
theorem laws_toPointS_l3_gen {α : Type} (F0 : T1 α) (G3 : Nat → Int → (List (Int × Int)) → (List (Int × Int)) → (Int → (List (Int × Int)) → (List (Int × Int)) → Option α) → ((List (Int × Int)) → Option α) → Option α) (n : Nat) (i : Int) (a1 : List (Int × Int)) (out : List (Int × Int)) (brk : Nat → List P1 → Option α) (ret : Res → Option α) : ev ((laws_toPointS_XG F0 G3 n).env Try.prog Try.f6 1 []) (findLoop (loopsIn (Try.f6.body.getD .skip)) 3) ((laws_toPointS_t3.build [.int i, .rows .pt a1, .rows .pt out]).getD ⟨[], []⟩) (roundK (1 * 64) laws_toPointS_t3 (fun q => laws_toPointS_uG3 G3 n q brk ret) brk ret) = laws_toPointS_lb3 F0 G3 n i a1 out (fun i a1 out => brk 0 [.int i, .rows .pt a1, .rows .pt out]) (fun v1 => ret ⟨[.sl 34 .pt v1], []⟩) := by kernel_rfl
theorem laws_toPointS_l3_eq {α : Type} (k : Nat) (i : Int) (a1 : List (Int × Int)) (out : List (Int × Int)) (b0 : Int → (List (Int × Int)) → (List (Int × Int)) → Option α) (r0 : (List (Int × Int)) → Option α) : laws_toPointS_lb3 laws_toPoint laws_toPointS_l3 k i a1 out b0 r0 = laws_toPointS_l3 (k + 1) i a1 out b0 r0 := (laws_toPointS_lb3.eq_1 laws_toPoint laws_toPointS_l3 k i a1 out b0 r0).trans (show laws_toPointS_l3 (k + 1) i a1 out b0 r0 = _ from laws_toPointS_l3.eq_2 _ _ _ _ _ _ ).symm
theorem laws_toPointS_l3_rn {α : Type} (G : Nat → Int → (List (Int × Int)) → (List (Int × Int)) → (Int → (List (Int × Int)) → (List (Int × Int)) → Option α) → ((List (Int × Int)) → Option α) → Option α) (n : Nat) (i : Int) (a1 : List (Int × Int)) (out : List (Int × Int)) (brk : Nat → List P1 → Option α) (ret : Res → Option α) : laws_toPointS_uG3 G n [.int i, .rows .pt a1, .rows .pt out] brk ret = G n i a1 out (fun i a1 out => brk 0 [.int i, .rows .pt a1, .rows .pt out]) (fun v1 => ret ⟨[.sl 34 .pt v1], []⟩) := rfl
theorem laws_toPointS_l3_ev {α : Type} (n : Nat) (i : Int) (a1 : List (Int × Int)) (out : List (Int × Int)) (brk : Nat → List P1 → Option α) (ret : Res → Option α) : ev ((laws_toPointS_X n).env Try.prog Try.f6 1 []) (findLoop (loopsIn (Try.f6.body.getD .skip)) 3) ((laws_toPointS_t3.build [.int i, .rows .pt a1, .rows .pt out]).getD ⟨[], []⟩) (roundK (1 * 64) laws_toPointS_t3 (fun q => laws_toPointS_u3 n q brk ret) brk ret) = laws_toPointS_u3 (n + 1) [.int i, .rows .pt a1, .rows .pt out] brk ret := (laws_toPointS_l3_gen laws_toPoint laws_toPointS_l3 n i a1 out brk ret).trans ((laws_toPointS_l3_eq n i a1 out (fun i a1 out => brk 0 [.int i, .rows .pt a1, .rows .pt out]) (fun v1 => ret ⟨[.sl 34 .pt v1], []⟩)).trans ((laws_toPointS_u3.eq_1 (n + 1) [.int i, .rows .pt a1, .rows .pt out] brk ret).trans (laws_toPointS_l3_rn laws_toPointS_l3 (n + 1) i a1 out brk ret)).symm)
def laws_toPointS_body {α : Type} (F0 : T1 α) (G3 : Nat → Int → (List (Int × Int)) → (List (Int × Int)) → (Int → (List (Int × Int)) → (List (Int × Int)) → Option α) → ((List (Int × Int)) → Option α) → Option α) (k : Nat) (a : List (Int × Int)) (r0 : (List (Int × Int)) → Option α) : Option α :=
  bif (decide (0 ≤ (((List.length a) : Nat) : Int)) && decide ((((List.length a) : Nat) : Int) ≤ (big : Int))) then
    G3 k 0 a (List.replicate (((List.length a) : Nat) : Int).toNat (0, 0))
      (fun _ _ out1 =>
        r0 out1)
      r0
  else
    none
theorem laws_toPointS_gen {α : Type} (F0 : T1 α) (G3 : Nat → Int → (List (Int × Int)) → (List (Int × Int)) → (Int → (List (Int × Int)) → (List (Int × Int)) → Option α) → ((List (Int × Int)) → Option α) → Option α) (n : Nat) (a : List (Int × Int)) (κ : Res → Option α) : evFn Try.prog (laws_toPointS_XG F0 G3 n) Try.f6 (((buildDs laws_toPointS_sh [.rows .pt a]).map Prod.fst).getD []) κ = laws_toPointS_body F0 G3 n a (fun v1 => κ ⟨[.sl 34 .pt v1], []⟩) := by kernel_rfl
theorem laws_toPointS_eq {α : Type} (n : Nat) (a : List (Int × Int)) (r0 : (List (Int × Int)) → Option α) : laws_toPointS_body (α := α) laws_toPoint laws_toPointS_l3 n a r0 = laws_toPointS (α := α) n a r0 := (laws_toPointS_body.eq_1 laws_toPoint laws_toPointS_l3 n a r0).trans (laws_toPointS.eq_1 n a r0).symm
theorem laws_toPointS_rn {α : Type} (F : T2 α) (n : Nat) (a : List (Int × Int)) (κ : Res → Option α) : laws_toPointS_runG F n [.rows .pt a] κ = F n a (fun v1 => κ ⟨[.sl 34 .pt v1], []⟩) := rfl
theorem laws_toPointS_ev {α : Type} (n : Nat) (a : List (Int × Int)) (κ : Res → Option α) : evFn Try.prog (laws_toPointS_X n) Try.f6 (((buildDs laws_toPointS_sh [.rows .pt a]).map Prod.fst).getD []) κ = laws_toPointS_run n [.rows .pt a] κ := (laws_toPointS_gen laws_toPoint laws_toPointS_l3 n a κ).trans ((laws_toPointS_eq n a (fun v1 => κ ⟨[.sl 34 .pt v1], []⟩)).trans ((laws_toPointS_run.eq_1 n [.rows .pt a] κ).trans (laws_toPointS_rn laws_toPointS n a κ)).symm)
theorem laws_toPointS_en (a : List (Int × Int)) : (entry 0 (((buildDs laws_toPointS_sh [.rows .pt a]).map Prod.fst).getD [])).map (fun x => (x.1.length, x.2.lent)) = some (1, []) := by kernel_rfl
theorem laws_toPointS_good {α : Type} : ∀ n, GoodFn (α := α) Try.prog 6 (byShape laws_toPointS_sh (laws_toPointS_run n)) := by
  refine fn_good' Try.func6 (c := (Try.f6.body.getD .skip)) (by kernel_rfl) (by kernel_rfl) (by kernel_rfl) laws_toPointS_C laws_toPointS_M eqs laws_toPointS_lps laws_toPointS_jt (fun n => tabC_good (List.forall_mem_cons.2 ⟨(laws_toPoint_good n), (fun _ h => absurd h List.not_mem_nil)⟩)) eqs_ok laws_toPointS_Lt ?_ ?_ laws_toPointS_sh laws_toPointS_run ?_
  · refine List.forall_mem_cons.2 ⟨?_, (fun _ h => absurd h List.not_mem_nil)⟩
    · intro p brk ret; show laws_toPointS_u3 0 p brk ret = none; unfold laws_toPointS_u3 laws_toPointS_uG3; split <;> rfl
  · refine List.forall_mem_cons.2 ⟨?_, (fun _ h => absurd h List.not_mem_nil)⟩
    · intro np lent hL n p brk ret st r hb hr
      obtain ⟨rfl, rfl⟩ := hL
      rw [← tpl_of hb]
      change laws_toPointS_u3 (n + 1) p brk ret = some r at hr
      have hr0 := hr
      unfold laws_toPointS_u3 laws_toPointS_uG3 at hr
      split at hr
      · exact (laws_toPointS_l3_ev n _ _ _ brk ret).trans hr0
      · cases hr
  · intro n p κ r ds hd hr
    have hr0 := hr
    unfold laws_toPointS_run laws_toPointS_runG at hr
    split at hr
    · rw [← ds_of hd]
      exact ⟨en_of (laws_toPointS_en _) ⟨rfl, rfl⟩, (laws_toPointS_ev n _ κ).trans hr0⟩
    · cases hr

/-! loop.example/g01297/spec.l01In -/
def spec_l01In_sh : List SkD := [.int .i64, .int .i64, .int .i64]
def spec_l01In_runG {α : Type} (F : T3 α) (n : Nat) (p : List P1) (κ : Res → Option α) : Option α := match p with
  | [.int n_, .int low, .int high] => F n n_ low high (fun v1 => κ ⟨[.bool v1], []⟩)
  | _ => none
def spec_l01In_run {α : Type} (n : Nat) (p : List P1) (κ : Res → Option α) : Option α := spec_l01In_runG spec_l01In n p κ
def spec_l01In_CG {α : Type}  (n : Nat) : FuncId → List D → (Res → Option α) → Option α := tabC []
def spec_l01In_C {α : Type} (n : Nat) : FuncId → List D → (Res → Option α) → Option α := spec_l01In_CG n
def spec_l01In_M : FuncId → List Nat := tabM []
def spec_l01In_lpsG {α : Type}  : List (LoopT α) := []
def spec_l01In_lps {α : Type} : List (LoopT α) := spec_l01In_lpsG
def spec_l01In_jt : Nat → Option Tpl := jtOf []
def spec_l01In_XG {α : Type}   (n : Nat) : Ctx α := ⟨spec_l01In_CG n, spec_l01In_M, eqs, lpOf (spec_l01In_lpsG) n, spec_l01In_jt⟩
def spec_l01In_X {α : Type} (n : Nat) : Ctx α := spec_l01In_XG n
def spec_l01In_Lt (np : Nat) (lent : List (Bool × Nat × Blk)) : Prop := np = 3 ∧ lent = []
def spec_l01In_body {α : Type}   (k : Nat) (n_ : Int) (low : Int) (high : Int) (r0 : Bool → Option α) : Option α :=
  bif decide (low ≤ n_) then
    r0 (decide (n_ ≤ high))
  else
    r0 false
theorem spec_l01In_gen {α : Type}   (n : Nat) (n_ : Int) (low : Int) (high : Int) (κ : Res → Option α) : evFn Try.prog (spec_l01In_XG n) Try.f28 (((buildDs spec_l01In_sh [.int n_, .int low, .int high]).map Prod.fst).getD []) κ = spec_l01In_body n n_ low high (fun v1 => κ ⟨[.bool v1], []⟩) := by kernel_rfl
theorem spec_l01In_eq {α : Type} (n : Nat) (n_ : Int) (low : Int) (high : Int) (r0 : Bool → Option α) : spec_l01In_body (α := α) n n_ low high r0 = spec_l01In (α := α) n n_ low high r0 := (spec_l01In_body.eq_1 n n_ low high r0).trans (spec_l01In.eq_1 n n_ low high r0).symm
theorem spec_l01In_rn {α : Type} (F : T3 α) (n : Nat) (n_ : Int) (low : Int) (high : Int) (κ : Res → Option α) : spec_l01In_runG F n [.int n_, .int low, .int high] κ = F n n_ low high (fun v1 => κ ⟨[.bool v1], []⟩) := rfl
theorem spec_l01In_ev {α : Type} (n : Nat) (n_ : Int) (low : Int) (high : Int) (κ : Res → Option α) : evFn Try.prog (spec_l01In_X n) Try.f28 (((buildDs spec_l01In_sh [.int n_, .int low, .int high]).map Prod.fst).getD []) κ = spec_l01In_run n [.int n_, .int low, .int high] κ := (spec_l01In_gen n n_ low high κ).trans ((spec_l01In_eq n n_ low high (fun v1 => κ ⟨[.bool v1], []⟩)).trans ((spec_l01In_run.eq_1 n [.int n_, .int low, .int high] κ).trans (spec_l01In_rn spec_l01In n n_ low high κ)).symm)
theorem spec_l01In_en (n_ : Int) (low : Int) (high : Int) : (entry 0 (((buildDs spec_l01In_sh [.int n_, .int low, .int high]).map Prod.fst).getD [])).map (fun x => (x.1.length, x.2.lent)) = some (3, []) := by kernel_rfl
theorem spec_l01In_good {α : Type} : ∀ n, GoodFn (α := α) Try.prog 28 (byShape spec_l01In_sh (spec_l01In_run n)) := by
  refine fn_good' Try.func28 (c := (Try.f28.body.getD .skip)) (by kernel_rfl) (by kernel_rfl) (by kernel_rfl) spec_l01In_C spec_l01In_M eqs spec_l01In_lps spec_l01In_jt (fun n => tabC_good (fun _ h => absurd h List.not_mem_nil)) eqs_ok spec_l01In_Lt ?_ ?_ spec_l01In_sh spec_l01In_run ?_
  · exact (fun _ h => absurd h List.not_mem_nil)
  · exact (fun _ h => absurd h List.not_mem_nil)
  · intro n p κ r ds hd hr
    have hr0 := hr
    unfold spec_l01In_run spec_l01In_runG at hr
    split at hr
    · rw [← ds_of hd]
      exact ⟨en_of (spec_l01In_en _ _ _) ⟨rfl, rfl⟩, (spec_l01In_ev n _ _ _ κ).trans hr0⟩
    · cases hr

/-! loop.example/g01297/spec.l01Fits -/
def spec_l01Fits_sh : List SkD := [.int .i64]
def spec_l01Fits_runG {α : Type} (F : T4 α) (n : Nat) (p : List P1) (κ : Res → Option α) : Option α := match p with
  | [.int x] => F n x (fun v1 => κ ⟨[.bool v1], []⟩)
  | _ => none
def spec_l01Fits_run {α : Type} (n : Nat) (p : List P1) (κ : Res → Option α) : Option α := spec_l01Fits_runG spec_l01Fits n p κ
def spec_l01Fits_CG {α : Type} (F0 : T3 α) (n : Nat) : FuncId → List D → (Res → Option α) → Option α := tabC [(28, (byShape spec_l01In_sh (spec_l01In_runG F0 n)))]
def spec_l01Fits_C {α : Type} (n : Nat) : FuncId → List D → (Res → Option α) → Option α := spec_l01Fits_CG spec_l01In n
def spec_l01Fits_M : FuncId → List Nat := tabM []
def spec_l01Fits_lpsG {α : Type}  : List (LoopT α) := []
def spec_l01Fits_lps {α : Type} : List (LoopT α) := spec_l01Fits_lpsG
def spec_l01Fits_jt : Nat → Option Tpl := jtOf []
def spec_l01Fits_XG {α : Type} (F0 : T3 α)  (n : Nat) : Ctx α := ⟨spec_l01Fits_CG F0 n, spec_l01Fits_M, eqs, lpOf (spec_l01Fits_lpsG) n, spec_l01Fits_jt⟩
def spec_l01Fits_X {α : Type} (n : Nat) : Ctx α := spec_l01Fits_XG spec_l01In n
def spec_l01Fits_Lt (np : Nat) (lent : List (Bool × Nat × Blk)) : Prop := np = 1 ∧ lent = []
def spec_l01Fits_body {α : Type} (F0 : T3 α)  (k : Nat) (x : Int) (r0 : Bool → Option α) : Option α :=
  F0 k x (-1000000) 1000000 fun v =>
  r0 v
theorem spec_l01Fits_gen {α : Type} (F0 : T3 α)  (n : Nat) (x : Int) (κ : Res → Option α) : evFn Try.prog (spec_l01Fits_XG F0 n) Try.f39 (((buildDs spec_l01Fits_sh [.int x]).map Prod.fst).getD []) κ = spec_l01Fits_body F0 n x (fun v1 => κ ⟨[.bool v1], []⟩) := by kernel_rfl
theorem spec_l01Fits_eq {α : Type} (n : Nat) (x : Int) (r0 : Bool → Option α) : spec_l01Fits_body (α := α) spec_l01In n x r0 = spec_l01Fits (α := α) n x r0 := (spec_l01Fits_body.eq_1 spec_l01In n x r0).trans (spec_l01Fits.eq_1 n x r0).symm
theorem spec_l01Fits_rn {α : Type} (F : T4 α) (n : Nat) (x : Int) (κ : Res → Option α) : spec_l01Fits_runG F n [.int x] κ = F n x (fun v1 => κ ⟨[.bool v1], []⟩) := rfl
theorem spec_l01Fits_ev {α : Type} (n : Nat) (x : Int) (κ : Res → Option α) : evFn Try.prog (spec_l01Fits_X n) Try.f39 (((buildDs spec_l01Fits_sh [.int x]).map Prod.fst).getD []) κ = spec_l01Fits_run n [.int x] κ := (spec_l01Fits_gen spec_l01In n x κ).trans ((spec_l01Fits_eq n x (fun v1 => κ ⟨[.bool v1], []⟩)).trans ((spec_l01Fits_run.eq_1 n [.int x] κ).trans (spec_l01Fits_rn spec_l01Fits n x κ)).symm)
theorem spec_l01Fits_en (x : Int) : (entry 0 (((buildDs spec_l01Fits_sh [.int x]).map Prod.fst).getD [])).map (fun x => (x.1.length, x.2.lent)) = some (1, []) := by kernel_rfl
theorem spec_l01Fits_good {α : Type} : ∀ n, GoodFn (α := α) Try.prog 39 (byShape spec_l01Fits_sh (spec_l01Fits_run n)) := by
  refine fn_good' Try.func39 (c := (Try.f39.body.getD .skip)) (by kernel_rfl) (by kernel_rfl) (by kernel_rfl) spec_l01Fits_C spec_l01Fits_M eqs spec_l01Fits_lps spec_l01Fits_jt (fun n => tabC_good (List.forall_mem_cons.2 ⟨(spec_l01In_good n), (fun _ h => absurd h List.not_mem_nil)⟩)) eqs_ok spec_l01Fits_Lt ?_ ?_ spec_l01Fits_sh spec_l01Fits_run ?_
  · exact (fun _ h => absurd h List.not_mem_nil)
  · exact (fun _ h => absurd h List.not_mem_nil)
  · intro n p κ r ds hd hr
    have hr0 := hr
    unfold spec_l01Fits_run spec_l01Fits_runG at hr
    split at hr
    · rw [← ds_of hd]
      exact ⟨en_of (spec_l01Fits_en _) ⟨rfl, rfl⟩, (spec_l01Fits_ev n _ κ).trans hr0⟩
    · cases hr

/-! loop.example/g01297/spec.l01Is -/
def spec_l01Is_sh : List SkD := [.agg [.int .i64, .int .i64]]
def spec_l01Is_runG {α : Type} (F : T5 α) (n : Nat) (p : List P1) (κ : Res → Option α) : Option α := match p with
  | [.int a, .int a1] => F n a a1 (fun v1 => κ ⟨[.bool v1], []⟩)
  | _ => none
def spec_l01Is_run {α : Type} (n : Nat) (p : List P1) (κ : Res → Option α) : Option α := spec_l01Is_runG spec_l01Is n p κ
def spec_l01Is_CG {α : Type} (F0 : T4 α) (n : Nat) : FuncId → List D → (Res → Option α) → Option α := tabC [(39, (byShape spec_l01Fits_sh (spec_l01Fits_runG F0 n)))]
def spec_l01Is_C {α : Type} (n : Nat) : FuncId → List D → (Res → Option α) → Option α := spec_l01Is_CG spec_l01Fits n
def spec_l01Is_M : FuncId → List Nat := tabM []
def spec_l01Is_lpsG {α : Type}  : List (LoopT α) := []
def spec_l01Is_lps {α : Type} : List (LoopT α) := spec_l01Is_lpsG
def spec_l01Is_jt : Nat → Option Tpl := jtOf []
def spec_l01Is_XG {α : Type} (F0 : T4 α)  (n : Nat) : Ctx α := ⟨spec_l01Is_CG F0 n, spec_l01Is_M, eqs, lpOf (spec_l01Is_lpsG) n, spec_l01Is_jt⟩
def spec_l01Is_X {α : Type} (n : Nat) : Ctx α := spec_l01Is_XG spec_l01Fits n
def spec_l01Is_Lt (np : Nat) (lent : List (Bool × Nat × Blk)) : Prop := np = 1 ∧ lent = []
def spec_l01Is_body {α : Type} (F0 : T4 α)  (k : Nat) (a : Int) (a1 : Int) (r0 : Bool → Option α) : Option α :=
  F0 k a fun v =>
  bif v then
    F0 k a1 fun v1 =>
    r0 v1
  else
    r0 false
theorem spec_l01Is_gen {α : Type} (F0 : T4 α)  (n : Nat) (a : Int) (a1 : Int) (κ : Res → Option α) : evFn Try.prog (spec_l01Is_XG F0 n) Try.f29 (((buildDs spec_l01Is_sh [.int a, .int a1]).map Prod.fst).getD []) κ = spec_l01Is_body F0 n a a1 (fun v1 => κ ⟨[.bool v1], []⟩) := by kernel_rfl
theorem spec_l01Is_eq {α : Type} (n : Nat) (a : Int) (a1 : Int) (r0 : Bool → Option α) : spec_l01Is_body (α := α) spec_l01Fits n a a1 r0 = spec_l01Is (α := α) n a a1 r0 := (spec_l01Is_body.eq_1 spec_l01Fits n a a1 r0).trans (spec_l01Is.eq_1 n a a1 r0).symm
theorem spec_l01Is_rn {α : Type} (F : T5 α) (n : Nat) (a : Int) (a1 : Int) (κ : Res → Option α) : spec_l01Is_runG F n [.int a, .int a1] κ = F n a a1 (fun v1 => κ ⟨[.bool v1], []⟩) := rfl
theorem spec_l01Is_ev {α : Type} (n : Nat) (a : Int) (a1 : Int) (κ : Res → Option α) : evFn Try.prog (spec_l01Is_X n) Try.f29 (((buildDs spec_l01Is_sh [.int a, .int a1]).map Prod.fst).getD []) κ = spec_l01Is_run n [.int a, .int a1] κ := (spec_l01Is_gen spec_l01Fits n a a1 κ).trans ((spec_l01Is_eq n a a1 (fun v1 => κ ⟨[.bool v1], []⟩)).trans ((spec_l01Is_run.eq_1 n [.int a, .int a1] κ).trans (spec_l01Is_rn spec_l01Is n a a1 κ)).symm)
theorem spec_l01Is_en (a : Int) (a1 : Int) : (entry 0 (((buildDs spec_l01Is_sh [.int a, .int a1]).map Prod.fst).getD [])).map (fun x => (x.1.length, x.2.lent)) = some (1, []) := by kernel_rfl
theorem spec_l01Is_good {α : Type} : ∀ n, GoodFn (α := α) Try.prog 29 (byShape spec_l01Is_sh (spec_l01Is_run n)) := by
  refine fn_good' Try.func29 (c := (Try.f29.body.getD .skip)) (by kernel_rfl) (by kernel_rfl) (by kernel_rfl) spec_l01Is_C spec_l01Is_M eqs spec_l01Is_lps spec_l01Is_jt (fun n => tabC_good (List.forall_mem_cons.2 ⟨(spec_l01Fits_good n), (fun _ h => absurd h List.not_mem_nil)⟩)) eqs_ok spec_l01Is_Lt ?_ ?_ spec_l01Is_sh spec_l01Is_run ?_
  · exact (fun _ h => absurd h List.not_mem_nil)
  · exact (fun _ h => absurd h List.not_mem_nil)
  · intro n p κ r ds hd hr
    have hr0 := hr
    unfold spec_l01Is_run spec_l01Is_runG at hr
    split at hr
    · rw [← ds_of hd]
      exact ⟨en_of (spec_l01Is_en _ _) ⟨rfl, rfl⟩, (spec_l01Is_ev n _ _ κ).trans hr0⟩
    · cases hr

/-! loop.example/g01297/spec.l01Plus -/
def spec_l01Plus_sh : List SkD := [.agg [.int .i64, .int .i64], .agg [.int .i64, .int .i64], .int .i64]
def spec_l01Plus_runG {α : Type} (F : T6 α) (n : Nat) (p : List P1) (κ : Res → Option α) : Option α := match p with
  | [.int a, .int a1, .int b_, .int b_1, .int k_] => F n a a1 b_ b_1 k_ (fun v1 v2 => κ ⟨[.agg [.int .i64 v1, .int .i64 v2]], []⟩)
  | _ => none
def spec_l01Plus_run {α : Type} (n : Nat) (p : List P1) (κ : Res → Option α) : Option α := spec_l01Plus_runG spec_l01Plus n p κ
def spec_l01Plus_CG {α : Type}  (n : Nat) : FuncId → List D → (Res → Option α) → Option α := tabC []
def spec_l01Plus_C {α : Type} (n : Nat) : FuncId → List D → (Res → Option α) → Option α := spec_l01Plus_CG n
def spec_l01Plus_M : FuncId → List Nat := tabM []
def spec_l01Plus_lpsG {α : Type}  : List (LoopT α) := []
def spec_l01Plus_lps {α : Type} : List (LoopT α) := spec_l01Plus_lpsG
def spec_l01Plus_jt : Nat → Option Tpl := jtOf []
def spec_l01Plus_XG {α : Type}   (n : Nat) : Ctx α := ⟨spec_l01Plus_CG n, spec_l01Plus_M, eqs, lpOf (spec_l01Plus_lpsG) n, spec_l01Plus_jt⟩
def spec_l01Plus_X {α : Type} (n : Nat) : Ctx α := spec_l01Plus_XG n
def spec_l01Plus_Lt (np : Nat) (lent : List (Bool × Nat × Blk)) : Prop := np = 3 ∧ lent = []
def spec_l01Plus_body {α : Type}   (k : Nat) (a : Int) (a1 : Int) (b_ : Int) (b_1 : Int) (k_ : Int) (r0 : Int → Int → Option α) : Option α :=
  r0 (w64 (a + (w64 (k_ * b_)))) (w64 (a1 + (w64 (k_ * b_1))))
theorem spec_l01Plus_gen {α : Type}   (n : Nat) (a : Int) (a1 : Int) (b_ : Int) (b_1 : Int) (k_ : Int) (κ : Res → Option α) : evFn Try.prog (spec_l01Plus_XG n) Try.f32 (((buildDs spec_l01Plus_sh [.int a, .int a1, .int b_, .int b_1, .int k_]).map Prod.fst).getD []) κ = spec_l01Plus_body n a a1 b_ b_1 k_ (fun v1 v2 => κ ⟨[.agg [.int .i64 v1, .int .i64 v2]], []⟩) := by kernel_rfl
theorem spec_l01Plus_eq {α : Type} (n : Nat) (a : Int) (a1 : Int) (b_ : Int) (b_1 : Int) (k_ : Int) (r0 : Int → Int → Option α) : spec_l01Plus_body (α := α) n a a1 b_ b_1 k_ r0 = spec_l01Plus (α := α) n a a1 b_ b_1 k_ r0 := (spec_l01Plus_body.eq_1 n a a1 b_ b_1 k_ r0).trans (spec_l01Plus.eq_1 n a a1 b_ b_1 k_ r0).symm
theorem spec_l01Plus_rn {α : Type} (F : T6 α) (n : Nat) (a : Int) (a1 : Int) (b_ : Int) (b_1 : Int) (k_ : Int) (κ : Res → Option α) : spec_l01Plus_runG F n [.int a, .int a1, .int b_, .int b_1, .int k_] κ = F n a a1 b_ b_1 k_ (fun v1 v2 => κ ⟨[.agg [.int .i64 v1, .int .i64 v2]], []⟩) := rfl
theorem spec_l01Plus_ev {α : Type} (n : Nat) (a : Int) (a1 : Int) (b_ : Int) (b_1 : Int) (k_ : Int) (κ : Res → Option α) : evFn Try.prog (spec_l01Plus_X n) Try.f32 (((buildDs spec_l01Plus_sh [.int a, .int a1, .int b_, .int b_1, .int k_]).map Prod.fst).getD []) κ = spec_l01Plus_run n [.int a, .int a1, .int b_, .int b_1, .int k_] κ := (spec_l01Plus_gen n a a1 b_ b_1 k_ κ).trans ((spec_l01Plus_eq n a a1 b_ b_1 k_ (fun v1 v2 => κ ⟨[.agg [.int .i64 v1, .int .i64 v2]], []⟩)).trans ((spec_l01Plus_run.eq_1 n [.int a, .int a1, .int b_, .int b_1, .int k_] κ).trans (spec_l01Plus_rn spec_l01Plus n a a1 b_ b_1 k_ κ)).symm)
theorem spec_l01Plus_en (a : Int) (a1 : Int) (b_ : Int) (b_1 : Int) (k_ : Int) : (entry 0 (((buildDs spec_l01Plus_sh [.int a, .int a1, .int b_, .int b_1, .int k_]).map Prod.fst).getD [])).map (fun x => (x.1.length, x.2.lent)) = some (3, []) := by kernel_rfl
theorem spec_l01Plus_good {α : Type} : ∀ n, GoodFn (α := α) Try.prog 32 (byShape spec_l01Plus_sh (spec_l01Plus_run n)) := by
  refine fn_good' Try.func32 (c := (Try.f32.body.getD .skip)) (by kernel_rfl) (by kernel_rfl) (by kernel_rfl) spec_l01Plus_C spec_l01Plus_M eqs spec_l01Plus_lps spec_l01Plus_jt (fun n => tabC_good (fun _ h => absurd h List.not_mem_nil)) eqs_ok spec_l01Plus_Lt ?_ ?_ spec_l01Plus_sh spec_l01Plus_run ?_
  · exact (fun _ h => absurd h List.not_mem_nil)
  · exact (fun _ h => absurd h List.not_mem_nil)
  · intro n p κ r ds hd hr
    have hr0 := hr
    unfold spec_l01Plus_run spec_l01Plus_runG at hr
    split at hr
    · rw [← ds_of hd]
      exact ⟨en_of (spec_l01Plus_en _ _ _ _ _) ⟨rfl, rfl⟩, (spec_l01Plus_ev n _ _ _ _ _ κ).trans hr0⟩
    · cases hr

/-! loop.example/g01297/spec.l01Det -/
def spec_l01Det_sh : List SkD := [.agg [.int .i64, .int .i64], .agg [.int .i64, .int .i64]]
def spec_l01Det_runG {α : Type} (F : T7 α) (n : Nat) (p : List P1) (κ : Res → Option α) : Option α := match p with
  | [.int a, .int a1, .int b_, .int b_1] => F n a a1 b_ b_1 (fun v1 => κ ⟨[.int .i64 v1], []⟩)
  | _ => none
def spec_l01Det_run {α : Type} (n : Nat) (p : List P1) (κ : Res → Option α) : Option α := spec_l01Det_runG spec_l01Det n p κ
def spec_l01Det_CG {α : Type}  (n : Nat) : FuncId → List D → (Res → Option α) → Option α := tabC []
def spec_l01Det_C {α : Type} (n : Nat) : FuncId → List D → (Res → Option α) → Option α := spec_l01Det_CG n
def spec_l01Det_M : FuncId → List Nat := tabM []
def spec_l01Det_lpsG {α : Type}  : List (LoopT α) := []
def spec_l01Det_lps {α : Type} : List (LoopT α) := spec_l01Det_lpsG
def spec_l01Det_jt : Nat → Option Tpl := jtOf []
def spec_l01Det_XG {α : Type}   (n : Nat) : Ctx α := ⟨spec_l01Det_CG n, spec_l01Det_M, eqs, lpOf (spec_l01Det_lpsG) n, spec_l01Det_jt⟩
def spec_l01Det_X {α : Type} (n : Nat) : Ctx α := spec_l01Det_XG n
def spec_l01Det_Lt (np : Nat) (lent : List (Bool × Nat × Blk)) : Prop := np = 2 ∧ lent = []
def spec_l01Det_body {α : Type}   (k : Nat) (a : Int) (a1 : Int) (b_ : Int) (b_1 : Int) (r0 : Int → Option α) : Option α :=
  r0 (w64 ((w64 (a * b_1)) - (w64 (a1 * b_))))
theorem spec_l01Det_gen {α : Type}   (n : Nat) (a : Int) (a1 : Int) (b_ : Int) (b_1 : Int) (κ : Res → Option α) : evFn Try.prog (spec_l01Det_XG n) Try.f40 (((buildDs spec_l01Det_sh [.int a, .int a1, .int b_, .int b_1]).map Prod.fst).getD []) κ = spec_l01Det_body n a a1 b_ b_1 (fun v1 => κ ⟨[.int .i64 v1], []⟩) := by kernel_rfl
theorem spec_l01Det_eq {α : Type} (n : Nat) (a : Int) (a1 : Int) (b_ : Int) (b_1 : Int) (r0 : Int → Option α) : spec_l01Det_body (α := α) n a a1 b_ b_1 r0 = spec_l01Det (α := α) n a a1 b_ b_1 r0 := (spec_l01Det_body.eq_1 n a a1 b_ b_1 r0).trans (spec_l01Det.eq_1 n a a1 b_ b_1 r0).symm
theorem spec_l01Det_rn {α : Type} (F : T7 α) (n : Nat) (a : Int) (a1 : Int) (b_ : Int) (b_1 : Int) (κ : Res → Option α) : spec_l01Det_runG F n [.int a, .int a1, .int b_, .int b_1] κ = F n a a1 b_ b_1 (fun v1 => κ ⟨[.int .i64 v1], []⟩) := rfl
theorem spec_l01Det_ev {α : Type} (n : Nat) (a : Int) (a1 : Int) (b_ : Int) (b_1 : Int) (κ : Res → Option α) : evFn Try.prog (spec_l01Det_X n) Try.f40 (((buildDs spec_l01Det_sh [.int a, .int a1, .int b_, .int b_1]).map Prod.fst).getD []) κ = spec_l01Det_run n [.int a, .int a1, .int b_, .int b_1] κ := (spec_l01Det_gen n a a1 b_ b_1 κ).trans ((spec_l01Det_eq n a a1 b_ b_1 (fun v1 => κ ⟨[.int .i64 v1], []⟩)).trans ((spec_l01Det_run.eq_1 n [.int a, .int a1, .int b_, .int b_1] κ).trans (spec_l01Det_rn spec_l01Det n a a1 b_ b_1 κ)).symm)
theorem spec_l01Det_en (a : Int) (a1 : Int) (b_ : Int) (b_1 : Int) : (entry 0 (((buildDs spec_l01Det_sh [.int a, .int a1, .int b_, .int b_1]).map Prod.fst).getD [])).map (fun x => (x.1.length, x.2.lent)) = some (2, []) := by kernel_rfl
theorem spec_l01Det_good {α : Type} : ∀ n, GoodFn (α := α) Try.prog 40 (byShape spec_l01Det_sh (spec_l01Det_run n)) := by
  refine fn_good' Try.func40 (c := (Try.f40.body.getD .skip)) (by kernel_rfl) (by kernel_rfl) (by kernel_rfl) spec_l01Det_C spec_l01Det_M eqs spec_l01Det_lps spec_l01Det_jt (fun n => tabC_good (fun _ h => absurd h List.not_mem_nil)) eqs_ok spec_l01Det_Lt ?_ ?_ spec_l01Det_sh spec_l01Det_run ?_
  · exact (fun _ h => absurd h List.not_mem_nil)
  · exact (fun _ h => absurd h List.not_mem_nil)
  · intro n p κ r ds hd hr
    have hr0 := hr
    unfold spec_l01Det_run spec_l01Det_runG at hr
    split at hr
    · rw [← ds_of hd]
      exact ⟨en_of (spec_l01Det_en _ _ _ _) ⟨rfl, rfl⟩, (spec_l01Det_ev n _ _ _ _ κ).trans hr0⟩
    · cases hr

/-! loop.example/g01297/spec.l09Side -/
def spec_l09Side_sh : List SkD := [.agg [.int .i64, .int .i64], .agg [.int .i64, .int .i64], .agg [.int .i64, .int .i64]]
def spec_l09Side_runG {α : Type} (F : T8 α) (n : Nat) (p : List P1) (κ : Res → Option α) : Option α := match p with
  | [.int a, .int a1, .int b_, .int b_1, .int c, .int c1] => F n a a1 b_ b_1 c c1 (fun v1 => κ ⟨[.int .i64 v1], []⟩)
  | _ => none
def spec_l09Side_run {α : Type} (n : Nat) (p : List P1) (κ : Res → Option α) : Option α := spec_l09Side_runG spec_l09Side n p κ
def spec_l09Side_CG {α : Type} (F0 : T6 α) (F1 : T7 α) (n : Nat) : FuncId → List D → (Res → Option α) → Option α := tabC [(32, (byShape spec_l01Plus_sh (spec_l01Plus_runG F0 n))), (40, (byShape spec_l01Det_sh (spec_l01Det_runG F1 n)))]
def spec_l09Side_C {α : Type} (n : Nat) : FuncId → List D → (Res → Option α) → Option α := spec_l09Side_CG spec_l01Plus spec_l01Det n
def spec_l09Side_M : FuncId → List Nat := tabM []
def spec_l09Side_lpsG {α : Type}  : List (LoopT α) := []
def spec_l09Side_lps {α : Type} : List (LoopT α) := spec_l09Side_lpsG
def spec_l09Side_jt : Nat → Option Tpl := jtOf []
def spec_l09Side_XG {α : Type} (F0 : T6 α) (F1 : T7 α)  (n : Nat) : Ctx α := ⟨spec_l09Side_CG F0 F1 n, spec_l09Side_M, eqs, lpOf (spec_l09Side_lpsG) n, spec_l09Side_jt⟩
def spec_l09Side_X {α : Type} (n : Nat) : Ctx α := spec_l09Side_XG spec_l01Plus spec_l01Det n
def spec_l09Side_Lt (np : Nat) (lent : List (Bool × Nat × Blk)) : Prop := np = 3 ∧ lent = []
def spec_l09Side_body {α : Type} (F0 : T6 α) (F1 : T7 α)  (k : Nat) (a : Int) (a1 : Int) (b_ : Int) (b_1 : Int) (c : Int) (c1 : Int) (r0 : Int → Option α) : Option α :=
  F0 k b_ b_1 a a1 (-1) fun v v1 =>
  F0 k c c1 b_ b_1 (-1) fun v2 v3 =>
  F1 k v v1 v2 v3 fun v4 =>
  r0 v4
theorem spec_l09Side_gen {α : Type} (F0 : T6 α) (F1 : T7 α)  (n : Nat) (a : Int) (a1 : Int) (b_ : Int) (b_1 : Int) (c : Int) (c1 : Int) (κ : Res → Option α) : evFn Try.prog (spec_l09Side_XG F0 F1 n) Try.f30 (((buildDs spec_l09Side_sh [.int a, .int a1, .int b_, .int b_1, .int c, .int c1]).map Prod.fst).getD []) κ = spec_l09Side_body F0 F1 n a a1 b_ b_1 c c1 (fun v1 => κ ⟨[.int .i64 v1], []⟩) := by kernel_rfl
theorem spec_l09Side_eq {α : Type} (n : Nat) (a : Int) (a1 : Int) (b_ : Int) (b_1 : Int) (c : Int) (c1 : Int) (r0 : Int → Option α) : spec_l09Side_body (α := α) spec_l01Plus spec_l01Det n a a1 b_ b_1 c c1 r0 = spec_l09Side (α := α) n a a1 b_ b_1 c c1 r0 := (spec_l09Side_body.eq_1 spec_l01Plus spec_l01Det n a a1 b_ b_1 c c1 r0).trans (spec_l09Side.eq_1 n a a1 b_ b_1 c c1 r0).symm
theorem spec_l09Side_rn {α : Type} (F : T8 α) (n : Nat) (a : Int) (a1 : Int) (b_ : Int) (b_1 : Int) (c : Int) (c1 : Int) (κ : Res → Option α) : spec_l09Side_runG F n [.int a, .int a1, .int b_, .int b_1, .int c, .int c1] κ = F n a a1 b_ b_1 c c1 (fun v1 => κ ⟨[.int .i64 v1], []⟩) := rfl
theorem spec_l09Side_ev {α : Type} (n : Nat) (a : Int) (a1 : Int) (b_ : Int) (b_1 : Int) (c : Int) (c1 : Int) (κ : Res → Option α) : evFn Try.prog (spec_l09Side_X n) Try.f30 (((buildDs spec_l09Side_sh [.int a, .int a1, .int b_, .int b_1, .int c, .int c1]).map Prod.fst).getD []) κ = spec_l09Side_run n [.int a, .int a1, .int b_, .int b_1, .int c, .int c1] κ := (spec_l09Side_gen spec_l01Plus spec_l01Det n a a1 b_ b_1 c c1 κ).trans ((spec_l09Side_eq n a a1 b_ b_1 c c1 (fun v1 => κ ⟨[.int .i64 v1], []⟩)).trans ((spec_l09Side_run.eq_1 n [.int a, .int a1, .int b_, .int b_1, .int c, .int c1] κ).trans (spec_l09Side_rn spec_l09Side n a a1 b_ b_1 c c1 κ)).symm)
theorem spec_l09Side_en (a : Int) (a1 : Int) (b_ : Int) (b_1 : Int) (c : Int) (c1 : Int) : (entry 0 (((buildDs spec_l09Side_sh [.int a, .int a1, .int b_, .int b_1, .int c, .int c1]).map Prod.fst).getD [])).map (fun x => (x.1.length, x.2.lent)) = some (3, []) := by kernel_rfl
theorem spec_l09Side_good {α : Type} : ∀ n, GoodFn (α := α) Try.prog 30 (byShape spec_l09Side_sh (spec_l09Side_run n)) := by
  refine fn_good' Try.func30 (c := (Try.f30.body.getD .skip)) (by kernel_rfl) (by kernel_rfl) (by kernel_rfl) spec_l09Side_C spec_l09Side_M eqs spec_l09Side_lps spec_l09Side_jt (fun n => tabC_good (List.forall_mem_cons.2 ⟨(spec_l01Plus_good n), (List.forall_mem_cons.2 ⟨(spec_l01Det_good n), (fun _ h => absurd h List.not_mem_nil)⟩)⟩)) eqs_ok spec_l09Side_Lt ?_ ?_ spec_l09Side_sh spec_l09Side_run ?_
  · exact (fun _ h => absurd h List.not_mem_nil)
  · exact (fun _ h => absurd h List.not_mem_nil)
  · intro n p κ r ds hd hr
    have hr0 := hr
    unfold spec_l09Side_run spec_l09Side_runG at hr
    split at hr
    · rw [← ds_of hd]
      exact ⟨en_of (spec_l09Side_en _ _ _ _ _ _) ⟨rfl, rfl⟩, (spec_l09Side_ev n _ _ _ _ _ _ κ).trans hr0⟩
    · cases hr

/-! loop.example/g01297/spec.l09Half -/
def spec_l09Half_sh : List SkD := [.agg [.int .i64, .int .i64]]
def spec_l09Half_runG {α : Type} (F : T9 α) (n : Nat) (p : List P1) (κ : Res → Option α) : Option α := match p with
  | [.int a, .int a1] => F n a a1 (fun v1 => κ ⟨[.int .i64 v1], []⟩)
  | _ => none
def spec_l09Half_run {α : Type} (n : Nat) (p : List P1) (κ : Res → Option α) : Option α := spec_l09Half_runG spec_l09Half n p κ
def spec_l09Half_CG {α : Type}  (n : Nat) : FuncId → List D → (Res → Option α) → Option α := tabC []
def spec_l09Half_C {α : Type} (n : Nat) : FuncId → List D → (Res → Option α) → Option α := spec_l09Half_CG n
def spec_l09Half_M : FuncId → List Nat := tabM []
def spec_l09Half_lpsG {α : Type}  : List (LoopT α) := []
def spec_l09Half_lps {α : Type} : List (LoopT α) := spec_l09Half_lpsG
def spec_l09Half_jt : Nat → Option Tpl := jtOf []
def spec_l09Half_XG {α : Type}   (n : Nat) : Ctx α := ⟨spec_l09Half_CG n, spec_l09Half_M, eqs, lpOf (spec_l09Half_lpsG) n, spec_l09Half_jt⟩
def spec_l09Half_X {α : Type} (n : Nat) : Ctx α := spec_l09Half_XG n
def spec_l09Half_Lt (np : Nat) (lent : List (Bool × Nat × Blk)) : Prop := np = 1 ∧ lent = []
def spec_l09Half_body {α : Type}   (k : Nat) (a : Int) (a1 : Int) (r0 : Int → Option α) : Option α :=
  bif decide (0 < a1) then
    r0 0
  else
  bif decide (a1 = 0) then
    bif decide (0 < a) then
      r0 0
    else
      r0 1
  else
    r0 1
theorem spec_l09Half_gen {α : Type}   (n : Nat) (a : Int) (a1 : Int) (κ : Res → Option α) : evFn Try.prog (spec_l09Half_XG n) Try.f31 (((buildDs spec_l09Half_sh [.int a, .int a1]).map Prod.fst).getD []) κ = spec_l09Half_body n a a1 (fun v1 => κ ⟨[.int .i64 v1], []⟩) := by kernel_rfl
theorem spec_l09Half_eq {α : Type} (n : Nat) (a : Int) (a1 : Int) (r0 : Int → Option α) : spec_l09Half_body (α := α) n a a1 r0 = spec_l09Half (α := α) n a a1 r0 := (spec_l09Half_body.eq_1 n a a1 r0).trans (spec_l09Half.eq_1 n a a1 r0).symm
theorem spec_l09Half_rn {α : Type} (F : T9 α) (n : Nat) (a : Int) (a1 : Int) (κ : Res → Option α) : spec_l09Half_runG F n [.int a, .int a1] κ = F n a a1 (fun v1 => κ ⟨[.int .i64 v1], []⟩) := rfl
theorem spec_l09Half_ev {α : Type} (n : Nat) (a : Int) (a1 : Int) (κ : Res → Option α) : evFn Try.prog (spec_l09Half_X n) Try.f31 (((buildDs spec_l09Half_sh [.int a, .int a1]).map Prod.fst).getD []) κ = spec_l09Half_run n [.int a, .int a1] κ := (spec_l09Half_gen n a a1 κ).trans ((spec_l09Half_eq n a a1 (fun v1 => κ ⟨[.int .i64 v1], []⟩)).trans ((spec_l09Half_run.eq_1 n [.int a, .int a1] κ).trans (spec_l09Half_rn spec_l09Half n a a1 κ)).symm)
theorem spec_l09Half_en (a : Int) (a1 : Int) : (entry 0 (((buildDs spec_l09Half_sh [.int a, .int a1]).map Prod.fst).getD [])).map (fun x => (x.1.length, x.2.lent)) = some (1, []) := by kernel_rfl
theorem spec_l09Half_good {α : Type} : ∀ n, GoodFn (α := α) Try.prog 31 (byShape spec_l09Half_sh (spec_l09Half_run n)) := by
  refine fn_good' Try.func31 (c := (Try.f31.body.getD .skip)) (by kernel_rfl) (by kernel_rfl) (by kernel_rfl) spec_l09Half_C spec_l09Half_M eqs spec_l09Half_lps spec_l09Half_jt (fun n => tabC_good (fun _ h => absurd h List.not_mem_nil)) eqs_ok spec_l09Half_Lt ?_ ?_ spec_l09Half_sh spec_l09Half_run ?_
  · exact (fun _ h => absurd h List.not_mem_nil)
  · exact (fun _ h => absurd h List.not_mem_nil)
  · intro n p κ r ds hd hr
    have hr0 := hr
    unfold spec_l09Half_run spec_l09Half_runG at hr
    split at hr
    · rw [← ds_of hd]
      exact ⟨en_of (spec_l09Half_en _ _) ⟨rfl, rfl⟩, (spec_l09Half_ev n _ _ κ).trans hr0⟩
    · cases hr

/-! loop.example/g01297/spec.l09Is -/
def spec_l09Is_sh : List SkD := [.sl 34 .pt]
def spec_l09Is_runG {α : Type} (F : T10 α) (n : Nat) (p : List P1) (κ : Res → Option α) : Option α := match p with
  | [.rows .pt list] => F n list (fun v1 => κ ⟨[.bool v1], []⟩)
  | _ => none
def spec_l09Is_run {α : Type} (n : Nat) (p : List P1) (κ : Res → Option α) : Option α := spec_l09Is_runG spec_l09Is n p κ
def spec_l09Is_CG {α : Type} (F0 : T3 α) (F1 : T5 α) (F2 : T8 α) (F3 : T6 α) (F4 : T9 α) (n : Nat) : FuncId → List D → (Res → Option α) → Option α := tabC [(28, (byShape spec_l01In_sh (spec_l01In_runG F0 n))), (29, (byShape spec_l01Is_sh (spec_l01Is_runG F1 n))), (30, (byShape spec_l09Side_sh (spec_l09Side_runG F2 n))), (32, (byShape spec_l01Plus_sh (spec_l01Plus_runG F3 n))), (31, (byShape spec_l09Half_sh (spec_l09Half_runG F4 n)))]
def spec_l09Is_C {α : Type} (n : Nat) : FuncId → List D → (Res → Option α) → Option α := spec_l09Is_CG spec_l01In spec_l01Is spec_l09Side spec_l01Plus spec_l09Half n
def spec_l09Is_M : FuncId → List Nat := tabM []
def spec_l09Is_t6 : Tpl := ⟨[.sl 0, .any, .any, .int .i64, .int .i64, .int .i64, .any, .any, .any, .any, .any, .any, .any, .any, .any, .any, .any, .any, .any, .any, .any, .any, .any, .any, .any, .any, .any, .any, .any, .any, .any, .any, .any, .any, .any, .any, .any, .any, .any, .any, .any, .any, .any, .any, .any, .any, .any, .any, .any, .any, .any, .any, .any, .any, .any, .any, .any, .any, .any, .any, .any, .any, .any, .any, .any, .any, .any, .any, .any, .any, .any, .any, .any, .any, .any, .any, .any, .any, .any, .any, .any], [(0, .rows 0 34 .pt)], []⟩
def spec_l09Is_uG6 {α : Type} (G : Nat → Int → Int → Int → (List (Int × Int)) → (Int → Int → Int → (List (Int × Int)) → Option α) → (Bool → Option α) → Option α) (n : Nat) (p : List P1) (brk : Nat → List P1 → Option α) (ret : Res → Option α) : Option α := match p with
  | [.int n_, .int turns, .int i, .rows .pt list1] => G n n_ turns i list1 (fun n_ turns i list1 => brk 0 [.int n_, .int turns, .int i, .rows .pt list1]) (fun v1 => ret ⟨[.bool v1], []⟩)
  | _ => none
def spec_l09Is_u6 {α : Type} (n : Nat) (p : List P1) (brk : Nat → List P1 → Option α) (ret : Res → Option α) : Option α := spec_l09Is_uG6 spec_l09Is_l6 n p brk ret
def spec_l09Is_lpsG {α : Type} (G6 : Nat → Int → Int → Int → (List (Int × Int)) → (Int → Int → Int → (List (Int × Int)) → Option α) → (Bool → Option α) → Option α) : List (LoopT α) := [⟨6, spec_l09Is_t6, spec_l09Is_uG6 G6⟩]
def spec_l09Is_lps {α : Type} : List (LoopT α) := spec_l09Is_lpsG spec_l09Is_l6
def spec_l09Is_jt : Nat → Option Tpl := jtOf []
def spec_l09Is_XG {α : Type} (F0 : T3 α) (F1 : T5 α) (F2 : T8 α) (F3 : T6 α) (F4 : T9 α) (G6 : Nat → Int → Int → Int → (List (Int × Int)) → (Int → Int → Int → (List (Int × Int)) → Option α) → (Bool → Option α) → Option α) (n : Nat) : Ctx α := ⟨spec_l09Is_CG F0 F1 F2 F3 F4 n, spec_l09Is_M, eqs, lpOf (spec_l09Is_lpsG G6) n, spec_l09Is_jt⟩
def spec_l09Is_X {α : Type} (n : Nat) : Ctx α := spec_l09Is_XG spec_l01In spec_l01Is spec_l09Side spec_l01Plus spec_l09Half spec_l09Is_l6 n
def spec_l09Is_Lt (np : Nat) (lent : List (Bool × Nat × Blk)) : Prop := np = 1 ∧ lent = []
def spec_l09Is_lb6 {α : Type} (F0 : T3 α) (F1 : T5 α) (F2 : T8 α) (F3 : T6 α) (F4 : T9 α) (G6 : Nat → Int → Int → Int → (List (Int × Int)) → (Int → Int → Int → (List (Int × Int)) → Option α) → (Bool → Option α) → Option α) (k : Nat) (n_ : Int) (turns : Int) (i : Int) (list1 : List (Int × Int)) (b0 : Int → Int → Int → (List (Int × Int)) → Option α) (r0 : Bool → Option α) : Option α :=
  bif decide (i < n_) then
    bif (decide (0 ≤ i) && decide (i < (((List.length list1) : Nat) : Int))) then
      (list1[i.toNat]?).bind fun e_ =>
      bif decide (n_ = 0) then
        none
      else
      bif (decide (0 ≤ (Int.tmod (w64 (i + 1)) n_)) && decide ((Int.tmod (w64 (i + 1)) n_) < (((List.length list1) : Nat) : Int))) then
        (list1[(Int.tmod (w64 (i + 1)) n_).toNat]?).bind fun e_1 =>
        bif decide (n_ = 0) then
          none
        else
        bif (decide (0 ≤ (Int.tmod (w64 (i + 2)) n_)) && decide ((Int.tmod (w64 (i + 2)) n_) < (((List.length list1) : Nat) : Int))) then
          (list1[(Int.tmod (w64 (i + 2)) n_).toNat]?).bind fun e_2 =>
          F0 k e_.1 (-1000) 1000 fun v =>
          bif (!v) then
            r0 false
          else
            F0 k e_.2 (-1000) 1000 fun v1 =>
            bif (!v1) then
              r0 false
            else
              F1 k e_1.1 e_1.2 fun v2 =>
              bif (!v2) then
                r0 false
              else
                F1 k e_2.1 e_2.2 fun v3 =>
                bif (!v3) then
                  r0 false
                else
                  F2 k e_.1 e_.2 e_1.1 e_1.2 e_2.1 e_2.2 fun v4 =>
                  bif decide (v4 ≤ 0) then
                    r0 false
                  else
                    F3 k e_1.1 e_1.2 e_.1 e_.2 (-1) fun v5 v6 =>
                    F4 k v5 v6 fun v7 =>
                    bif decide (v7 = 1) then
                      F3 k e_2.1 e_2.2 e_1.1 e_1.2 (-1) fun v8 v9 =>
                      F4 k v8 v9 fun v10 =>
                      bif decide (v10 = 0) then
                        G6 k n_ (w64 (turns + 1)) (w64 (i + 1)) list1 b0 r0
                      else
                        G6 k n_ turns (w64 (i + 1)) list1 b0 r0
                    else
                      G6 k n_ turns (w64 (i + 1)) list1 b0 r0
        else
          none
      else
        none
    else
      none
  else
    b0 n_ turns i list1
theorem spec_l09Is_l6_gen {α : Type} (F0 : T3 α) (F1 : T5 α) (F2 : T8 α) (F3 : T6 α) (F4 : T9 α) (G6 : Nat → Int → Int → Int → (List (Int × Int)) → (Int → Int → Int → (List (Int × Int)) → Option α) → (Bool → Option α) → Option α) (n : Nat) (n_ : Int) (turns : Int) (i : Int) (list1 : List (Int × Int)) (brk : Nat → List P1 → Option α) (ret : Res → Option α) : ev ((spec_l09Is_XG F0 F1 F2 F3 F4 G6 n).env Try.prog Try.f17 1 []) (findLoop (loopsIn (Try.f17.body.getD .skip)) 6) ((spec_l09Is_t6.build [.int n_, .int turns, .int i, .rows .pt list1]).getD ⟨[], []⟩) (roundK (1 * 64) spec_l09Is_t6 (fun q => spec_l09Is_uG6 G6 n q brk ret) brk ret) = spec_l09Is_lb6 F0 F1 F2 F3 F4 G6 n n_ turns i list1 (fun n_ turns i list1 => brk 0 [.int n_, .int turns, .int i, .rows .pt list1]) (fun v1 => ret ⟨[.bool v1], []⟩) := by kernel_rfl
theorem spec_l09Is_l6_eq {α : Type} (k : Nat) (n_ : Int) (turns : Int) (i : Int) (list1 : List (Int × Int)) (b0 : Int → Int → Int → (List (Int × Int)) → Option α) (r0 : Bool → Option α) : spec_l09Is_lb6 spec_l01In spec_l01Is spec_l09Side spec_l01Plus spec_l09Half spec_l09Is_l6 k n_ turns i list1 b0 r0 = spec_l09Is_l6 (k + 1) n_ turns i list1 b0 r0 := (spec_l09Is_lb6.eq_1 spec_l01In spec_l01Is spec_l09Side spec_l01Plus spec_l09Half spec_l09Is_l6 k n_ turns i list1 b0 r0).trans (show spec_l09Is_l6 (k + 1) n_ turns i list1 b0 r0 = _ from spec_l09Is_l6.eq_2 _ _ _ _ _ _ _ ).symm
theorem spec_l09Is_l6_rn {α : Type} (G : Nat → Int → Int → Int → (List (Int × Int)) → (Int → Int → Int → (List (Int × Int)) → Option α) → (Bool → Option α) → Option α) (n : Nat) (n_ : Int) (turns : Int) (i : Int) (list1 : List (Int × Int)) (brk : Nat → List P1 → Option α) (ret : Res → Option α) : spec_l09Is_uG6 G n [.int n_, .int turns, .int i, .rows .pt list1] brk ret = G n n_ turns i list1 (fun n_ turns i list1 => brk 0 [.int n_, .int turns, .int i, .rows .pt list1]) (fun v1 => ret ⟨[.bool v1], []⟩) := rfl
theorem spec_l09Is_l6_ev {α : Type} (n : Nat) (n_ : Int) (turns : Int) (i : Int) (list1 : List (Int × Int)) (brk : Nat → List P1 → Option α) (ret : Res → Option α) : ev ((spec_l09Is_X n).env Try.prog Try.f17 1 []) (findLoop (loopsIn (Try.f17.body.getD .skip)) 6) ((spec_l09Is_t6.build [.int n_, .int turns, .int i, .rows .pt list1]).getD ⟨[], []⟩) (roundK (1 * 64) spec_l09Is_t6 (fun q => spec_l09Is_u6 n q brk ret) brk ret) = spec_l09Is_u6 (n + 1) [.int n_, .int turns, .int i, .rows .pt list1] brk ret := (spec_l09Is_l6_gen spec_l01In spec_l01Is spec_l09Side spec_l01Plus spec_l09Half spec_l09Is_l6 n n_ turns i list1 brk ret).trans ((spec_l09Is_l6_eq n n_ turns i list1 (fun n_ turns i list1 => brk 0 [.int n_, .int turns, .int i, .rows .pt list1]) (fun v1 => ret ⟨[.bool v1], []⟩)).trans ((spec_l09Is_u6.eq_1 (n + 1) [.int n_, .int turns, .int i, .rows .pt list1] brk ret).trans (spec_l09Is_l6_rn spec_l09Is_l6 (n + 1) n_ turns i list1 brk ret)).symm)
def spec_l09Is_body {α : Type} (F0 : T3 α) (F1 : T5 α) (F2 : T8 α) (F3 : T6 α) (F4 : T9 α) (G6 : Nat → Int → Int → Int → (List (Int × Int)) → (Int → Int → Int → (List (Int × Int)) → Option α) → (Bool → Option α) → Option α) (k : Nat) (list : List (Int × Int)) (r0 : Bool → Option α) : Option α :=
  bif decide ((((List.length list) : Nat) : Int) < 3) then
    r0 false
  else
  bif decide (12 < (((List.length list) : Nat) : Int)) then
    r0 false
  else
    G6 k (((List.length list) : Nat) : Int) 0 0 list
      (fun _ turns1 _ _ =>
        r0 (decide (turns1 = 1)))
      r0
theorem spec_l09Is_gen {α : Type} (F0 : T3 α) (F1 : T5 α) (F2 : T8 α) (F3 : T6 α) (F4 : T9 α) (G6 : Nat → Int → Int → Int → (List (Int × Int)) → (Int → Int → Int → (List (Int × Int)) → Option α) → (Bool → Option α) → Option α) (n : Nat) (list : List (Int × Int)) (κ : Res → Option α) : evFn Try.prog (spec_l09Is_XG F0 F1 F2 F3 F4 G6 n) Try.f17 (((buildDs spec_l09Is_sh [.rows .pt list]).map Prod.fst).getD []) κ = spec_l09Is_body F0 F1 F2 F3 F4 G6 n list (fun v1 => κ ⟨[.bool v1], []⟩) := by kernel_rfl
theorem spec_l09Is_eq {α : Type} (n : Nat) (list : List (Int × Int)) (r0 : Bool → Option α) : spec_l09Is_body (α := α) spec_l01In spec_l01Is spec_l09Side spec_l01Plus spec_l09Half spec_l09Is_l6 n list r0 = spec_l09Is (α := α) n list r0 := (spec_l09Is_body.eq_1 spec_l01In spec_l01Is spec_l09Side spec_l01Plus spec_l09Half spec_l09Is_l6 n list r0).trans (spec_l09Is.eq_1 n list r0).symm
theorem spec_l09Is_rn {α : Type} (F : T10 α) (n : Nat) (list : List (Int × Int)) (κ : Res → Option α) : spec_l09Is_runG F n [.rows .pt list] κ = F n list (fun v1 => κ ⟨[.bool v1], []⟩) := rfl
theorem spec_l09Is_ev {α : Type} (n : Nat) (list : List (Int × Int)) (κ : Res → Option α) : evFn Try.prog (spec_l09Is_X n) Try.f17 (((buildDs spec_l09Is_sh [.rows .pt list]).map Prod.fst).getD []) κ = spec_l09Is_run n [.rows .pt list] κ := (spec_l09Is_gen spec_l01In spec_l01Is spec_l09Side spec_l01Plus spec_l09Half spec_l09Is_l6 n list κ).trans ((spec_l09Is_eq n list (fun v1 => κ ⟨[.bool v1], []⟩)).trans ((spec_l09Is_run.eq_1 n [.rows .pt list] κ).trans (spec_l09Is_rn spec_l09Is n list κ)).symm)
theorem spec_l09Is_en (list : List (Int × Int)) : (entry 0 (((buildDs spec_l09Is_sh [.rows .pt list]).map Prod.fst).getD [])).map (fun x => (x.1.length, x.2.lent)) = some (1, []) := by kernel_rfl
theorem spec_l09Is_good {α : Type} : ∀ n, GoodFn (α := α) Try.prog 17 (byShape spec_l09Is_sh (spec_l09Is_run n)) := by
  refine fn_good' Try.func17 (c := (Try.f17.body.getD .skip)) (by kernel_rfl) (by kernel_rfl) (by kernel_rfl) spec_l09Is_C spec_l09Is_M eqs spec_l09Is_lps spec_l09Is_jt (fun n => tabC_good (List.forall_mem_cons.2 ⟨(spec_l01In_good n), (List.forall_mem_cons.2 ⟨(spec_l01Is_good n), (List.forall_mem_cons.2 ⟨(spec_l09Side_good n), (List.forall_mem_cons.2 ⟨(spec_l01Plus_good n), (List.forall_mem_cons.2 ⟨(spec_l09Half_good n), (fun _ h => absurd h List.not_mem_nil)⟩)⟩)⟩)⟩)⟩)) eqs_ok spec_l09Is_Lt ?_ ?_ spec_l09Is_sh spec_l09Is_run ?_
  · refine List.forall_mem_cons.2 ⟨?_, (fun _ h => absurd h List.not_mem_nil)⟩
    · intro p brk ret; show spec_l09Is_u6 0 p brk ret = none; unfold spec_l09Is_u6 spec_l09Is_uG6; split <;> rfl
  · refine List.forall_mem_cons.2 ⟨?_, (fun _ h => absurd h List.not_mem_nil)⟩
    · intro np lent hL n p brk ret st r hb hr
      obtain ⟨rfl, rfl⟩ := hL
      rw [← tpl_of hb]
      change spec_l09Is_u6 (n + 1) p brk ret = some r at hr
      have hr0 := hr
      unfold spec_l09Is_u6 spec_l09Is_uG6 at hr
      split at hr
      · exact (spec_l09Is_l6_ev n _ _ _ _ brk ret).trans hr0
      · cases hr
  · intro n p κ r ds hd hr
    have hr0 := hr
    unfold spec_l09Is_run spec_l09Is_runG at hr
    split at hr
    · rw [← ds_of hd]
      exact ⟨en_of (spec_l09Is_en _) ⟨rfl, rfl⟩, (spec_l09Is_ev n _ κ).trans hr0⟩
    · cases hr

/-! loop.example/g01297/spec.l09Code -/
def spec_l09Code_0M1_sh : List SkD := [.slm 24 [.sl 34 .pt]]
def spec_l09Code_0M1_runG {α : Type} (F : T11 α) (n : Nat) (p : List P1) (κ : Res → Option α) : Option α := match p with
  | [.rows .pt lists] => F n lists (fun v1 => κ ⟨[.int .i64 v1], []⟩)
  | _ => none
def spec_l09Code_0M1_run {α : Type} (n : Nat) (p : List P1) (κ : Res → Option α) : Option α := spec_l09Code_0M1_runG spec_l09Code_0M1 n p κ
def spec_l09Code_0M1_CG {α : Type} (F0 : T10 α) (n : Nat) : FuncId → List D → (Res → Option α) → Option α := tabC [(17, (byShape spec_l09Is_sh (spec_l09Is_runG F0 n)))]
def spec_l09Code_0M1_C {α : Type} (n : Nat) : FuncId → List D → (Res → Option α) → Option α := spec_l09Code_0M1_CG spec_l09Is n
def spec_l09Code_0M1_M : FuncId → List Nat := tabM []
def spec_l09Code_0M1_lpsG {α : Type}  : List (LoopT α) := []
def spec_l09Code_0M1_lps {α : Type} : List (LoopT α) := spec_l09Code_0M1_lpsG
def spec_l09Code_0M1_jt : Nat → Option Tpl := jtOf []
def spec_l09Code_0M1_XG {α : Type} (F0 : T10 α)  (n : Nat) : Ctx α := ⟨spec_l09Code_0M1_CG F0 n, spec_l09Code_0M1_M, eqs, lpOf (spec_l09Code_0M1_lpsG) n, spec_l09Code_0M1_jt⟩
def spec_l09Code_0M1_X {α : Type} (n : Nat) : Ctx α := spec_l09Code_0M1_XG spec_l09Is n
def spec_l09Code_0M1_Lt (np : Nat) (lent : List (Bool × Nat × Blk)) : Prop := np = 1 ∧ lent = []
def spec_l09Code_0M1_body {α : Type} (F0 : T10 α)  (k : Nat) (lists : List (Int × Int)) (r0 : Int → Option α) : Option α :=
  F0 k lists fun v =>
  bif (!v) then
    r0 1
  else
    r0 0
theorem spec_l09Code_0M1_gen {α : Type} (F0 : T10 α)  (n : Nat) (lists : List (Int × Int)) (κ : Res → Option α) : evFn Try.prog (spec_l09Code_0M1_XG F0 n) Try.f11 (((buildDs spec_l09Code_0M1_sh [.rows .pt lists]).map Prod.fst).getD []) κ = spec_l09Code_0M1_body F0 n lists (fun v1 => κ ⟨[.int .i64 v1], []⟩) := by kernel_rfl
theorem spec_l09Code_0M1_eq {α : Type} (n : Nat) (lists : List (Int × Int)) (r0 : Int → Option α) : spec_l09Code_0M1_body (α := α) spec_l09Is n lists r0 = spec_l09Code_0M1 (α := α) n lists r0 := (spec_l09Code_0M1_body.eq_1 spec_l09Is n lists r0).trans (spec_l09Code_0M1.eq_1 n lists r0).symm
theorem spec_l09Code_0M1_rn {α : Type} (F : T11 α) (n : Nat) (lists : List (Int × Int)) (κ : Res → Option α) : spec_l09Code_0M1_runG F n [.rows .pt lists] κ = F n lists (fun v1 => κ ⟨[.int .i64 v1], []⟩) := rfl
theorem spec_l09Code_0M1_ev {α : Type} (n : Nat) (lists : List (Int × Int)) (κ : Res → Option α) : evFn Try.prog (spec_l09Code_0M1_X n) Try.f11 (((buildDs spec_l09Code_0M1_sh [.rows .pt lists]).map Prod.fst).getD []) κ = spec_l09Code_0M1_run n [.rows .pt lists] κ := (spec_l09Code_0M1_gen spec_l09Is n lists κ).trans ((spec_l09Code_0M1_eq n lists (fun v1 => κ ⟨[.int .i64 v1], []⟩)).trans ((spec_l09Code_0M1_run.eq_1 n [.rows .pt lists] κ).trans (spec_l09Code_0M1_rn spec_l09Code_0M1 n lists κ)).symm)
theorem spec_l09Code_0M1_en (lists : List (Int × Int)) : (entry 0 (((buildDs spec_l09Code_0M1_sh [.rows .pt lists]).map Prod.fst).getD [])).map (fun x => (x.1.length, x.2.lent)) = some (1, []) := by kernel_rfl
theorem spec_l09Code_0M1_good {α : Type} : ∀ n, GoodFn (α := α) Try.prog 11 (byShape spec_l09Code_0M1_sh (spec_l09Code_0M1_run n)) := by
  refine fn_good' Try.func11 (c := (Try.f11.body.getD .skip)) (by kernel_rfl) (by kernel_rfl) (by kernel_rfl) spec_l09Code_0M1_C spec_l09Code_0M1_M eqs spec_l09Code_0M1_lps spec_l09Code_0M1_jt (fun n => tabC_good (List.forall_mem_cons.2 ⟨(spec_l09Is_good n), (fun _ h => absurd h List.not_mem_nil)⟩)) eqs_ok spec_l09Code_0M1_Lt ?_ ?_ spec_l09Code_0M1_sh spec_l09Code_0M1_run ?_
  · exact (fun _ h => absurd h List.not_mem_nil)
  · exact (fun _ h => absurd h List.not_mem_nil)
  · intro n p κ r ds hd hr
    have hr0 := hr
    unfold spec_l09Code_0M1_run spec_l09Code_0M1_runG at hr
    split at hr
    · rw [← ds_of hd]
      exact ⟨en_of (spec_l09Code_0M1_en _) ⟨rfl, rfl⟩, (spec_l09Code_0M1_ev n _ κ).trans hr0⟩
    · cases hr

/-! loop.example/g01297/spec.l09Before -/
def spec_l09Before_sh : List SkD := [.agg [.int .i64, .int .i64], .agg [.int .i64, .int .i64]]
def spec_l09Before_runG {α : Type} (F : T12 α) (n : Nat) (p : List P1) (κ : Res → Option α) : Option α := match p with
  | [.int a, .int a1, .int b_, .int b_1] => F n a a1 b_ b_1 (fun v1 => κ ⟨[.bool v1], []⟩)
  | _ => none
def spec_l09Before_run {α : Type} (n : Nat) (p : List P1) (κ : Res → Option α) : Option α := spec_l09Before_runG spec_l09Before n p κ
def spec_l09Before_CG {α : Type}  (n : Nat) : FuncId → List D → (Res → Option α) → Option α := tabC []
def spec_l09Before_C {α : Type} (n : Nat) : FuncId → List D → (Res → Option α) → Option α := spec_l09Before_CG n
def spec_l09Before_M : FuncId → List Nat := tabM []
def spec_l09Before_lpsG {α : Type}  : List (LoopT α) := []
def spec_l09Before_lps {α : Type} : List (LoopT α) := spec_l09Before_lpsG
def spec_l09Before_jt : Nat → Option Tpl := jtOf []
def spec_l09Before_XG {α : Type}   (n : Nat) : Ctx α := ⟨spec_l09Before_CG n, spec_l09Before_M, eqs, lpOf (spec_l09Before_lpsG) n, spec_l09Before_jt⟩
def spec_l09Before_X {α : Type} (n : Nat) : Ctx α := spec_l09Before_XG n
def spec_l09Before_Lt (np : Nat) (lent : List (Bool × Nat × Blk)) : Prop := np = 2 ∧ lent = []
def spec_l09Before_body {α : Type}   (k : Nat) (a : Int) (a1 : Int) (b_ : Int) (b_1 : Int) (r0 : Bool → Option α) : Option α :=
  bif decide (a < b_) then
    r0 true
  else
  bif decide (a = b_) then
    r0 (decide (a1 < b_1))
  else
    r0 false
theorem spec_l09Before_gen {α : Type}   (n : Nat) (a : Int) (a1 : Int) (b_ : Int) (b_1 : Int) (κ : Res → Option α) : evFn Try.prog (spec_l09Before_XG n) Try.f18 (((buildDs spec_l09Before_sh [.int a, .int a1, .int b_, .int b_1]).map Prod.fst).getD []) κ = spec_l09Before_body n a a1 b_ b_1 (fun v1 => κ ⟨[.bool v1], []⟩) := by kernel_rfl
theorem spec_l09Before_eq {α : Type} (n : Nat) (a : Int) (a1 : Int) (b_ : Int) (b_1 : Int) (r0 : Bool → Option α) : spec_l09Before_body (α := α) n a a1 b_ b_1 r0 = spec_l09Before (α := α) n a a1 b_ b_1 r0 := (spec_l09Before_body.eq_1 n a a1 b_ b_1 r0).trans (spec_l09Before.eq_1 n a a1 b_ b_1 r0).symm
theorem spec_l09Before_rn {α : Type} (F : T12 α) (n : Nat) (a : Int) (a1 : Int) (b_ : Int) (b_1 : Int) (κ : Res → Option α) : spec_l09Before_runG F n [.int a, .int a1, .int b_, .int b_1] κ = F n a a1 b_ b_1 (fun v1 => κ ⟨[.bool v1], []⟩) := rfl
theorem spec_l09Before_ev {α : Type} (n : Nat) (a : Int) (a1 : Int) (b_ : Int) (b_1 : Int) (κ : Res → Option α) : evFn Try.prog (spec_l09Before_X n) Try.f18 (((buildDs spec_l09Before_sh [.int a, .int a1, .int b_, .int b_1]).map Prod.fst).getD []) κ = spec_l09Before_run n [.int a, .int a1, .int b_, .int b_1] κ := (spec_l09Before_gen n a a1 b_ b_1 κ).trans ((spec_l09Before_eq n a a1 b_ b_1 (fun v1 => κ ⟨[.bool v1], []⟩)).trans ((spec_l09Before_run.eq_1 n [.int a, .int a1, .int b_, .int b_1] κ).trans (spec_l09Before_rn spec_l09Before n a a1 b_ b_1 κ)).symm)
theorem spec_l09Before_en (a : Int) (a1 : Int) (b_ : Int) (b_1 : Int) : (entry 0 (((buildDs spec_l09Before_sh [.int a, .int a1, .int b_, .int b_1]).map Prod.fst).getD [])).map (fun x => (x.1.length, x.2.lent)) = some (2, []) := by kernel_rfl
theorem spec_l09Before_good {α : Type} : ∀ n, GoodFn (α := α) Try.prog 18 (byShape spec_l09Before_sh (spec_l09Before_run n)) := by
  refine fn_good' Try.func18 (c := (Try.f18.body.getD .skip)) (by kernel_rfl) (by kernel_rfl) (by kernel_rfl) spec_l09Before_C spec_l09Before_M eqs spec_l09Before_lps spec_l09Before_jt (fun n => tabC_good (fun _ h => absurd h List.not_mem_nil)) eqs_ok spec_l09Before_Lt ?_ ?_ spec_l09Before_sh spec_l09Before_run ?_
  · exact (fun _ h => absurd h List.not_mem_nil)
  · exact (fun _ h => absurd h List.not_mem_nil)
  · intro n p κ r ds hd hr
    have hr0 := hr
    unfold spec_l09Before_run spec_l09Before_runG at hr
    split at hr
    · rw [← ds_of hd]
      exact ⟨en_of (spec_l09Before_en _ _ _ _) ⟨rfl, rfl⟩, (spec_l09Before_ev n _ _ _ _ κ).trans hr0⟩
    · cases hr

/-! loop.example/g01297/spec.l09Order -/
def spec_l09Order_sh : List SkD := [.sl 34 .pt]
def spec_l09Order_runG {α : Type} (F : T2 α) (n : Nat) (p : List P1) (κ : Res → Option α) : Option α := match p with
  | [.rows .pt list] => F n list (fun v1 => κ ⟨[.sl 34 .pt v1], []⟩)
  | _ => none
def spec_l09Order_run {α : Type} (n : Nat) (p : List P1) (κ : Res → Option α) : Option α := spec_l09Order_runG spec_l09Order n p κ
def spec_l09Order_CG {α : Type} (F0 : T12 α) (n : Nat) : FuncId → List D → (Res → Option α) → Option α := tabC [(18, (byShape spec_l09Before_sh (spec_l09Before_runG F0 n)))]
def spec_l09Order_C {α : Type} (n : Nat) : FuncId → List D → (Res → Option α) → Option α := spec_l09Order_CG spec_l09Before n
def spec_l09Order_M : FuncId → List Nat := tabM []
def spec_l09Order_t3 : Tpl := ⟨[.sl 0, .any, .any, .int .i64, .int .i64, .any, .any, .any, .any, .any, .any, .any, .any, .any, .any, .any, .any, .any, .any, .any, .any, .any, .any, .any, .any, .any, .any, .any, .any, .any], [(0, .rows 0 34 .pt)], []⟩
def spec_l09Order_uG3 {α : Type} (G : Nat → Int → Int → (List (Int × Int)) → (Int → Int → (List (Int × Int)) → Option α) → ((List (Int × Int)) → Option α) → Option α) (n : Nat) (p : List P1) (brk : Nat → List P1 → Option α) (ret : Res → Option α) : Option α := match p with
  | [.int first, .int i, .rows .pt list1] => G n first i list1 (fun first i list1 => brk 0 [.int first, .int i, .rows .pt list1]) (fun v1 => ret ⟨[.sl 34 .pt v1], []⟩)
  | _ => none
def spec_l09Order_u3 {α : Type} (n : Nat) (p : List P1) (brk : Nat → List P1 → Option α) (ret : Res → Option α) : Option α := spec_l09Order_uG3 spec_l09Order_l3 n p brk ret
def spec_l09Order_lpsG {α : Type} (G3 : Nat → Int → Int → (List (Int × Int)) → (Int → Int → (List (Int × Int)) → Option α) → ((List (Int × Int)) → Option α) → Option α) : List (LoopT α) := [⟨3, spec_l09Order_t3, spec_l09Order_uG3 G3⟩]
def spec_l09Order_lps {α : Type} : List (LoopT α) := spec_l09Order_lpsG spec_l09Order_l3
def spec_l09Order_jt : Nat → Option Tpl := jtOf []
def spec_l09Order_XG {α : Type} (F0 : T12 α) (G3 : Nat → Int → Int → (List (Int × Int)) → (Int → Int → (List (Int × Int)) → Option α) → ((List (Int × Int)) → Option α) → Option α) (n : Nat) : Ctx α := ⟨spec_l09Order_CG F0 n, spec_l09Order_M, eqs, lpOf (spec_l09Order_lpsG G3) n, spec_l09Order_jt⟩
def spec_l09Order_X {α : Type} (n : Nat) : Ctx α := spec_l09Order_XG spec_l09Before spec_l09Order_l3 n
def spec_l09Order_Lt (np : Nat) (lent : List (Bool × Nat × Blk)) : Prop := np = 1 ∧ lent = []
def spec_l09Order_lb3 {α : Type} (F0 : T12 α) (G3 : Nat → Int → Int → (List (Int × Int)) → (Int → Int → (List (Int × Int)) → Option α) → ((List (Int × Int)) → Option α) → Option α) (k : Nat) (first : Int) (i : Int) (list1 : List (Int × Int)) (b0 : Int → Int → (List (Int × Int)) → Option α) (r0 : (List (Int × Int)) → Option α) : Option α :=
  bif decide (i < (((List.length list1) : Nat) : Int)) then
    bif (decide (0 ≤ i) && decide (i < (((List.length list1) : Nat) : Int))) then
      (list1[i.toNat]?).bind fun e_ =>
      bif (decide (0 ≤ first) && decide (first < (((List.length list1) : Nat) : Int))) then
        (list1[first.toNat]?).bind fun e_1 =>
        F0 k e_.1 e_.2 e_1.1 e_1.2 fun v =>
        bif v then
          G3 k i (w64 (i + 1)) list1 b0 r0
        else
          G3 k first (w64 (i + 1)) list1 b0 r0
      else
        none
    else
      none
  else
    b0 first i list1
theorem spec_l09Order_l3_gen {α : Type} (F0 : T12 α) (G3 : Nat → Int → Int → (List (Int × Int)) → (Int → Int → (List (Int × Int)) → Option α) → ((List (Int × Int)) → Option α) → Option α) (n : Nat) (first : Int) (i : Int) (list1 : List (Int × Int)) (brk : Nat → List P1 → Option α) (ret : Res → Option α) : ev ((spec_l09Order_XG F0 G3 n).env Try.prog Try.f12 1 []) (findLoop (loopsIn (Try.f12.body.getD .skip)) 3) ((spec_l09Order_t3.build [.int first, .int i, .rows .pt list1]).getD ⟨[], []⟩) (roundK (1 * 64) spec_l09Order_t3 (fun q => spec_l09Order_uG3 G3 n q brk ret) brk ret) = spec_l09Order_lb3 F0 G3 n first i list1 (fun first i list1 => brk 0 [.int first, .int i, .rows .pt list1]) (fun v1 => ret ⟨[.sl 34 .pt v1], []⟩) := by kernel_rfl
theorem spec_l09Order_l3_eq {α : Type} (k : Nat) (first : Int) (i : Int) (list1 : List (Int × Int)) (b0 : Int → Int → (List (Int × Int)) → Option α) (r0 : (List (Int × Int)) → Option α) : spec_l09Order_lb3 spec_l09Before spec_l09Order_l3 k first i list1 b0 r0 = spec_l09Order_l3 (k + 1) first i list1 b0 r0 := (spec_l09Order_lb3.eq_1 spec_l09Before spec_l09Order_l3 k first i list1 b0 r0).trans (show spec_l09Order_l3 (k + 1) first i list1 b0 r0 = _ from spec_l09Order_l3.eq_2 _ _ _ _ _ _ ).symm
theorem spec_l09Order_l3_rn {α : Type} (G : Nat → Int → Int → (List (Int × Int)) → (Int → Int → (List (Int × Int)) → Option α) → ((List (Int × Int)) → Option α) → Option α) (n : Nat) (first : Int) (i : Int) (list1 : List (Int × Int)) (brk : Nat → List P1 → Option α) (ret : Res → Option α) : spec_l09Order_uG3 G n [.int first, .int i, .rows .pt list1] brk ret = G n first i list1 (fun first i list1 => brk 0 [.int first, .int i, .rows .pt list1]) (fun v1 => ret ⟨[.sl 34 .pt v1], []⟩) := rfl
theorem spec_l09Order_l3_ev {α : Type} (n : Nat) (first : Int) (i : Int) (list1 : List (Int × Int)) (brk : Nat → List P1 → Option α) (ret : Res → Option α) : ev ((spec_l09Order_X n).env Try.prog Try.f12 1 []) (findLoop (loopsIn (Try.f12.body.getD .skip)) 3) ((spec_l09Order_t3.build [.int first, .int i, .rows .pt list1]).getD ⟨[], []⟩) (roundK (1 * 64) spec_l09Order_t3 (fun q => spec_l09Order_u3 n q brk ret) brk ret) = spec_l09Order_u3 (n + 1) [.int first, .int i, .rows .pt list1] brk ret := (spec_l09Order_l3_gen spec_l09Before spec_l09Order_l3 n first i list1 brk ret).trans ((spec_l09Order_l3_eq n first i list1 (fun first i list1 => brk 0 [.int first, .int i, .rows .pt list1]) (fun v1 => ret ⟨[.sl 34 .pt v1], []⟩)).trans ((spec_l09Order_u3.eq_1 (n + 1) [.int first, .int i, .rows .pt list1] brk ret).trans (spec_l09Order_l3_rn spec_l09Order_l3 (n + 1) first i list1 brk ret)).symm)
def spec_l09Order_body {α : Type} (F0 : T12 α) (G3 : Nat → Int → Int → (List (Int × Int)) → (Int → Int → (List (Int × Int)) → Option α) → ((List (Int × Int)) → Option α) → Option α) (k : Nat) (list : List (Int × Int)) (r0 : (List (Int × Int)) → Option α) : Option α :=
  G3 k 0 0 list
    (fun first1 _ list2 =>
      bif (decide (0 ≤ first1) && decide (first1 ≤ (((List.length list2) : Nat) : Int))) then
        bif (decide (0 ≤ first1) && decide (first1 ≤ (((List.length list2) : Nat) : Int))) then
          bif decide ((0 + (List.length (List.take ((List.length list2) - first1.toNat) (List.drop first1.toNat list2)))) ≤ big) then
            bif decide (((List.length ([] ++ (List.take ((List.length list2) - first1.toNat) (List.drop first1.toNat list2)))) + (List.length (List.take (first1.toNat - 0) (List.drop 0 list2)))) ≤ big) then
              r0 (([] ++ (List.take ((List.length list2) - first1.toNat) (List.drop first1.toNat list2))) ++ (List.take (first1.toNat - 0) (List.drop 0 list2)))
            else
              none
          else
            none
        else
          none
      else
        none)
    r0
theorem spec_l09Order_gen {α : Type} (F0 : T12 α) (G3 : Nat → Int → Int → (List (Int × Int)) → (Int → Int → (List (Int × Int)) → Option α) → ((List (Int × Int)) → Option α) → Option α) (n : Nat) (list : List (Int × Int)) (κ : Res → Option α) : evFn Try.prog (spec_l09Order_XG F0 G3 n) Try.f12 (((buildDs spec_l09Order_sh [.rows .pt list]).map Prod.fst).getD []) κ = spec_l09Order_body F0 G3 n list (fun v1 => κ ⟨[.sl 34 .pt v1], []⟩) := by kernel_rfl
theorem spec_l09Order_eq {α : Type} (n : Nat) (list : List (Int × Int)) (r0 : (List (Int × Int)) → Option α) : spec_l09Order_body (α := α) spec_l09Before spec_l09Order_l3 n list r0 = spec_l09Order (α := α) n list r0 := (spec_l09Order_body.eq_1 spec_l09Before spec_l09Order_l3 n list r0).trans (spec_l09Order.eq_1 n list r0).symm
theorem spec_l09Order_rn {α : Type} (F : T2 α) (n : Nat) (list : List (Int × Int)) (κ : Res → Option α) : spec_l09Order_runG F n [.rows .pt list] κ = F n list (fun v1 => κ ⟨[.sl 34 .pt v1], []⟩) := rfl
theorem spec_l09Order_ev {α : Type} (n : Nat) (list : List (Int × Int)) (κ : Res → Option α) : evFn Try.prog (spec_l09Order_X n) Try.f12 (((buildDs spec_l09Order_sh [.rows .pt list]).map Prod.fst).getD []) κ = spec_l09Order_run n [.rows .pt list] κ := (spec_l09Order_gen spec_l09Before spec_l09Order_l3 n list κ).trans ((spec_l09Order_eq n list (fun v1 => κ ⟨[.sl 34 .pt v1], []⟩)).trans ((spec_l09Order_run.eq_1 n [.rows .pt list] κ).trans (spec_l09Order_rn spec_l09Order n list κ)).symm)
theorem spec_l09Order_en (list : List (Int × Int)) : (entry 0 (((buildDs spec_l09Order_sh [.rows .pt list]).map Prod.fst).getD [])).map (fun x => (x.1.length, x.2.lent)) = some (1, []) := by kernel_rfl
theorem spec_l09Order_good {α : Type} : ∀ n, GoodFn (α := α) Try.prog 12 (byShape spec_l09Order_sh (spec_l09Order_run n)) := by
  refine fn_good' Try.func12 (c := (Try.f12.body.getD .skip)) (by kernel_rfl) (by kernel_rfl) (by kernel_rfl) spec_l09Order_C spec_l09Order_M eqs spec_l09Order_lps spec_l09Order_jt (fun n => tabC_good (List.forall_mem_cons.2 ⟨(spec_l09Before_good n), (fun _ h => absurd h List.not_mem_nil)⟩)) eqs_ok spec_l09Order_Lt ?_ ?_ spec_l09Order_sh spec_l09Order_run ?_
  · refine List.forall_mem_cons.2 ⟨?_, (fun _ h => absurd h List.not_mem_nil)⟩
    · intro p brk ret; show spec_l09Order_u3 0 p brk ret = none; unfold spec_l09Order_u3 spec_l09Order_uG3; split <;> rfl
  · refine List.forall_mem_cons.2 ⟨?_, (fun _ h => absurd h List.not_mem_nil)⟩
    · intro np lent hL n p brk ret st r hb hr
      obtain ⟨rfl, rfl⟩ := hL
      rw [← tpl_of hb]
      change spec_l09Order_u3 (n + 1) p brk ret = some r at hr
      have hr0 := hr
      unfold spec_l09Order_u3 spec_l09Order_uG3 at hr
      split at hr
      · exact (spec_l09Order_l3_ev n _ _ _ brk ret).trans hr0
      · cases hr
  · intro n p κ r ds hd hr
    have hr0 := hr
    unfold spec_l09Order_run spec_l09Order_runG at hr
    split at hr
    · rw [← ds_of hd]
      exact ⟨en_of (spec_l09Order_en _) ⟨rfl, rfl⟩, (spec_l09Order_ev n _ κ).trans hr0⟩
    · cases hr

/-! loop.example/g01297/spec.OrderPolygon -/
def spec_OrderPolygon_sh : List SkD := [.sl 34 .pt]
def spec_OrderPolygon_runG {α : Type} (F : T13 α) (n : Nat) (p : List P1) (κ : Res → Option α) : Option α := match p with
  | [.rows .pt list] => F n list (fun v1 => κ ⟨[.nilsl, .int .i64 v1], []⟩) (fun v1 v2 => κ ⟨[.sl 34 .pt v1, .int .i64 v2], []⟩)
  | _ => none
def spec_OrderPolygon_run {α : Type} (n : Nat) (p : List P1) (κ : Res → Option α) : Option α := spec_OrderPolygon_runG spec_OrderPolygon n p κ
def spec_OrderPolygon_CG {α : Type} (F0 : T11 α) (F1 : T2 α) (n : Nat) : FuncId → List D → (Res → Option α) → Option α := tabC [(11, (byShape spec_l09Code_0M1_sh (spec_l09Code_0M1_runG F0 n))), (12, (byShape spec_l09Order_sh (spec_l09Order_runG F1 n)))]
def spec_OrderPolygon_C {α : Type} (n : Nat) : FuncId → List D → (Res → Option α) → Option α := spec_OrderPolygon_CG spec_l09Code_0M1 spec_l09Order n
def spec_OrderPolygon_M : FuncId → List Nat := tabM []
def spec_OrderPolygon_lpsG {α : Type}  : List (LoopT α) := []
def spec_OrderPolygon_lps {α : Type} : List (LoopT α) := spec_OrderPolygon_lpsG
def spec_OrderPolygon_jt : Nat → Option Tpl := jtOf []
def spec_OrderPolygon_XG {α : Type} (F0 : T11 α) (F1 : T2 α)  (n : Nat) : Ctx α := ⟨spec_OrderPolygon_CG F0 F1 n, spec_OrderPolygon_M, eqs, lpOf (spec_OrderPolygon_lpsG) n, spec_OrderPolygon_jt⟩
def spec_OrderPolygon_X {α : Type} (n : Nat) : Ctx α := spec_OrderPolygon_XG spec_l09Code_0M1 spec_l09Order n
def spec_OrderPolygon_Lt (np : Nat) (lent : List (Bool × Nat × Blk)) : Prop := np = 1 ∧ lent = []
def spec_OrderPolygon_body {α : Type} (F0 : T11 α) (F1 : T2 α)  (k : Nat) (list : List (Int × Int)) (r0 : Int → Option α) (r1 : (List (Int × Int)) → Int → Option α) : Option α :=
  F0 k list fun v =>
  bif (!decide (v = 0)) then
    r0 v
  else
    F1 k list fun v1 =>
    r1 v1 0
theorem spec_OrderPolygon_gen {α : Type} (F0 : T11 α) (F1 : T2 α)  (n : Nat) (list : List (Int × Int)) (κ : Res → Option α) : evFn Try.prog (spec_OrderPolygon_XG F0 F1 n) Try.f5 (((buildDs spec_OrderPolygon_sh [.rows .pt list]).map Prod.fst).getD []) κ = spec_OrderPolygon_body F0 F1 n list (fun v1 => κ ⟨[.nilsl, .int .i64 v1], []⟩) (fun v1 v2 => κ ⟨[.sl 34 .pt v1, .int .i64 v2], []⟩) := by kernel_rfl
theorem spec_OrderPolygon_eq {α : Type} (n : Nat) (list : List (Int × Int)) (r0 : Int → Option α) (r1 : (List (Int × Int)) → Int → Option α) : spec_OrderPolygon_body (α := α) spec_l09Code_0M1 spec_l09Order n list r0 r1 = spec_OrderPolygon (α := α) n list r0 r1 := (spec_OrderPolygon_body.eq_1 spec_l09Code_0M1 spec_l09Order n list r0 r1).trans (spec_OrderPolygon.eq_1 n list r0 r1).symm
theorem spec_OrderPolygon_rn {α : Type} (F : T13 α) (n : Nat) (list : List (Int × Int)) (κ : Res → Option α) : spec_OrderPolygon_runG F n [.rows .pt list] κ = F n list (fun v1 => κ ⟨[.nilsl, .int .i64 v1], []⟩) (fun v1 v2 => κ ⟨[.sl 34 .pt v1, .int .i64 v2], []⟩) := rfl
theorem spec_OrderPolygon_ev {α : Type} (n : Nat) (list : List (Int × Int)) (κ : Res → Option α) : evFn Try.prog (spec_OrderPolygon_X n) Try.f5 (((buildDs spec_OrderPolygon_sh [.rows .pt list]).map Prod.fst).getD []) κ = spec_OrderPolygon_run n [.rows .pt list] κ := (spec_OrderPolygon_gen spec_l09Code_0M1 spec_l09Order n list κ).trans ((spec_OrderPolygon_eq n list (fun v1 => κ ⟨[.nilsl, .int .i64 v1], []⟩) (fun v1 v2 => κ ⟨[.sl 34 .pt v1, .int .i64 v2], []⟩)).trans ((spec_OrderPolygon_run.eq_1 n [.rows .pt list] κ).trans (spec_OrderPolygon_rn spec_OrderPolygon n list κ)).symm)
theorem spec_OrderPolygon_en (list : List (Int × Int)) : (entry 0 (((buildDs spec_OrderPolygon_sh [.rows .pt list]).map Prod.fst).getD [])).map (fun x => (x.1.length, x.2.lent)) = some (1, []) := by kernel_rfl
theorem spec_OrderPolygon_good {α : Type} : ∀ n, GoodFn (α := α) Try.prog 5 (byShape spec_OrderPolygon_sh (spec_OrderPolygon_run n)) := by
  refine fn_good' Try.func5 (c := (Try.f5.body.getD .skip)) (by kernel_rfl) (by kernel_rfl) (by kernel_rfl) spec_OrderPolygon_C spec_OrderPolygon_M eqs spec_OrderPolygon_lps spec_OrderPolygon_jt (fun n => tabC_good (List.forall_mem_cons.2 ⟨(spec_l09Code_0M1_good n), (List.forall_mem_cons.2 ⟨(spec_l09Order_good n), (fun _ h => absurd h List.not_mem_nil)⟩)⟩)) eqs_ok spec_OrderPolygon_Lt ?_ ?_ spec_OrderPolygon_sh spec_OrderPolygon_run ?_
  · exact (fun _ h => absurd h List.not_mem_nil)
  · exact (fun _ h => absurd h List.not_mem_nil)
  · intro n p κ r ds hd hr
    have hr0 := hr
    unfold spec_OrderPolygon_run spec_OrderPolygon_runG at hr
    split at hr
    · rw [← ds_of hd]
      exact ⟨en_of (spec_OrderPolygon_en _) ⟨rfl, rfl⟩, (spec_OrderPolygon_ev n _ κ).trans hr0⟩
    · cases hr

/-! loop.example/g01297/impl.in -/
def impl_in_sh : List SkD := [.int .i64, .int .i64, .int .i64]
def impl_in_runG {α : Type} (F : T3 α) (n : Nat) (p : List P1) (κ : Res → Option α) : Option α := match p with
  | [.int n_, .int low, .int high] => F n n_ low high (fun v1 => κ ⟨[.bool v1], []⟩)
  | _ => none
def impl_in_run {α : Type} (n : Nat) (p : List P1) (κ : Res → Option α) : Option α := impl_in_runG impl_in n p κ
def impl_in_CG {α : Type}  (n : Nat) : FuncId → List D → (Res → Option α) → Option α := tabC []
def impl_in_C {α : Type} (n : Nat) : FuncId → List D → (Res → Option α) → Option α := impl_in_CG n
def impl_in_M : FuncId → List Nat := tabM []
def impl_in_lpsG {α : Type}  : List (LoopT α) := []
def impl_in_lps {α : Type} : List (LoopT α) := impl_in_lpsG
def impl_in_jt : Nat → Option Tpl := jtOf []
def impl_in_XG {α : Type}   (n : Nat) : Ctx α := ⟨impl_in_CG n, impl_in_M, eqs, lpOf (impl_in_lpsG) n, impl_in_jt⟩
def impl_in_X {α : Type} (n : Nat) : Ctx α := impl_in_XG n
def impl_in_Lt (np : Nat) (lent : List (Bool × Nat × Blk)) : Prop := np = 3 ∧ lent = []
def impl_in_body {α : Type}   (k : Nat) (n_ : Int) (low : Int) (high : Int) (r0 : Bool → Option α) : Option α :=
  bif decide (low ≤ n_) then
    r0 (decide (n_ ≤ high))
  else
    r0 false
theorem impl_in_gen {α : Type}   (n : Nat) (n_ : Int) (low : Int) (high : Int) (κ : Res → Option α) : evFn Try.prog (impl_in_XG n) Try.f19 (((buildDs impl_in_sh [.int n_, .int low, .int high]).map Prod.fst).getD []) κ = impl_in_body n n_ low high (fun v1 => κ ⟨[.bool v1], []⟩) := by kernel_rfl
theorem impl_in_eq {α : Type} (n : Nat) (n_ : Int) (low : Int) (high : Int) (r0 : Bool → Option α) : impl_in_body (α := α) n n_ low high r0 = impl_in (α := α) n n_ low high r0 := (impl_in_body.eq_1 n n_ low high r0).trans (impl_in.eq_1 n n_ low high r0).symm
theorem impl_in_rn {α : Type} (F : T3 α) (n : Nat) (n_ : Int) (low : Int) (high : Int) (κ : Res → Option α) : impl_in_runG F n [.int n_, .int low, .int high] κ = F n n_ low high (fun v1 => κ ⟨[.bool v1], []⟩) := rfl
theorem impl_in_ev {α : Type} (n : Nat) (n_ : Int) (low : Int) (high : Int) (κ : Res → Option α) : evFn Try.prog (impl_in_X n) Try.f19 (((buildDs impl_in_sh [.int n_, .int low, .int high]).map Prod.fst).getD []) κ = impl_in_run n [.int n_, .int low, .int high] κ := (impl_in_gen n n_ low high κ).trans ((impl_in_eq n n_ low high (fun v1 => κ ⟨[.bool v1], []⟩)).trans ((impl_in_run.eq_1 n [.int n_, .int low, .int high] κ).trans (impl_in_rn impl_in n n_ low high κ)).symm)
theorem impl_in_en (n_ : Int) (low : Int) (high : Int) : (entry 0 (((buildDs impl_in_sh [.int n_, .int low, .int high]).map Prod.fst).getD [])).map (fun x => (x.1.length, x.2.lent)) = some (3, []) := by kernel_rfl
theorem impl_in_good {α : Type} : ∀ n, GoodFn (α := α) Try.prog 19 (byShape impl_in_sh (impl_in_run n)) := by
  refine fn_good' Try.func19 (c := (Try.f19.body.getD .skip)) (by kernel_rfl) (by kernel_rfl) (by kernel_rfl) impl_in_C impl_in_M eqs impl_in_lps impl_in_jt (fun n => tabC_good (fun _ h => absurd h List.not_mem_nil)) eqs_ok impl_in_Lt ?_ ?_ impl_in_sh impl_in_run ?_
  · exact (fun _ h => absurd h List.not_mem_nil)
  · exact (fun _ h => absurd h List.not_mem_nil)
  · intro n p κ r ds hd hr
    have hr0 := hr
    unfold impl_in_run impl_in_runG at hr
    split at hr
    · rw [← ds_of hd]
      exact ⟨en_of (impl_in_en _ _ _) ⟨rfl, rfl⟩, (impl_in_ev n _ _ _ κ).trans hr0⟩
    · cases hr

/-! loop.example/g01297/impl.small -/
def impl_small_sh : List SkD := [.agg [.int .i64, .int .i64]]
def impl_small_runG {α : Type} (F : T5 α) (n : Nat) (p : List P1) (κ : Res → Option α) : Option α := match p with
  | [.int a, .int a1] => F n a a1 (fun v1 => κ ⟨[.bool v1], []⟩)
  | _ => none
def impl_small_run {α : Type} (n : Nat) (p : List P1) (κ : Res → Option α) : Option α := impl_small_runG impl_small n p κ
def impl_small_CG {α : Type} (F0 : T3 α) (n : Nat) : FuncId → List D → (Res → Option α) → Option α := tabC [(19, (byShape impl_in_sh (impl_in_runG F0 n)))]
def impl_small_C {α : Type} (n : Nat) : FuncId → List D → (Res → Option α) → Option α := impl_small_CG impl_in n
def impl_small_M : FuncId → List Nat := tabM []
def impl_small_lpsG {α : Type}  : List (LoopT α) := []
def impl_small_lps {α : Type} : List (LoopT α) := impl_small_lpsG
def impl_small_jt : Nat → Option Tpl := jtOf []
def impl_small_XG {α : Type} (F0 : T3 α)  (n : Nat) : Ctx α := ⟨impl_small_CG F0 n, impl_small_M, eqs, lpOf (impl_small_lpsG) n, impl_small_jt⟩
def impl_small_X {α : Type} (n : Nat) : Ctx α := impl_small_XG impl_in n
def impl_small_Lt (np : Nat) (lent : List (Bool × Nat × Blk)) : Prop := np = 1 ∧ lent = []
def impl_small_body {α : Type} (F0 : T3 α)  (k : Nat) (a : Int) (a1 : Int) (r0 : Bool → Option α) : Option α :=
  F0 k a (-1000) 1000 fun v =>
  bif v then
    F0 k a1 (-1000) 1000 fun v1 =>
    r0 v1
  else
    r0 false
theorem impl_small_gen {α : Type} (F0 : T3 α)  (n : Nat) (a : Int) (a1 : Int) (κ : Res → Option α) : evFn Try.prog (impl_small_XG F0 n) Try.f22 (((buildDs impl_small_sh [.int a, .int a1]).map Prod.fst).getD []) κ = impl_small_body F0 n a a1 (fun v1 => κ ⟨[.bool v1], []⟩) := by kernel_rfl
theorem impl_small_eq {α : Type} (n : Nat) (a : Int) (a1 : Int) (r0 : Bool → Option α) : impl_small_body (α := α) impl_in n a a1 r0 = impl_small (α := α) n a a1 r0 := (impl_small_body.eq_1 impl_in n a a1 r0).trans (impl_small.eq_1 n a a1 r0).symm
theorem impl_small_rn {α : Type} (F : T5 α) (n : Nat) (a : Int) (a1 : Int) (κ : Res → Option α) : impl_small_runG F n [.int a, .int a1] κ = F n a a1 (fun v1 => κ ⟨[.bool v1], []⟩) := rfl
theorem impl_small_ev {α : Type} (n : Nat) (a : Int) (a1 : Int) (κ : Res → Option α) : evFn Try.prog (impl_small_X n) Try.f22 (((buildDs impl_small_sh [.int a, .int a1]).map Prod.fst).getD []) κ = impl_small_run n [.int a, .int a1] κ := (impl_small_gen impl_in n a a1 κ).trans ((impl_small_eq n a a1 (fun v1 => κ ⟨[.bool v1], []⟩)).trans ((impl_small_run.eq_1 n [.int a, .int a1] κ).trans (impl_small_rn impl_small n a a1 κ)).symm)
theorem impl_small_en (a : Int) (a1 : Int) : (entry 0 (((buildDs impl_small_sh [.int a, .int a1]).map Prod.fst).getD [])).map (fun x => (x.1.length, x.2.lent)) = some (1, []) := by kernel_rfl
theorem impl_small_good {α : Type} : ∀ n, GoodFn (α := α) Try.prog 22 (byShape impl_small_sh (impl_small_run n)) := by
  refine fn_good' Try.func22 (c := (Try.f22.body.getD .skip)) (by kernel_rfl) (by kernel_rfl) (by kernel_rfl) impl_small_C impl_small_M eqs impl_small_lps impl_small_jt (fun n => tabC_good (List.forall_mem_cons.2 ⟨(impl_in_good n), (fun _ h => absurd h List.not_mem_nil)⟩)) eqs_ok impl_small_Lt ?_ ?_ impl_small_sh impl_small_run ?_
  · exact (fun _ h => absurd h List.not_mem_nil)
  · exact (fun _ h => absurd h List.not_mem_nil)
  · intro n p κ r ds hd hr
    have hr0 := hr
    unfold impl_small_run impl_small_runG at hr
    split at hr
    · rw [← ds_of hd]
      exact ⟨en_of (impl_small_en _ _) ⟨rfl, rfl⟩, (impl_small_ev n _ _ κ).trans hr0⟩
    · cases hr

/-! loop.example/g01297/impl.IsPolygon$1 -/
def impl_IsPolygon_1_sh : List SkD := [.agg [.int .i64, .int .i64]]
def impl_IsPolygon_1_runG {α : Type} (F : T5 α) (n : Nat) (p : List P1) (κ : Res → Option α) : Option α := match p with
  | [.int a, .int a1] => F n a a1 (fun v1 => κ ⟨[.bool v1], []⟩)
  | _ => none
def impl_IsPolygon_1_run {α : Type} (n : Nat) (p : List P1) (κ : Res → Option α) : Option α := impl_IsPolygon_1_runG impl_IsPolygon_1 n p κ
def impl_IsPolygon_1_CG {α : Type} (F0 : T5 α) (n : Nat) : FuncId → List D → (Res → Option α) → Option α := tabC [(22, (byShape impl_small_sh (impl_small_runG F0 n)))]
def impl_IsPolygon_1_C {α : Type} (n : Nat) : FuncId → List D → (Res → Option α) → Option α := impl_IsPolygon_1_CG impl_small n
def impl_IsPolygon_1_M : FuncId → List Nat := tabM []
def impl_IsPolygon_1_lpsG {α : Type}  : List (LoopT α) := []
def impl_IsPolygon_1_lps {α : Type} : List (LoopT α) := impl_IsPolygon_1_lpsG
def impl_IsPolygon_1_jt : Nat → Option Tpl := jtOf []
def impl_IsPolygon_1_XG {α : Type} (F0 : T5 α)  (n : Nat) : Ctx α := ⟨impl_IsPolygon_1_CG F0 n, impl_IsPolygon_1_M, eqs, lpOf (impl_IsPolygon_1_lpsG) n, impl_IsPolygon_1_jt⟩
def impl_IsPolygon_1_X {α : Type} (n : Nat) : Ctx α := impl_IsPolygon_1_XG impl_small n
def impl_IsPolygon_1_Lt (np : Nat) (lent : List (Bool × Nat × Blk)) : Prop := np = 1 ∧ lent = []
def impl_IsPolygon_1_body {α : Type} (F0 : T5 α)  (k : Nat) (a : Int) (a1 : Int) (r0 : Bool → Option α) : Option α :=
  F0 k a a1 fun v =>
  r0 (!v)
theorem impl_IsPolygon_1_gen {α : Type} (F0 : T5 α)  (n : Nat) (a : Int) (a1 : Int) (κ : Res → Option α) : evFn Try.prog (impl_IsPolygon_1_XG F0 n) Try.f21 (((buildDs impl_IsPolygon_1_sh [.int a, .int a1]).map Prod.fst).getD []) κ = impl_IsPolygon_1_body F0 n a a1 (fun v1 => κ ⟨[.bool v1], []⟩) := by kernel_rfl
theorem impl_IsPolygon_1_eq {α : Type} (n : Nat) (a : Int) (a1 : Int) (r0 : Bool → Option α) : impl_IsPolygon_1_body (α := α) impl_small n a a1 r0 = impl_IsPolygon_1 (α := α) n a a1 r0 := (impl_IsPolygon_1_body.eq_1 impl_small n a a1 r0).trans (impl_IsPolygon_1.eq_1 n a a1 r0).symm
theorem impl_IsPolygon_1_rn {α : Type} (F : T5 α) (n : Nat) (a : Int) (a1 : Int) (κ : Res → Option α) : impl_IsPolygon_1_runG F n [.int a, .int a1] κ = F n a a1 (fun v1 => κ ⟨[.bool v1], []⟩) := rfl
theorem impl_IsPolygon_1_ev {α : Type} (n : Nat) (a : Int) (a1 : Int) (κ : Res → Option α) : evFn Try.prog (impl_IsPolygon_1_X n) Try.f21 (((buildDs impl_IsPolygon_1_sh [.int a, .int a1]).map Prod.fst).getD []) κ = impl_IsPolygon_1_run n [.int a, .int a1] κ := (impl_IsPolygon_1_gen impl_small n a a1 κ).trans ((impl_IsPolygon_1_eq n a a1 (fun v1 => κ ⟨[.bool v1], []⟩)).trans ((impl_IsPolygon_1_run.eq_1 n [.int a, .int a1] κ).trans (impl_IsPolygon_1_rn impl_IsPolygon_1 n a a1 κ)).symm)
theorem impl_IsPolygon_1_en (a : Int) (a1 : Int) : (entry 0 (((buildDs impl_IsPolygon_1_sh [.int a, .int a1]).map Prod.fst).getD [])).map (fun x => (x.1.length, x.2.lent)) = some (1, []) := by kernel_rfl
theorem impl_IsPolygon_1_good {α : Type} : ∀ n, GoodFn (α := α) Try.prog 21 (byShape impl_IsPolygon_1_sh (impl_IsPolygon_1_run n)) := by
  refine fn_good' Try.func21 (c := (Try.f21.body.getD .skip)) (by kernel_rfl) (by kernel_rfl) (by kernel_rfl) impl_IsPolygon_1_C impl_IsPolygon_1_M eqs impl_IsPolygon_1_lps impl_IsPolygon_1_jt (fun n => tabC_good (List.forall_mem_cons.2 ⟨(impl_small_good n), (fun _ h => absurd h List.not_mem_nil)⟩)) eqs_ok impl_IsPolygon_1_Lt ?_ ?_ impl_IsPolygon_1_sh impl_IsPolygon_1_run ?_
  · exact (fun _ h => absurd h List.not_mem_nil)
  · exact (fun _ h => absurd h List.not_mem_nil)
  · intro n p κ r ds hd hr
    have hr0 := hr
    unfold impl_IsPolygon_1_run impl_IsPolygon_1_runG at hr
    split at hr
    · rw [← ds_of hd]
      exact ⟨en_of (impl_IsPolygon_1_en _ _) ⟨rfl, rfl⟩, (impl_IsPolygon_1_ev n _ _ κ).trans hr0⟩
    · cases hr

/-! slices.IndexFunc[[]loop.example/g01297/impl.Point,loop.example/g01297/impl.Point] -/
def slices_IndexFunc_impl_Point_impl_Point_1F_impl_IsPolygon_1_sh : List SkD := [.sl 34 .pt, .fn 21 []]
def slices_IndexFunc_impl_Point_impl_Point_1F_impl_IsPolygon_1_runG {α : Type} (F : T11 α) (n : Nat) (p : List P1) (κ : Res → Option α) : Option α := match p with
  | [.rows .pt s] => F n s (fun v1 => κ ⟨[.int .i64 v1], []⟩)
  | _ => none
def slices_IndexFunc_impl_Point_impl_Point_1F_impl_IsPolygon_1_run {α : Type} (n : Nat) (p : List P1) (κ : Res → Option α) : Option α := slices_IndexFunc_impl_Point_impl_Point_1F_impl_IsPolygon_1_runG slices_IndexFunc_impl_Point_impl_Point_1F_impl_IsPolygon_1 n p κ
def slices_IndexFunc_impl_Point_impl_Point_1F_impl_IsPolygon_1_CG {α : Type} (F0 : T5 α) (n : Nat) : FuncId → List D → (Res → Option α) → Option α := tabC [(21, (byShape impl_IsPolygon_1_sh (impl_IsPolygon_1_runG F0 n)))]
def slices_IndexFunc_impl_Point_impl_Point_1F_impl_IsPolygon_1_C {α : Type} (n : Nat) : FuncId → List D → (Res → Option α) → Option α := slices_IndexFunc_impl_Point_impl_Point_1F_impl_IsPolygon_1_CG impl_IsPolygon_1 n
def slices_IndexFunc_impl_Point_impl_Point_1F_impl_IsPolygon_1_M : FuncId → List Nat := tabM []
def slices_IndexFunc_impl_Point_impl_Point_1F_impl_IsPolygon_1_t2 : Tpl := ⟨[.sl 0, .fn 21 [], .any, .any, .any, .any, .any, .int .i64, .int .i64, .any, .any, .any, .any, .any, .any, .any, .any, .any, .any], [(0, .rows 0 34 .pt)], []⟩
def slices_IndexFunc_impl_Point_impl_Point_1F_impl_IsPolygon_1_uG2 {α : Type} (G : Nat → Int → Int → (List (Int × Int)) → (Int → Int → (List (Int × Int)) → Option α) → (Int → Option α) → Option α) (n : Nat) (p : List P1) (brk : Nat → List P1 → Option α) (ret : Res → Option α) : Option α := match p with
  | [.int x, .int x1, .rows .pt s1] => G n x x1 s1 (fun x x1 s1 => brk 0 [.int x, .int x1, .rows .pt s1]) (fun v1 => ret ⟨[.int .i64 v1], []⟩)
  | _ => none
def slices_IndexFunc_impl_Point_impl_Point_1F_impl_IsPolygon_1_u2 {α : Type} (n : Nat) (p : List P1) (brk : Nat → List P1 → Option α) (ret : Res → Option α) : Option α := slices_IndexFunc_impl_Point_impl_Point_1F_impl_IsPolygon_1_uG2 slices_IndexFunc_impl_Point_impl_Point_1F_impl_IsPolygon_1_l2 n p brk ret
def slices_IndexFunc_impl_Point_impl_Point_1F_impl_IsPolygon_1_lpsG {α : Type} (G2 : Nat → Int → Int → (List (Int × Int)) → (Int → Int → (List (Int × Int)) → Option α) → (Int → Option α) → Option α) : List (LoopT α) := [⟨2, slices_IndexFunc_impl_Point_impl_Point_1F_impl_IsPolygon_1_t2, slices_IndexFunc_impl_Point_impl_Point_1F_impl_IsPolygon_1_uG2 G2⟩]
def slices_IndexFunc_impl_Point_impl_Point_1F_impl_IsPolygon_1_lps {α : Type} : List (LoopT α) := slices_IndexFunc_impl_Point_impl_Point_1F_impl_IsPolygon_1_lpsG slices_IndexFunc_impl_Point_impl_Point_1F_impl_IsPolygon_1_l2
def slices_IndexFunc_impl_Point_impl_Point_1F_impl_IsPolygon_1_jt : Nat → Option Tpl := jtOf []
def slices_IndexFunc_impl_Point_impl_Point_1F_impl_IsPolygon_1_XG {α : Type} (F0 : T5 α) (G2 : Nat → Int → Int → (List (Int × Int)) → (Int → Int → (List (Int × Int)) → Option α) → (Int → Option α) → Option α) (n : Nat) : Ctx α := ⟨slices_IndexFunc_impl_Point_impl_Point_1F_impl_IsPolygon_1_CG F0 n, slices_IndexFunc_impl_Point_impl_Point_1F_impl_IsPolygon_1_M, eqs, lpOf (slices_IndexFunc_impl_Point_impl_Point_1F_impl_IsPolygon_1_lpsG G2) n, slices_IndexFunc_impl_Point_impl_Point_1F_impl_IsPolygon_1_jt⟩
def slices_IndexFunc_impl_Point_impl_Point_1F_impl_IsPolygon_1_X {α : Type} (n : Nat) : Ctx α := slices_IndexFunc_impl_Point_impl_Point_1F_impl_IsPolygon_1_XG impl_IsPolygon_1 slices_IndexFunc_impl_Point_impl_Point_1F_impl_IsPolygon_1_l2 n
def slices_IndexFunc_impl_Point_impl_Point_1F_impl_IsPolygon_1_Lt (np : Nat) (lent : List (Bool × Nat × Blk)) : Prop := np = 2 ∧ lent = []
def slices_IndexFunc_impl_Point_impl_Point_1F_impl_IsPolygon_1_lb2 {α : Type} (F0 : T5 α) (G2 : Nat → Int → Int → (List (Int × Int)) → (Int → Int → (List (Int × Int)) → Option α) → (Int → Option α) → Option α) (k : Nat) (x : Int) (x1 : Int) (s1 : List (Int × Int)) (b0 : Int → Int → (List (Int × Int)) → Option α) (r0 : Int → Option α) : Option α :=
  bif decide (x1 < x) then
    bif (decide (0 ≤ x1) && decide (x1 < (((List.length s1) : Nat) : Int))) then
      (s1[x1.toNat]?).bind fun e_ =>
      F0 k e_.1 e_.2 fun v =>
      bif v then
        r0 x1
      else
        G2 k x (w64 (x1 + 1)) s1 b0 r0
    else
      none
  else
    b0 x x1 s1
theorem slices_IndexFunc_impl_Point_impl_Point_1F_impl_IsPolygon_1_l2_gen {α : Type} (F0 : T5 α) (G2 : Nat → Int → Int → (List (Int × Int)) → (Int → Int → (List (Int × Int)) → Option α) → (Int → Option α) → Option α) (n : Nat) (x : Int) (x1 : Int) (s1 : List (Int × Int)) (brk : Nat → List P1 → Option α) (ret : Res → Option α) : ev ((slices_IndexFunc_impl_Point_impl_Point_1F_impl_IsPolygon_1_XG F0 G2 n).env Try.prog Try.f33 2 []) (findLoop (loopsIn (Try.f33.body.getD .skip)) 2) ((slices_IndexFunc_impl_Point_impl_Point_1F_impl_IsPolygon_1_t2.build [.int x, .int x1, .rows .pt s1]).getD ⟨[], []⟩) (roundK (2 * 64) slices_IndexFunc_impl_Point_impl_Point_1F_impl_IsPolygon_1_t2 (fun q => slices_IndexFunc_impl_Point_impl_Point_1F_impl_IsPolygon_1_uG2 G2 n q brk ret) brk ret) = slices_IndexFunc_impl_Point_impl_Point_1F_impl_IsPolygon_1_lb2 F0 G2 n x x1 s1 (fun x x1 s1 => brk 0 [.int x, .int x1, .rows .pt s1]) (fun v1 => ret ⟨[.int .i64 v1], []⟩) := by kernel_rfl
theorem slices_IndexFunc_impl_Point_impl_Point_1F_impl_IsPolygon_1_l2_eq {α : Type} (k : Nat) (x : Int) (x1 : Int) (s1 : List (Int × Int)) (b0 : Int → Int → (List (Int × Int)) → Option α) (r0 : Int → Option α) : slices_IndexFunc_impl_Point_impl_Point_1F_impl_IsPolygon_1_lb2 impl_IsPolygon_1 slices_IndexFunc_impl_Point_impl_Point_1F_impl_IsPolygon_1_l2 k x x1 s1 b0 r0 = slices_IndexFunc_impl_Point_impl_Point_1F_impl_IsPolygon_1_l2 (k + 1) x x1 s1 b0 r0 := (slices_IndexFunc_impl_Point_impl_Point_1F_impl_IsPolygon_1_lb2.eq_1 impl_IsPolygon_1 slices_IndexFunc_impl_Point_impl_Point_1F_impl_IsPolygon_1_l2 k x x1 s1 b0 r0).trans (show slices_IndexFunc_impl_Point_impl_Point_1F_impl_IsPolygon_1_l2 (k + 1) x x1 s1 b0 r0 = _ from slices_IndexFunc_impl_Point_impl_Point_1F_impl_IsPolygon_1_l2.eq_2 _ _ _ _ _ _ ).symm
theorem slices_IndexFunc_impl_Point_impl_Point_1F_impl_IsPolygon_1_l2_rn {α : Type} (G : Nat → Int → Int → (List (Int × Int)) → (Int → Int → (List (Int × Int)) → Option α) → (Int → Option α) → Option α) (n : Nat) (x : Int) (x1 : Int) (s1 : List (Int × Int)) (brk : Nat → List P1 → Option α) (ret : Res → Option α) : slices_IndexFunc_impl_Point_impl_Point_1F_impl_IsPolygon_1_uG2 G n [.int x, .int x1, .rows .pt s1] brk ret = G n x x1 s1 (fun x x1 s1 => brk 0 [.int x, .int x1, .rows .pt s1]) (fun v1 => ret ⟨[.int .i64 v1], []⟩) := rfl
theorem slices_IndexFunc_impl_Point_impl_Point_1F_impl_IsPolygon_1_l2_ev {α : Type} (n : Nat) (x : Int) (x1 : Int) (s1 : List (Int × Int)) (brk : Nat → List P1 → Option α) (ret : Res → Option α) : ev ((slices_IndexFunc_impl_Point_impl_Point_1F_impl_IsPolygon_1_X n).env Try.prog Try.f33 2 []) (findLoop (loopsIn (Try.f33.body.getD .skip)) 2) ((slices_IndexFunc_impl_Point_impl_Point_1F_impl_IsPolygon_1_t2.build [.int x, .int x1, .rows .pt s1]).getD ⟨[], []⟩) (roundK (2 * 64) slices_IndexFunc_impl_Point_impl_Point_1F_impl_IsPolygon_1_t2 (fun q => slices_IndexFunc_impl_Point_impl_Point_1F_impl_IsPolygon_1_u2 n q brk ret) brk ret) = slices_IndexFunc_impl_Point_impl_Point_1F_impl_IsPolygon_1_u2 (n + 1) [.int x, .int x1, .rows .pt s1] brk ret := (slices_IndexFunc_impl_Point_impl_Point_1F_impl_IsPolygon_1_l2_gen impl_IsPolygon_1 slices_IndexFunc_impl_Point_impl_Point_1F_impl_IsPolygon_1_l2 n x x1 s1 brk ret).trans ((slices_IndexFunc_impl_Point_impl_Point_1F_impl_IsPolygon_1_l2_eq n x x1 s1 (fun x x1 s1 => brk 0 [.int x, .int x1, .rows .pt s1]) (fun v1 => ret ⟨[.int .i64 v1], []⟩)).trans ((slices_IndexFunc_impl_Point_impl_Point_1F_impl_IsPolygon_1_u2.eq_1 (n + 1) [.int x, .int x1, .rows .pt s1] brk ret).trans (slices_IndexFunc_impl_Point_impl_Point_1F_impl_IsPolygon_1_l2_rn slices_IndexFunc_impl_Point_impl_Point_1F_impl_IsPolygon_1_l2 (n + 1) x x1 s1 brk ret)).symm)
def slices_IndexFunc_impl_Point_impl_Point_1F_impl_IsPolygon_1_body {α : Type} (F0 : T5 α) (G2 : Nat → Int → Int → (List (Int × Int)) → (Int → Int → (List (Int × Int)) → Option α) → (Int → Option α) → Option α) (k : Nat) (s : List (Int × Int)) (r0 : Int → Option α) : Option α :=
  G2 k (((List.length s) : Nat) : Int) 0 s
    (fun _ _ _ =>
      r0 (-1))
    r0
theorem slices_IndexFunc_impl_Point_impl_Point_1F_impl_IsPolygon_1_gen {α : Type} (F0 : T5 α) (G2 : Nat → Int → Int → (List (Int × Int)) → (Int → Int → (List (Int × Int)) → Option α) → (Int → Option α) → Option α) (n : Nat) (s : List (Int × Int)) (κ : Res → Option α) : evFn Try.prog (slices_IndexFunc_impl_Point_impl_Point_1F_impl_IsPolygon_1_XG F0 G2 n) Try.f33 (((buildDs slices_IndexFunc_impl_Point_impl_Point_1F_impl_IsPolygon_1_sh [.rows .pt s]).map Prod.fst).getD []) κ = slices_IndexFunc_impl_Point_impl_Point_1F_impl_IsPolygon_1_body F0 G2 n s (fun v1 => κ ⟨[.int .i64 v1], []⟩) := by kernel_rfl
theorem slices_IndexFunc_impl_Point_impl_Point_1F_impl_IsPolygon_1_eq {α : Type} (n : Nat) (s : List (Int × Int)) (r0 : Int → Option α) : slices_IndexFunc_impl_Point_impl_Point_1F_impl_IsPolygon_1_body (α := α) impl_IsPolygon_1 slices_IndexFunc_impl_Point_impl_Point_1F_impl_IsPolygon_1_l2 n s r0 = slices_IndexFunc_impl_Point_impl_Point_1F_impl_IsPolygon_1 (α := α) n s r0 := (slices_IndexFunc_impl_Point_impl_Point_1F_impl_IsPolygon_1_body.eq_1 impl_IsPolygon_1 slices_IndexFunc_impl_Point_impl_Point_1F_impl_IsPolygon_1_l2 n s r0).trans (slices_IndexFunc_impl_Point_impl_Point_1F_impl_IsPolygon_1.eq_1 n s r0).symm
theorem slices_IndexFunc_impl_Point_impl_Point_1F_impl_IsPolygon_1_rn {α : Type} (F : T11 α) (n : Nat) (s : List (Int × Int)) (κ : Res → Option α) : slices_IndexFunc_impl_Point_impl_Point_1F_impl_IsPolygon_1_runG F n [.rows .pt s] κ = F n s (fun v1 => κ ⟨[.int .i64 v1], []⟩) := rfl
theorem slices_IndexFunc_impl_Point_impl_Point_1F_impl_IsPolygon_1_ev {α : Type} (n : Nat) (s : List (Int × Int)) (κ : Res → Option α) : evFn Try.prog (slices_IndexFunc_impl_Point_impl_Point_1F_impl_IsPolygon_1_X n) Try.f33 (((buildDs slices_IndexFunc_impl_Point_impl_Point_1F_impl_IsPolygon_1_sh [.rows .pt s]).map Prod.fst).getD []) κ = slices_IndexFunc_impl_Point_impl_Point_1F_impl_IsPolygon_1_run n [.rows .pt s] κ := (slices_IndexFunc_impl_Point_impl_Point_1F_impl_IsPolygon_1_gen impl_IsPolygon_1 slices_IndexFunc_impl_Point_impl_Point_1F_impl_IsPolygon_1_l2 n s κ).trans ((slices_IndexFunc_impl_Point_impl_Point_1F_impl_IsPolygon_1_eq n s (fun v1 => κ ⟨[.int .i64 v1], []⟩)).trans ((slices_IndexFunc_impl_Point_impl_Point_1F_impl_IsPolygon_1_run.eq_1 n [.rows .pt s] κ).trans (slices_IndexFunc_impl_Point_impl_Point_1F_impl_IsPolygon_1_rn slices_IndexFunc_impl_Point_impl_Point_1F_impl_IsPolygon_1 n s κ)).symm)
theorem slices_IndexFunc_impl_Point_impl_Point_1F_impl_IsPolygon_1_en (s : List (Int × Int)) : (entry 0 (((buildDs slices_IndexFunc_impl_Point_impl_Point_1F_impl_IsPolygon_1_sh [.rows .pt s]).map Prod.fst).getD [])).map (fun x => (x.1.length, x.2.lent)) = some (2, []) := by kernel_rfl
theorem slices_IndexFunc_impl_Point_impl_Point_1F_impl_IsPolygon_1_good {α : Type} : ∀ n, GoodFn (α := α) Try.prog 33 (byShape slices_IndexFunc_impl_Point_impl_Point_1F_impl_IsPolygon_1_sh (slices_IndexFunc_impl_Point_impl_Point_1F_impl_IsPolygon_1_run n)) := by
  refine fn_good' Try.func33 (c := (Try.f33.body.getD .skip)) (by kernel_rfl) (by kernel_rfl) (by kernel_rfl) slices_IndexFunc_impl_Point_impl_Point_1F_impl_IsPolygon_1_C slices_IndexFunc_impl_Point_impl_Point_1F_impl_IsPolygon_1_M eqs slices_IndexFunc_impl_Point_impl_Point_1F_impl_IsPolygon_1_lps slices_IndexFunc_impl_Point_impl_Point_1F_impl_IsPolygon_1_jt (fun n => tabC_good (List.forall_mem_cons.2 ⟨(impl_IsPolygon_1_good n), (fun _ h => absurd h List.not_mem_nil)⟩)) eqs_ok slices_IndexFunc_impl_Point_impl_Point_1F_impl_IsPolygon_1_Lt ?_ ?_ slices_IndexFunc_impl_Point_impl_Point_1F_impl_IsPolygon_1_sh slices_IndexFunc_impl_Point_impl_Point_1F_impl_IsPolygon_1_run ?_
  · refine List.forall_mem_cons.2 ⟨?_, (fun _ h => absurd h List.not_mem_nil)⟩
    · intro p brk ret; show slices_IndexFunc_impl_Point_impl_Point_1F_impl_IsPolygon_1_u2 0 p brk ret = none; unfold slices_IndexFunc_impl_Point_impl_Point_1F_impl_IsPolygon_1_u2 slices_IndexFunc_impl_Point_impl_Point_1F_impl_IsPolygon_1_uG2; split <;> rfl
  · refine List.forall_mem_cons.2 ⟨?_, (fun _ h => absurd h List.not_mem_nil)⟩
    · intro np lent hL n p brk ret st r hb hr
      obtain ⟨rfl, rfl⟩ := hL
      rw [← tpl_of hb]
      change slices_IndexFunc_impl_Point_impl_Point_1F_impl_IsPolygon_1_u2 (n + 1) p brk ret = some r at hr
      have hr0 := hr
      unfold slices_IndexFunc_impl_Point_impl_Point_1F_impl_IsPolygon_1_u2 slices_IndexFunc_impl_Point_impl_Point_1F_impl_IsPolygon_1_uG2 at hr
      split at hr
      · exact (slices_IndexFunc_impl_Point_impl_Point_1F_impl_IsPolygon_1_l2_ev n _ _ _ brk ret).trans hr0
      · cases hr
  · intro n p κ r ds hd hr
    have hr0 := hr
    unfold slices_IndexFunc_impl_Point_impl_Point_1F_impl_IsPolygon_1_run slices_IndexFunc_impl_Point_impl_Point_1F_impl_IsPolygon_1_runG at hr
    split at hr
    · rw [← ds_of hd]
      exact ⟨en_of (slices_IndexFunc_impl_Point_impl_Point_1F_impl_IsPolygon_1_en _) ⟨rfl, rfl⟩, (slices_IndexFunc_impl_Point_impl_Point_1F_impl_IsPolygon_1_ev n _ κ).trans hr0⟩
    · cases hr

/-! slices.ContainsFunc[[]loop.example/g01297/impl.Point,loop.example/g01297/impl.Point] -/
def slices_ContainsFunc_impl_Point_impl_Point_1F_impl_IsPolygon_1_sh : List SkD := [.sl 34 .pt, .fn 21 []]
def slices_ContainsFunc_impl_Point_impl_Point_1F_impl_IsPolygon_1_runG {α : Type} (F : T10 α) (n : Nat) (p : List P1) (κ : Res → Option α) : Option α := match p with
  | [.rows .pt s] => F n s (fun v1 => κ ⟨[.bool v1], []⟩)
  | _ => none
def slices_ContainsFunc_impl_Point_impl_Point_1F_impl_IsPolygon_1_run {α : Type} (n : Nat) (p : List P1) (κ : Res → Option α) : Option α := slices_ContainsFunc_impl_Point_impl_Point_1F_impl_IsPolygon_1_runG slices_ContainsFunc_impl_Point_impl_Point_1F_impl_IsPolygon_1 n p κ
def slices_ContainsFunc_impl_Point_impl_Point_1F_impl_IsPolygon_1_CG {α : Type} (F0 : T11 α) (n : Nat) : FuncId → List D → (Res → Option α) → Option α := tabC [(33, (byShape slices_IndexFunc_impl_Point_impl_Point_1F_impl_IsPolygon_1_sh (slices_IndexFunc_impl_Point_impl_Point_1F_impl_IsPolygon_1_runG F0 n)))]
def slices_ContainsFunc_impl_Point_impl_Point_1F_impl_IsPolygon_1_C {α : Type} (n : Nat) : FuncId → List D → (Res → Option α) → Option α := slices_ContainsFunc_impl_Point_impl_Point_1F_impl_IsPolygon_1_CG slices_IndexFunc_impl_Point_impl_Point_1F_impl_IsPolygon_1 n
def slices_ContainsFunc_impl_Point_impl_Point_1F_impl_IsPolygon_1_M : FuncId → List Nat := tabM []
def slices_ContainsFunc_impl_Point_impl_Point_1F_impl_IsPolygon_1_lpsG {α : Type}  : List (LoopT α) := []
def slices_ContainsFunc_impl_Point_impl_Point_1F_impl_IsPolygon_1_lps {α : Type} : List (LoopT α) := slices_ContainsFunc_impl_Point_impl_Point_1F_impl_IsPolygon_1_lpsG
def slices_ContainsFunc_impl_Point_impl_Point_1F_impl_IsPolygon_1_jt : Nat → Option Tpl := jtOf []
def slices_ContainsFunc_impl_Point_impl_Point_1F_impl_IsPolygon_1_XG {α : Type} (F0 : T11 α)  (n : Nat) : Ctx α := ⟨slices_ContainsFunc_impl_Point_impl_Point_1F_impl_IsPolygon_1_CG F0 n, slices_ContainsFunc_impl_Point_impl_Point_1F_impl_IsPolygon_1_M, eqs, lpOf (slices_ContainsFunc_impl_Point_impl_Point_1F_impl_IsPolygon_1_lpsG) n, slices_ContainsFunc_impl_Point_impl_Point_1F_impl_IsPolygon_1_jt⟩
def slices_ContainsFunc_impl_Point_impl_Point_1F_impl_IsPolygon_1_X {α : Type} (n : Nat) : Ctx α := slices_ContainsFunc_impl_Point_impl_Point_1F_impl_IsPolygon_1_XG slices_IndexFunc_impl_Point_impl_Point_1F_impl_IsPolygon_1 n
def slices_ContainsFunc_impl_Point_impl_Point_1F_impl_IsPolygon_1_Lt (np : Nat) (lent : List (Bool × Nat × Blk)) : Prop := np = 2 ∧ lent = []
def slices_ContainsFunc_impl_Point_impl_Point_1F_impl_IsPolygon_1_body {α : Type} (F0 : T11 α)  (k : Nat) (s : List (Int × Int)) (r0 : Bool → Option α) : Option α :=
  F0 k s fun v =>
  r0 (decide (0 ≤ v))
theorem slices_ContainsFunc_impl_Point_impl_Point_1F_impl_IsPolygon_1_gen {α : Type} (F0 : T11 α)  (n : Nat) (s : List (Int × Int)) (κ : Res → Option α) : evFn Try.prog (slices_ContainsFunc_impl_Point_impl_Point_1F_impl_IsPolygon_1_XG F0 n) Try.f20 (((buildDs slices_ContainsFunc_impl_Point_impl_Point_1F_impl_IsPolygon_1_sh [.rows .pt s]).map Prod.fst).getD []) κ = slices_ContainsFunc_impl_Point_impl_Point_1F_impl_IsPolygon_1_body F0 n s (fun v1 => κ ⟨[.bool v1], []⟩) := by kernel_rfl
theorem slices_ContainsFunc_impl_Point_impl_Point_1F_impl_IsPolygon_1_eq {α : Type} (n : Nat) (s : List (Int × Int)) (r0 : Bool → Option α) : slices_ContainsFunc_impl_Point_impl_Point_1F_impl_IsPolygon_1_body (α := α) slices_IndexFunc_impl_Point_impl_Point_1F_impl_IsPolygon_1 n s r0 = slices_ContainsFunc_impl_Point_impl_Point_1F_impl_IsPolygon_1 (α := α) n s r0 := (slices_ContainsFunc_impl_Point_impl_Point_1F_impl_IsPolygon_1_body.eq_1 slices_IndexFunc_impl_Point_impl_Point_1F_impl_IsPolygon_1 n s r0).trans (slices_ContainsFunc_impl_Point_impl_Point_1F_impl_IsPolygon_1.eq_1 n s r0).symm
theorem slices_ContainsFunc_impl_Point_impl_Point_1F_impl_IsPolygon_1_rn {α : Type} (F : T10 α) (n : Nat) (s : List (Int × Int)) (κ : Res → Option α) : slices_ContainsFunc_impl_Point_impl_Point_1F_impl_IsPolygon_1_runG F n [.rows .pt s] κ = F n s (fun v1 => κ ⟨[.bool v1], []⟩) := rfl
theorem slices_ContainsFunc_impl_Point_impl_Point_1F_impl_IsPolygon_1_ev {α : Type} (n : Nat) (s : List (Int × Int)) (κ : Res → Option α) : evFn Try.prog (slices_ContainsFunc_impl_Point_impl_Point_1F_impl_IsPolygon_1_X n) Try.f20 (((buildDs slices_ContainsFunc_impl_Point_impl_Point_1F_impl_IsPolygon_1_sh [.rows .pt s]).map Prod.fst).getD []) κ = slices_ContainsFunc_impl_Point_impl_Point_1F_impl_IsPolygon_1_run n [.rows .pt s] κ := (slices_ContainsFunc_impl_Point_impl_Point_1F_impl_IsPolygon_1_gen slices_IndexFunc_impl_Point_impl_Point_1F_impl_IsPolygon_1 n s κ).trans ((slices_ContainsFunc_impl_Point_impl_Point_1F_impl_IsPolygon_1_eq n s (fun v1 => κ ⟨[.bool v1], []⟩)).trans ((slices_ContainsFunc_impl_Point_impl_Point_1F_impl_IsPolygon_1_run.eq_1 n [.rows .pt s] κ).trans (slices_ContainsFunc_impl_Point_impl_Point_1F_impl_IsPolygon_1_rn slices_ContainsFunc_impl_Point_impl_Point_1F_impl_IsPolygon_1 n s κ)).symm)
theorem slices_ContainsFunc_impl_Point_impl_Point_1F_impl_IsPolygon_1_en (s : List (Int × Int)) : (entry 0 (((buildDs slices_ContainsFunc_impl_Point_impl_Point_1F_impl_IsPolygon_1_sh [.rows .pt s]).map Prod.fst).getD [])).map (fun x => (x.1.length, x.2.lent)) = some (2, []) := by kernel_rfl
theorem slices_ContainsFunc_impl_Point_impl_Point_1F_impl_IsPolygon_1_good {α : Type} : ∀ n, GoodFn (α := α) Try.prog 20 (byShape slices_ContainsFunc_impl_Point_impl_Point_1F_impl_IsPolygon_1_sh (slices_ContainsFunc_impl_Point_impl_Point_1F_impl_IsPolygon_1_run n)) := by
  refine fn_good' Try.func20 (c := (Try.f20.body.getD .skip)) (by kernel_rfl) (by kernel_rfl) (by kernel_rfl) slices_ContainsFunc_impl_Point_impl_Point_1F_impl_IsPolygon_1_C slices_ContainsFunc_impl_Point_impl_Point_1F_impl_IsPolygon_1_M eqs slices_ContainsFunc_impl_Point_impl_Point_1F_impl_IsPolygon_1_lps slices_ContainsFunc_impl_Point_impl_Point_1F_impl_IsPolygon_1_jt (fun n => tabC_good (List.forall_mem_cons.2 ⟨(slices_IndexFunc_impl_Point_impl_Point_1F_impl_IsPolygon_1_good n), (fun _ h => absurd h List.not_mem_nil)⟩)) eqs_ok slices_ContainsFunc_impl_Point_impl_Point_1F_impl_IsPolygon_1_Lt ?_ ?_ slices_ContainsFunc_impl_Point_impl_Point_1F_impl_IsPolygon_1_sh slices_ContainsFunc_impl_Point_impl_Point_1F_impl_IsPolygon_1_run ?_
  · exact (fun _ h => absurd h List.not_mem_nil)
  · exact (fun _ h => absurd h List.not_mem_nil)
  · intro n p κ r ds hd hr
    have hr0 := hr
    unfold slices_ContainsFunc_impl_Point_impl_Point_1F_impl_IsPolygon_1_run slices_ContainsFunc_impl_Point_impl_Point_1F_impl_IsPolygon_1_runG at hr
    split at hr
    · rw [← ds_of hd]
      exact ⟨en_of (slices_ContainsFunc_impl_Point_impl_Point_1F_impl_IsPolygon_1_en _) ⟨rfl, rfl⟩, (slices_ContainsFunc_impl_Point_impl_Point_1F_impl_IsPolygon_1_ev n _ κ).trans hr0⟩
    · cases hr

/-! (loop.example/g01297/impl.polygon).next -/
def impl_polygon_next_sh : List SkD := [.sl 34 .pt, .int .i64]
def impl_polygon_next_runG {α : Type} (F : T14 α) (n : Nat) (p : List P1) (κ : Res → Option α) : Option α := match p with
  | [.rows .pt p_, .int i] => F n p_ i (fun v1 v2 => κ ⟨[.agg [.int .i64 v1, .int .i64 v2]], []⟩)
  | _ => none
def impl_polygon_next_run {α : Type} (n : Nat) (p : List P1) (κ : Res → Option α) : Option α := impl_polygon_next_runG impl_polygon_next n p κ
def impl_polygon_next_CG {α : Type}  (n : Nat) : FuncId → List D → (Res → Option α) → Option α := tabC []
def impl_polygon_next_C {α : Type} (n : Nat) : FuncId → List D → (Res → Option α) → Option α := impl_polygon_next_CG n
def impl_polygon_next_M : FuncId → List Nat := tabM []
def impl_polygon_next_lpsG {α : Type}  : List (LoopT α) := []
def impl_polygon_next_lps {α : Type} : List (LoopT α) := impl_polygon_next_lpsG
def impl_polygon_next_jt : Nat → Option Tpl := jtOf []
def impl_polygon_next_XG {α : Type}   (n : Nat) : Ctx α := ⟨impl_polygon_next_CG n, impl_polygon_next_M, eqs, lpOf (impl_polygon_next_lpsG) n, impl_polygon_next_jt⟩
def impl_polygon_next_X {α : Type} (n : Nat) : Ctx α := impl_polygon_next_XG n
def impl_polygon_next_Lt (np : Nat) (lent : List (Bool × Nat × Blk)) : Prop := np = 2 ∧ lent = []
def impl_polygon_next_body {α : Type}   (k : Nat) (p_ : List (Int × Int)) (i : Int) (r0 : Int → Int → Option α) : Option α :=
  bif decide ((((List.length p_) : Nat) : Int) = 0) then
    none
  else
  bif (decide (0 ≤ (Int.tmod (w64 (i + 1)) (((List.length p_) : Nat) : Int))) && decide ((Int.tmod (w64 (i + 1)) (((List.length p_) : Nat) : Int)) < (((List.length p_) : Nat) : Int))) then
    (p_[(Int.tmod (w64 (i + 1)) (((List.length p_) : Nat) : Int)).toNat]?).bind fun e_ =>
    r0 e_.1 e_.2
  else
    none
theorem impl_polygon_next_gen {α : Type}   (n : Nat) (p_ : List (Int × Int)) (i : Int) (κ : Res → Option α) : evFn Try.prog (impl_polygon_next_XG n) Try.f34 (((buildDs impl_polygon_next_sh [.rows .pt p_, .int i]).map Prod.fst).getD []) κ = impl_polygon_next_body n p_ i (fun v1 v2 => κ ⟨[.agg [.int .i64 v1, .int .i64 v2]], []⟩) := by kernel_rfl
theorem impl_polygon_next_eq {α : Type} (n : Nat) (p_ : List (Int × Int)) (i : Int) (r0 : Int → Int → Option α) : impl_polygon_next_body (α := α) n p_ i r0 = impl_polygon_next (α := α) n p_ i r0 := (impl_polygon_next_body.eq_1 n p_ i r0).trans (impl_polygon_next.eq_1 n p_ i r0).symm
theorem impl_polygon_next_rn {α : Type} (F : T14 α) (n : Nat) (p_ : List (Int × Int)) (i : Int) (κ : Res → Option α) : impl_polygon_next_runG F n [.rows .pt p_, .int i] κ = F n p_ i (fun v1 v2 => κ ⟨[.agg [.int .i64 v1, .int .i64 v2]], []⟩) := rfl
theorem impl_polygon_next_ev {α : Type} (n : Nat) (p_ : List (Int × Int)) (i : Int) (κ : Res → Option α) : evFn Try.prog (impl_polygon_next_X n) Try.f34 (((buildDs impl_polygon_next_sh [.rows .pt p_, .int i]).map Prod.fst).getD []) κ = impl_polygon_next_run n [.rows .pt p_, .int i] κ := (impl_polygon_next_gen n p_ i κ).trans ((impl_polygon_next_eq n p_ i (fun v1 v2 => κ ⟨[.agg [.int .i64 v1, .int .i64 v2]], []⟩)).trans ((impl_polygon_next_run.eq_1 n [.rows .pt p_, .int i] κ).trans (impl_polygon_next_rn impl_polygon_next n p_ i κ)).symm)
theorem impl_polygon_next_en (p_ : List (Int × Int)) (i : Int) : (entry 0 (((buildDs impl_polygon_next_sh [.rows .pt p_, .int i]).map Prod.fst).getD [])).map (fun x => (x.1.length, x.2.lent)) = some (2, []) := by kernel_rfl
theorem impl_polygon_next_good {α : Type} : ∀ n, GoodFn (α := α) Try.prog 34 (byShape impl_polygon_next_sh (impl_polygon_next_run n)) := by
  refine fn_good' Try.func34 (c := (Try.f34.body.getD .skip)) (by kernel_rfl) (by kernel_rfl) (by kernel_rfl) impl_polygon_next_C impl_polygon_next_M eqs impl_polygon_next_lps impl_polygon_next_jt (fun n => tabC_good (fun _ h => absurd h List.not_mem_nil)) eqs_ok impl_polygon_next_Lt ?_ ?_ impl_polygon_next_sh impl_polygon_next_run ?_
  · exact (fun _ h => absurd h List.not_mem_nil)
  · exact (fun _ h => absurd h List.not_mem_nil)
  · intro n p κ r ds hd hr
    have hr0 := hr
    unfold impl_polygon_next_run impl_polygon_next_runG at hr
    split at hr
    · rw [← ds_of hd]
      exact ⟨en_of (impl_polygon_next_en _ _) ⟨rfl, rfl⟩, (impl_polygon_next_ev n _ _ κ).trans hr0⟩
    · cases hr

/-! (loop.example/g01297/impl.Point).plus -/
def impl_Point_plus_sh : List SkD := [.agg [.int .i64, .int .i64], .agg [.int .i64, .int .i64], .int .i64]
def impl_Point_plus_runG {α : Type} (F : T6 α) (n : Nat) (p : List P1) (κ : Res → Option α) : Option α := match p with
  | [.int a, .int a1, .int b_, .int b_1, .int k_] => F n a a1 b_ b_1 k_ (fun v1 v2 => κ ⟨[.agg [.int .i64 v1, .int .i64 v2]], []⟩)
  | _ => none
def impl_Point_plus_run {α : Type} (n : Nat) (p : List P1) (κ : Res → Option α) : Option α := impl_Point_plus_runG impl_Point_plus n p κ
def impl_Point_plus_CG {α : Type}  (n : Nat) : FuncId → List D → (Res → Option α) → Option α := tabC []
def impl_Point_plus_C {α : Type} (n : Nat) : FuncId → List D → (Res → Option α) → Option α := impl_Point_plus_CG n
def impl_Point_plus_M : FuncId → List Nat := tabM []
def impl_Point_plus_lpsG {α : Type}  : List (LoopT α) := []
def impl_Point_plus_lps {α : Type} : List (LoopT α) := impl_Point_plus_lpsG
def impl_Point_plus_jt : Nat → Option Tpl := jtOf []
def impl_Point_plus_XG {α : Type}   (n : Nat) : Ctx α := ⟨impl_Point_plus_CG n, impl_Point_plus_M, eqs, lpOf (impl_Point_plus_lpsG) n, impl_Point_plus_jt⟩
def impl_Point_plus_X {α : Type} (n : Nat) : Ctx α := impl_Point_plus_XG n
def impl_Point_plus_Lt (np : Nat) (lent : List (Bool × Nat × Blk)) : Prop := np = 3 ∧ lent = []
def impl_Point_plus_body {α : Type}   (k : Nat) (a : Int) (a1 : Int) (b_ : Int) (b_1 : Int) (k_ : Int) (r0 : Int → Int → Option α) : Option α :=
  r0 (w64 (a + (w64 (k_ * b_)))) (w64 (a1 + (w64 (k_ * b_1))))
theorem impl_Point_plus_gen {α : Type}   (n : Nat) (a : Int) (a1 : Int) (b_ : Int) (b_1 : Int) (k_ : Int) (κ : Res → Option α) : evFn Try.prog (impl_Point_plus_XG n) Try.f44 (((buildDs impl_Point_plus_sh [.int a, .int a1, .int b_, .int b_1, .int k_]).map Prod.fst).getD []) κ = impl_Point_plus_body n a a1 b_ b_1 k_ (fun v1 v2 => κ ⟨[.agg [.int .i64 v1, .int .i64 v2]], []⟩) := by kernel_rfl
theorem impl_Point_plus_eq {α : Type} (n : Nat) (a : Int) (a1 : Int) (b_ : Int) (b_1 : Int) (k_ : Int) (r0 : Int → Int → Option α) : impl_Point_plus_body (α := α) n a a1 b_ b_1 k_ r0 = impl_Point_plus (α := α) n a a1 b_ b_1 k_ r0 := (impl_Point_plus_body.eq_1 n a a1 b_ b_1 k_ r0).trans (impl_Point_plus.eq_1 n a a1 b_ b_1 k_ r0).symm
theorem impl_Point_plus_rn {α : Type} (F : T6 α) (n : Nat) (a : Int) (a1 : Int) (b_ : Int) (b_1 : Int) (k_ : Int) (κ : Res → Option α) : impl_Point_plus_runG F n [.int a, .int a1, .int b_, .int b_1, .int k_] κ = F n a a1 b_ b_1 k_ (fun v1 v2 => κ ⟨[.agg [.int .i64 v1, .int .i64 v2]], []⟩) := rfl
theorem impl_Point_plus_ev {α : Type} (n : Nat) (a : Int) (a1 : Int) (b_ : Int) (b_1 : Int) (k_ : Int) (κ : Res → Option α) : evFn Try.prog (impl_Point_plus_X n) Try.f44 (((buildDs impl_Point_plus_sh [.int a, .int a1, .int b_, .int b_1, .int k_]).map Prod.fst).getD []) κ = impl_Point_plus_run n [.int a, .int a1, .int b_, .int b_1, .int k_] κ := (impl_Point_plus_gen n a a1 b_ b_1 k_ κ).trans ((impl_Point_plus_eq n a a1 b_ b_1 k_ (fun v1 v2 => κ ⟨[.agg [.int .i64 v1, .int .i64 v2]], []⟩)).trans ((impl_Point_plus_run.eq_1 n [.int a, .int a1, .int b_, .int b_1, .int k_] κ).trans (impl_Point_plus_rn impl_Point_plus n a a1 b_ b_1 k_ κ)).symm)
theorem impl_Point_plus_en (a : Int) (a1 : Int) (b_ : Int) (b_1 : Int) (k_ : Int) : (entry 0 (((buildDs impl_Point_plus_sh [.int a, .int a1, .int b_, .int b_1, .int k_]).map Prod.fst).getD [])).map (fun x => (x.1.length, x.2.lent)) = some (3, []) := by kernel_rfl
theorem impl_Point_plus_good {α : Type} : ∀ n, GoodFn (α := α) Try.prog 44 (byShape impl_Point_plus_sh (impl_Point_plus_run n)) := by
  refine fn_good' Try.func44 (c := (Try.f44.body.getD .skip)) (by kernel_rfl) (by kernel_rfl) (by kernel_rfl) impl_Point_plus_C impl_Point_plus_M eqs impl_Point_plus_lps impl_Point_plus_jt (fun n => tabC_good (fun _ h => absurd h List.not_mem_nil)) eqs_ok impl_Point_plus_Lt ?_ ?_ impl_Point_plus_sh impl_Point_plus_run ?_
  · exact (fun _ h => absurd h List.not_mem_nil)
  · exact (fun _ h => absurd h List.not_mem_nil)
  · intro n p κ r ds hd hr
    have hr0 := hr
    unfold impl_Point_plus_run impl_Point_plus_runG at hr
    split at hr
    · rw [← ds_of hd]
      exact ⟨en_of (impl_Point_plus_en _ _ _ _ _) ⟨rfl, rfl⟩, (impl_Point_plus_ev n _ _ _ _ _ κ).trans hr0⟩
    · cases hr

/-! (loop.example/g01297/impl.Point).less -/
def impl_Point_less_sh : List SkD := [.agg [.int .i64, .int .i64], .agg [.int .i64, .int .i64]]
def impl_Point_less_runG {α : Type} (F : T15 α) (n : Nat) (p : List P1) (κ : Res → Option α) : Option α := match p with
  | [.int a, .int a1, .int b_, .int b_1] => F n a a1 b_ b_1 (fun v1 v2 => κ ⟨[.agg [.int .i64 v1, .int .i64 v2]], []⟩)
  | _ => none
def impl_Point_less_run {α : Type} (n : Nat) (p : List P1) (κ : Res → Option α) : Option α := impl_Point_less_runG impl_Point_less n p κ
def impl_Point_less_CG {α : Type} (F0 : T6 α) (n : Nat) : FuncId → List D → (Res → Option α) → Option α := tabC [(44, (byShape impl_Point_plus_sh (impl_Point_plus_runG F0 n)))]
def impl_Point_less_C {α : Type} (n : Nat) : FuncId → List D → (Res → Option α) → Option α := impl_Point_less_CG impl_Point_plus n
def impl_Point_less_M : FuncId → List Nat := tabM []
def impl_Point_less_lpsG {α : Type}  : List (LoopT α) := []
def impl_Point_less_lps {α : Type} : List (LoopT α) := impl_Point_less_lpsG
def impl_Point_less_jt : Nat → Option Tpl := jtOf []
def impl_Point_less_XG {α : Type} (F0 : T6 α)  (n : Nat) : Ctx α := ⟨impl_Point_less_CG F0 n, impl_Point_less_M, eqs, lpOf (impl_Point_less_lpsG) n, impl_Point_less_jt⟩
def impl_Point_less_X {α : Type} (n : Nat) : Ctx α := impl_Point_less_XG impl_Point_plus n
def impl_Point_less_Lt (np : Nat) (lent : List (Bool × Nat × Blk)) : Prop := np = 2 ∧ lent = []
def impl_Point_less_body {α : Type} (F0 : T6 α)  (k : Nat) (a : Int) (a1 : Int) (b_ : Int) (b_1 : Int) (r0 : Int → Int → Option α) : Option α :=
  F0 k a a1 b_ b_1 (-1) fun v v1 =>
  r0 v v1
theorem impl_Point_less_gen {α : Type} (F0 : T6 α)  (n : Nat) (a : Int) (a1 : Int) (b_ : Int) (b_1 : Int) (κ : Res → Option α) : evFn Try.prog (impl_Point_less_XG F0 n) Try.f42 (((buildDs impl_Point_less_sh [.int a, .int a1, .int b_, .int b_1]).map Prod.fst).getD []) κ = impl_Point_less_body F0 n a a1 b_ b_1 (fun v1 v2 => κ ⟨[.agg [.int .i64 v1, .int .i64 v2]], []⟩) := by kernel_rfl
theorem impl_Point_less_eq {α : Type} (n : Nat) (a : Int) (a1 : Int) (b_ : Int) (b_1 : Int) (r0 : Int → Int → Option α) : impl_Point_less_body (α := α) impl_Point_plus n a a1 b_ b_1 r0 = impl_Point_less (α := α) n a a1 b_ b_1 r0 := (impl_Point_less_body.eq_1 impl_Point_plus n a a1 b_ b_1 r0).trans (impl_Point_less.eq_1 n a a1 b_ b_1 r0).symm
theorem impl_Point_less_rn {α : Type} (F : T15 α) (n : Nat) (a : Int) (a1 : Int) (b_ : Int) (b_1 : Int) (κ : Res → Option α) : impl_Point_less_runG F n [.int a, .int a1, .int b_, .int b_1] κ = F n a a1 b_ b_1 (fun v1 v2 => κ ⟨[.agg [.int .i64 v1, .int .i64 v2]], []⟩) := rfl
theorem impl_Point_less_ev {α : Type} (n : Nat) (a : Int) (a1 : Int) (b_ : Int) (b_1 : Int) (κ : Res → Option α) : evFn Try.prog (impl_Point_less_X n) Try.f42 (((buildDs impl_Point_less_sh [.int a, .int a1, .int b_, .int b_1]).map Prod.fst).getD []) κ = impl_Point_less_run n [.int a, .int a1, .int b_, .int b_1] κ := (impl_Point_less_gen impl_Point_plus n a a1 b_ b_1 κ).trans ((impl_Point_less_eq n a a1 b_ b_1 (fun v1 v2 => κ ⟨[.agg [.int .i64 v1, .int .i64 v2]], []⟩)).trans ((impl_Point_less_run.eq_1 n [.int a, .int a1, .int b_, .int b_1] κ).trans (impl_Point_less_rn impl_Point_less n a a1 b_ b_1 κ)).symm)
theorem impl_Point_less_en (a : Int) (a1 : Int) (b_ : Int) (b_1 : Int) : (entry 0 (((buildDs impl_Point_less_sh [.int a, .int a1, .int b_, .int b_1]).map Prod.fst).getD [])).map (fun x => (x.1.length, x.2.lent)) = some (2, []) := by kernel_rfl
theorem impl_Point_less_good {α : Type} : ∀ n, GoodFn (α := α) Try.prog 42 (byShape impl_Point_less_sh (impl_Point_less_run n)) := by
  refine fn_good' Try.func42 (c := (Try.f42.body.getD .skip)) (by kernel_rfl) (by kernel_rfl) (by kernel_rfl) impl_Point_less_C impl_Point_less_M eqs impl_Point_less_lps impl_Point_less_jt (fun n => tabC_good (List.forall_mem_cons.2 ⟨(impl_Point_plus_good n), (fun _ h => absurd h List.not_mem_nil)⟩)) eqs_ok impl_Point_less_Lt ?_ ?_ impl_Point_less_sh impl_Point_less_run ?_
  · exact (fun _ h => absurd h List.not_mem_nil)
  · exact (fun _ h => absurd h List.not_mem_nil)
  · intro n p κ r ds hd hr
    have hr0 := hr
    unfold impl_Point_less_run impl_Point_less_runG at hr
    split at hr
    · rw [← ds_of hd]
      exact ⟨en_of (impl_Point_less_en _ _ _ _) ⟨rfl, rfl⟩, (impl_Point_less_ev n _ _ _ _ κ).trans hr0⟩
    · cases hr

/-! loop.example/g01297/impl.det -/
def impl_det_sh : List SkD := [.agg [.int .i64, .int .i64], .agg [.int .i64, .int .i64]]
def impl_det_runG {α : Type} (F : T7 α) (n : Nat) (p : List P1) (κ : Res → Option α) : Option α := match p with
  | [.int a, .int a1, .int b_, .int b_1] => F n a a1 b_ b_1 (fun v1 => κ ⟨[.int .i64 v1], []⟩)
  | _ => none
def impl_det_run {α : Type} (n : Nat) (p : List P1) (κ : Res → Option α) : Option α := impl_det_runG impl_det n p κ
def impl_det_CG {α : Type}  (n : Nat) : FuncId → List D → (Res → Option α) → Option α := tabC []
def impl_det_C {α : Type} (n : Nat) : FuncId → List D → (Res → Option α) → Option α := impl_det_CG n
def impl_det_M : FuncId → List Nat := tabM []
def impl_det_lpsG {α : Type}  : List (LoopT α) := []
def impl_det_lps {α : Type} : List (LoopT α) := impl_det_lpsG
def impl_det_jt : Nat → Option Tpl := jtOf []
def impl_det_XG {α : Type}   (n : Nat) : Ctx α := ⟨impl_det_CG n, impl_det_M, eqs, lpOf (impl_det_lpsG) n, impl_det_jt⟩
def impl_det_X {α : Type} (n : Nat) : Ctx α := impl_det_XG n
def impl_det_Lt (np : Nat) (lent : List (Bool × Nat × Blk)) : Prop := np = 2 ∧ lent = []
def impl_det_body {α : Type}   (k : Nat) (a : Int) (a1 : Int) (b_ : Int) (b_1 : Int) (r0 : Int → Option α) : Option α :=
  r0 (w64 ((w64 (a * b_1)) - (w64 (a1 * b_))))
theorem impl_det_gen {α : Type}   (n : Nat) (a : Int) (a1 : Int) (b_ : Int) (b_1 : Int) (κ : Res → Option α) : evFn Try.prog (impl_det_XG n) Try.f41 (((buildDs impl_det_sh [.int a, .int a1, .int b_, .int b_1]).map Prod.fst).getD []) κ = impl_det_body n a a1 b_ b_1 (fun v1 => κ ⟨[.int .i64 v1], []⟩) := by kernel_rfl
theorem impl_det_eq {α : Type} (n : Nat) (a : Int) (a1 : Int) (b_ : Int) (b_1 : Int) (r0 : Int → Option α) : impl_det_body (α := α) n a a1 b_ b_1 r0 = impl_det (α := α) n a a1 b_ b_1 r0 := (impl_det_body.eq_1 n a a1 b_ b_1 r0).trans (impl_det.eq_1 n a a1 b_ b_1 r0).symm
theorem impl_det_rn {α : Type} (F : T7 α) (n : Nat) (a : Int) (a1 : Int) (b_ : Int) (b_1 : Int) (κ : Res → Option α) : impl_det_runG F n [.int a, .int a1, .int b_, .int b_1] κ = F n a a1 b_ b_1 (fun v1 => κ ⟨[.int .i64 v1], []⟩) := rfl
theorem impl_det_ev {α : Type} (n : Nat) (a : Int) (a1 : Int) (b_ : Int) (b_1 : Int) (κ : Res → Option α) : evFn Try.prog (impl_det_X n) Try.f41 (((buildDs impl_det_sh [.int a, .int a1, .int b_, .int b_1]).map Prod.fst).getD []) κ = impl_det_run n [.int a, .int a1, .int b_, .int b_1] κ := (impl_det_gen n a a1 b_ b_1 κ).trans ((impl_det_eq n a a1 b_ b_1 (fun v1 => κ ⟨[.int .i64 v1], []⟩)).trans ((impl_det_run.eq_1 n [.int a, .int a1, .int b_, .int b_1] κ).trans (impl_det_rn impl_det n a a1 b_ b_1 κ)).symm)
theorem impl_det_en (a : Int) (a1 : Int) (b_ : Int) (b_1 : Int) : (entry 0 (((buildDs impl_det_sh [.int a, .int a1, .int b_, .int b_1]).map Prod.fst).getD [])).map (fun x => (x.1.length, x.2.lent)) = some (2, []) := by kernel_rfl
theorem impl_det_good {α : Type} : ∀ n, GoodFn (α := α) Try.prog 41 (byShape impl_det_sh (impl_det_run n)) := by
  refine fn_good' Try.func41 (c := (Try.f41.body.getD .skip)) (by kernel_rfl) (by kernel_rfl) (by kernel_rfl) impl_det_C impl_det_M eqs impl_det_lps impl_det_jt (fun n => tabC_good (fun _ h => absurd h List.not_mem_nil)) eqs_ok impl_det_Lt ?_ ?_ impl_det_sh impl_det_run ?_
  · exact (fun _ h => absurd h List.not_mem_nil)
  · exact (fun _ h => absurd h List.not_mem_nil)
  · intro n p κ r ds hd hr
    have hr0 := hr
    unfold impl_det_run impl_det_runG at hr
    split at hr
    · rw [← ds_of hd]
      exact ⟨en_of (impl_det_en _ _ _ _) ⟨rfl, rfl⟩, (impl_det_ev n _ _ _ _ κ).trans hr0⟩
    · cases hr

/-! loop.example/g01297/impl.turn -/
def impl_turn_sh : List SkD := [.agg [.int .i64, .int .i64], .agg [.int .i64, .int .i64], .agg [.int .i64, .int .i64]]
def impl_turn_runG {α : Type} (F : T8 α) (n : Nat) (p : List P1) (κ : Res → Option α) : Option α := match p with
  | [.int a, .int a1, .int b_, .int b_1, .int c, .int c1] => F n a a1 b_ b_1 c c1 (fun v1 => κ ⟨[.int .i64 v1], []⟩)
  | _ => none
def impl_turn_run {α : Type} (n : Nat) (p : List P1) (κ : Res → Option α) : Option α := impl_turn_runG impl_turn n p κ
def impl_turn_CG {α : Type} (F0 : T15 α) (F1 : T7 α) (n : Nat) : FuncId → List D → (Res → Option α) → Option α := tabC [(42, (byShape impl_Point_less_sh (impl_Point_less_runG F0 n))), (41, (byShape impl_det_sh (impl_det_runG F1 n)))]
def impl_turn_C {α : Type} (n : Nat) : FuncId → List D → (Res → Option α) → Option α := impl_turn_CG impl_Point_less impl_det n
def impl_turn_M : FuncId → List Nat := tabM []
def impl_turn_lpsG {α : Type}  : List (LoopT α) := []
def impl_turn_lps {α : Type} : List (LoopT α) := impl_turn_lpsG
def impl_turn_jt : Nat → Option Tpl := jtOf []
def impl_turn_XG {α : Type} (F0 : T15 α) (F1 : T7 α)  (n : Nat) : Ctx α := ⟨impl_turn_CG F0 F1 n, impl_turn_M, eqs, lpOf (impl_turn_lpsG) n, impl_turn_jt⟩
def impl_turn_X {α : Type} (n : Nat) : Ctx α := impl_turn_XG impl_Point_less impl_det n
def impl_turn_Lt (np : Nat) (lent : List (Bool × Nat × Blk)) : Prop := np = 3 ∧ lent = []
def impl_turn_body {α : Type} (F0 : T15 α) (F1 : T7 α)  (k : Nat) (a : Int) (a1 : Int) (b_ : Int) (b_1 : Int) (c : Int) (c1 : Int) (r0 : Int → Option α) : Option α :=
  F0 k b_ b_1 a a1 fun v v1 =>
  F0 k c c1 b_ b_1 fun v2 v3 =>
  F1 k v v1 v2 v3 fun v4 =>
  r0 v4
theorem impl_turn_gen {α : Type} (F0 : T15 α) (F1 : T7 α)  (n : Nat) (a : Int) (a1 : Int) (b_ : Int) (b_1 : Int) (c : Int) (c1 : Int) (κ : Res → Option α) : evFn Try.prog (impl_turn_XG F0 F1 n) Try.f35 (((buildDs impl_turn_sh [.int a, .int a1, .int b_, .int b_1, .int c, .int c1]).map Prod.fst).getD []) κ = impl_turn_body F0 F1 n a a1 b_ b_1 c c1 (fun v1 => κ ⟨[.int .i64 v1], []⟩) := by kernel_rfl
theorem impl_turn_eq {α : Type} (n : Nat) (a : Int) (a1 : Int) (b_ : Int) (b_1 : Int) (c : Int) (c1 : Int) (r0 : Int → Option α) : impl_turn_body (α := α) impl_Point_less impl_det n a a1 b_ b_1 c c1 r0 = impl_turn (α := α) n a a1 b_ b_1 c c1 r0 := (impl_turn_body.eq_1 impl_Point_less impl_det n a a1 b_ b_1 c c1 r0).trans (impl_turn.eq_1 n a a1 b_ b_1 c c1 r0).symm
theorem impl_turn_rn {α : Type} (F : T8 α) (n : Nat) (a : Int) (a1 : Int) (b_ : Int) (b_1 : Int) (c : Int) (c1 : Int) (κ : Res → Option α) : impl_turn_runG F n [.int a, .int a1, .int b_, .int b_1, .int c, .int c1] κ = F n a a1 b_ b_1 c c1 (fun v1 => κ ⟨[.int .i64 v1], []⟩) := rfl
theorem impl_turn_ev {α : Type} (n : Nat) (a : Int) (a1 : Int) (b_ : Int) (b_1 : Int) (c : Int) (c1 : Int) (κ : Res → Option α) : evFn Try.prog (impl_turn_X n) Try.f35 (((buildDs impl_turn_sh [.int a, .int a1, .int b_, .int b_1, .int c, .int c1]).map Prod.fst).getD []) κ = impl_turn_run n [.int a, .int a1, .int b_, .int b_1, .int c, .int c1] κ := (impl_turn_gen impl_Point_less impl_det n a a1 b_ b_1 c c1 κ).trans ((impl_turn_eq n a a1 b_ b_1 c c1 (fun v1 => κ ⟨[.int .i64 v1], []⟩)).trans ((impl_turn_run.eq_1 n [.int a, .int a1, .int b_, .int b_1, .int c, .int c1] κ).trans (impl_turn_rn impl_turn n a a1 b_ b_1 c c1 κ)).symm)
theorem impl_turn_en (a : Int) (a1 : Int) (b_ : Int) (b_1 : Int) (c : Int) (c1 : Int) : (entry 0 (((buildDs impl_turn_sh [.int a, .int a1, .int b_, .int b_1, .int c, .int c1]).map Prod.fst).getD [])).map (fun x => (x.1.length, x.2.lent)) = some (3, []) := by kernel_rfl
theorem impl_turn_good {α : Type} : ∀ n, GoodFn (α := α) Try.prog 35 (byShape impl_turn_sh (impl_turn_run n)) := by
  refine fn_good' Try.func35 (c := (Try.f35.body.getD .skip)) (by kernel_rfl) (by kernel_rfl) (by kernel_rfl) impl_turn_C impl_turn_M eqs impl_turn_lps impl_turn_jt (fun n => tabC_good (List.forall_mem_cons.2 ⟨(impl_Point_less_good n), (List.forall_mem_cons.2 ⟨(impl_det_good n), (fun _ h => absurd h List.not_mem_nil)⟩)⟩)) eqs_ok impl_turn_Lt ?_ ?_ impl_turn_sh impl_turn_run ?_
  · exact (fun _ h => absurd h List.not_mem_nil)
  · exact (fun _ h => absurd h List.not_mem_nil)
  · intro n p κ r ds hd hr
    have hr0 := hr
    unfold impl_turn_run impl_turn_runG at hr
    split at hr
    · rw [← ds_of hd]
      exact ⟨en_of (impl_turn_en _ _ _ _ _ _) ⟨rfl, rfl⟩, (impl_turn_ev n _ _ _ _ _ _ κ).trans hr0⟩
    · cases hr

/-! (loop.example/g01297/impl.polygon).convex -/
def impl_polygon_convex_sh : List SkD := [.sl 34 .pt]
def impl_polygon_convex_runG {α : Type} (F : T10 α) (n : Nat) (p : List P1) (κ : Res → Option α) : Option α := match p with
  | [.rows .pt p_] => F n p_ (fun v1 => κ ⟨[.bool v1], []⟩)
  | _ => none
def impl_polygon_convex_run {α : Type} (n : Nat) (p : List P1) (κ : Res → Option α) : Option α := impl_polygon_convex_runG impl_polygon_convex n p κ
def impl_polygon_convex_CG {α : Type} (F0 : T14 α) (F1 : T8 α) (n : Nat) : FuncId → List D → (Res → Option α) → Option α := tabC [(34, (byShape impl_polygon_next_sh (impl_polygon_next_runG F0 n))), (35, (byShape impl_turn_sh (impl_turn_runG F1 n)))]
def impl_polygon_convex_C {α : Type} (n : Nat) : FuncId → List D → (Res → Option α) → Option α := impl_polygon_convex_CG impl_polygon_next impl_turn n
def impl_polygon_convex_M : FuncId → List Nat := tabM []
def impl_polygon_convex_t6 : Tpl := ⟨[.sl 0, .any, .any, .int .i64, .ptr 256 0 0, .ptr 320 0 0, .any, .any, .sl 0, .int .i64, .int .i64, .any, .any, .any, .any, .any, .any, .any, .sl 0, .int .i64, .int .i64, .any, .any, .any, .any, .any, .any, .any, .any, .any, .any, .any, .any, .any, .any, .any, .any, .any, .any, .any, .any, .any, .any, .any, .any, .any], [(0, .rows 0 34 .pt), (256, .ints 2 34 .i64 2), (320, .ints 2 34 .i64 2)], []⟩
def impl_polygon_convex_uG6 {α : Type} (G : Nat → Int → Int → Int → Int → Int → (List (Int × Int)) → Int → Int → Int → Int → (Int → Int → Int → Int → Int → (List (Int × Int)) → Int → Int → Int → Int → Option α) → (Bool → Option α) → Option α) (n : Nat) (p : List P1) (brk : Nat → List P1 → Option α) (ret : Res → Option α) : Option α := match p with
  | [.int i, .int x2, .int x3, .int x4, .int x5, .rows .pt p_2, .int a, .int a1, .int b_, .int b_1] => G n i x2 x3 x4 x5 p_2 a a1 b_ b_1 (fun i x2 x3 x4 x5 p_2 a a1 b_ b_1 => brk 2 [.int i, .int x2, .int x3, .int x4, .int x5, .rows .pt p_2, .int a, .int a1, .int b_, .int b_1]) (fun v1 => ret ⟨[.bool v1], []⟩)
  | _ => none
def impl_polygon_convex_u6 {α : Type} (n : Nat) (p : List P1) (brk : Nat → List P1 → Option α) (ret : Res → Option α) : Option α := impl_polygon_convex_uG6 impl_polygon_convex_l6 n p brk ret
def impl_polygon_convex_t2 : Tpl := ⟨[.sl 0, .any, .any, .any, .any, .any, .any, .any, .sl 0, .int .i64, .int .i64, .any, .any, .any, .any, .any, .any, .any, .any, .any, .any, .any, .any, .any, .any, .any, .any, .any, .any, .any, .any, .any, .any, .any, .any, .any, .any, .any, .any, .any, .any, .any, .any, .any, .any, .any], [(0, .rows 0 34 .pt)], []⟩
def impl_polygon_convex_uG2 {α : Type} (G : Nat → Int → Int → (List (Int × Int)) → (Int → Int → (List (Int × Int)) → Option α) → (Bool → Option α) → Option α) (n : Nat) (p : List P1) (brk : Nat → List P1 → Option α) (ret : Res → Option α) : Option α := match p with
  | [.int x, .int x1, .rows .pt p_1] => G n x x1 p_1 (fun x x1 p_1 => brk 0 [.int x, .int x1, .rows .pt p_1]) (fun v1 => ret ⟨[.bool v1], []⟩)
  | _ => none
def impl_polygon_convex_u2 {α : Type} (n : Nat) (p : List P1) (brk : Nat → List P1 → Option α) (ret : Res → Option α) : Option α := impl_polygon_convex_uG2 impl_polygon_convex_l2 n p brk ret
def impl_polygon_convex_lpsG {α : Type} (G6 : Nat → Int → Int → Int → Int → Int → (List (Int × Int)) → Int → Int → Int → Int → (Int → Int → Int → Int → Int → (List (Int × Int)) → Int → Int → Int → Int → Option α) → (Bool → Option α) → Option α) (G2 : Nat → Int → Int → (List (Int × Int)) → (Int → Int → (List (Int × Int)) → Option α) → (Bool → Option α) → Option α) : List (LoopT α) := [⟨6, impl_polygon_convex_t6, impl_polygon_convex_uG6 G6⟩, ⟨2, impl_polygon_convex_t2, impl_polygon_convex_uG2 G2⟩]
def impl_polygon_convex_lps {α : Type} : List (LoopT α) := impl_polygon_convex_lpsG impl_polygon_convex_l6 impl_polygon_convex_l2
def impl_polygon_convex_jt : Nat → Option Tpl := jtOf []
def impl_polygon_convex_XG {α : Type} (F0 : T14 α) (F1 : T8 α) (G6 : Nat → Int → Int → Int → Int → Int → (List (Int × Int)) → Int → Int → Int → Int → (Int → Int → Int → Int → Int → (List (Int × Int)) → Int → Int → Int → Int → Option α) → (Bool → Option α) → Option α) (G2 : Nat → Int → Int → (List (Int × Int)) → (Int → Int → (List (Int × Int)) → Option α) → (Bool → Option α) → Option α) (n : Nat) : Ctx α := ⟨impl_polygon_convex_CG F0 F1 n, impl_polygon_convex_M, eqs, lpOf (impl_polygon_convex_lpsG G6 G2) n, impl_polygon_convex_jt⟩
def impl_polygon_convex_X {α : Type} (n : Nat) : Ctx α := impl_polygon_convex_XG impl_polygon_next impl_turn impl_polygon_convex_l6 impl_polygon_convex_l2 n
def impl_polygon_convex_Lt (np : Nat) (lent : List (Bool × Nat × Blk)) : Prop := np = 1 ∧ lent = []
def impl_polygon_convex_lb6 {α : Type} (F0 : T14 α) (F1 : T8 α) (G6 : Nat → Int → Int → Int → Int → Int → (List (Int × Int)) → Int → Int → Int → Int → (Int → Int → Int → Int → Int → (List (Int × Int)) → Int → Int → Int → Int → Option α) → (Bool → Option α) → Option α) (G2 : Nat → Int → Int → (List (Int × Int)) → (Int → Int → (List (Int × Int)) → Option α) → (Bool → Option α) → Option α) (k : Nat) (i : Int) (x2 : Int) (x3 : Int) (x4 : Int) (x5 : Int) (p_2 : List (Int × Int)) (a : Int) (a1 : Int) (b_ : Int) (b_1 : Int) (b2 : Int → Int → Int → Int → Int → (List (Int × Int)) → Int → Int → Int → Int → Option α) (r0 : Bool → Option α) : Option α :=
  bif decide (x5 < x4) then
    bif (decide (0 ≤ x5) && decide (x5 < (((List.length p_2) : Nat) : Int))) then
      (p_2[x5.toNat]?).bind fun e_1 =>
      bif (!decide (x5 = i)) then
        bif decide ((((List.length p_2) : Nat) : Int) = 0) then
          none
        else
        bif (!decide (x5 = (Int.tmod (w64 (i + 1)) (((List.length p_2) : Nat) : Int)))) then
          F1 k a a1 b_ b_1 e_1.1 e_1.2 fun v2 =>
          bif decide (v2 ≤ 0) then
            r0 false
          else
            G6 k i x2 x3 x4 (w64 (x5 + 1)) p_2 a a1 b_ b_1 b2 r0
        else
          G6 k i x2 x3 x4 (w64 (x5 + 1)) p_2 a a1 b_ b_1 b2 r0
      else
        G6 k i x2 x3 x4 (w64 (x5 + 1)) p_2 a a1 b_ b_1 b2 r0
    else
      none
  else
    b2 i x2 x3 x4 x5 p_2 a a1 b_ b_1
theorem impl_polygon_convex_l6_gen {α : Type} (F0 : T14 α) (F1 : T8 α) (G6 : Nat → Int → Int → Int → Int → Int → (List (Int × Int)) → Int → Int → Int → Int → (Int → Int → Int → Int → Int → (List (Int × Int)) → Int → Int → Int → Int → Option α) → (Bool → Option α) → Option α) (G2 : Nat → Int → Int → (List (Int × Int)) → (Int → Int → (List (Int × Int)) → Option α) → (Bool → Option α) → Option α) (n : Nat) (i : Int) (x2 : Int) (x3 : Int) (x4 : Int) (x5 : Int) (p_2 : List (Int × Int)) (a : Int) (a1 : Int) (b_ : Int) (b_1 : Int) (brk : Nat → List P1 → Option α) (ret : Res → Option α) : ev ((impl_polygon_convex_XG F0 F1 G6 G2 n).env Try.prog Try.f23 1 []) (findLoop (loopsIn (Try.f23.body.getD .skip)) 6) ((impl_polygon_convex_t6.build [.int i, .int x2, .int x3, .int x4, .int x5, .rows .pt p_2, .int a, .int a1, .int b_, .int b_1]).getD ⟨[], []⟩) (roundK (1 * 64) impl_polygon_convex_t6 (fun q => impl_polygon_convex_uG6 G6 n q brk ret) brk ret) = impl_polygon_convex_lb6 F0 F1 G6 G2 n i x2 x3 x4 x5 p_2 a a1 b_ b_1 (fun i x2 x3 x4 x5 p_2 a a1 b_ b_1 => brk 2 [.int i, .int x2, .int x3, .int x4, .int x5, .rows .pt p_2, .int a, .int a1, .int b_, .int b_1]) (fun v1 => ret ⟨[.bool v1], []⟩) := by kernel_rfl
theorem impl_polygon_convex_l6_eq {α : Type} (k : Nat) (i : Int) (x2 : Int) (x3 : Int) (x4 : Int) (x5 : Int) (p_2 : List (Int × Int)) (a : Int) (a1 : Int) (b_ : Int) (b_1 : Int) (b2 : Int → Int → Int → Int → Int → (List (Int × Int)) → Int → Int → Int → Int → Option α) (r0 : Bool → Option α) : impl_polygon_convex_lb6 impl_polygon_next impl_turn impl_polygon_convex_l6 impl_polygon_convex_l2 k i x2 x3 x4 x5 p_2 a a1 b_ b_1 b2 r0 = impl_polygon_convex_l6 (k + 1) i x2 x3 x4 x5 p_2 a a1 b_ b_1 b2 r0 := (impl_polygon_convex_lb6.eq_1 impl_polygon_next impl_turn impl_polygon_convex_l6 impl_polygon_convex_l2 k i x2 x3 x4 x5 p_2 a a1 b_ b_1 b2 r0).trans (show impl_polygon_convex_l6 (k + 1) i x2 x3 x4 x5 p_2 a a1 b_ b_1 b2 r0 = _ from impl_polygon_convex_l6.eq_2 _ _ _ _ _ _ _ _ _ _ _ _ _ ).symm
theorem impl_polygon_convex_l6_rn {α : Type} (G : Nat → Int → Int → Int → Int → Int → (List (Int × Int)) → Int → Int → Int → Int → (Int → Int → Int → Int → Int → (List (Int × Int)) → Int → Int → Int → Int → Option α) → (Bool → Option α) → Option α) (n : Nat) (i : Int) (x2 : Int) (x3 : Int) (x4 : Int) (x5 : Int) (p_2 : List (Int × Int)) (a : Int) (a1 : Int) (b_ : Int) (b_1 : Int) (brk : Nat → List P1 → Option α) (ret : Res → Option α) : impl_polygon_convex_uG6 G n [.int i, .int x2, .int x3, .int x4, .int x5, .rows .pt p_2, .int a, .int a1, .int b_, .int b_1] brk ret = G n i x2 x3 x4 x5 p_2 a a1 b_ b_1 (fun i x2 x3 x4 x5 p_2 a a1 b_ b_1 => brk 2 [.int i, .int x2, .int x3, .int x4, .int x5, .rows .pt p_2, .int a, .int a1, .int b_, .int b_1]) (fun v1 => ret ⟨[.bool v1], []⟩) := rfl
theorem impl_polygon_convex_l6_ev {α : Type} (n : Nat) (i : Int) (x2 : Int) (x3 : Int) (x4 : Int) (x5 : Int) (p_2 : List (Int × Int)) (a : Int) (a1 : Int) (b_ : Int) (b_1 : Int) (brk : Nat → List P1 → Option α) (ret : Res → Option α) : ev ((impl_polygon_convex_X n).env Try.prog Try.f23 1 []) (findLoop (loopsIn (Try.f23.body.getD .skip)) 6) ((impl_polygon_convex_t6.build [.int i, .int x2, .int x3, .int x4, .int x5, .rows .pt p_2, .int a, .int a1, .int b_, .int b_1]).getD ⟨[], []⟩) (roundK (1 * 64) impl_polygon_convex_t6 (fun q => impl_polygon_convex_u6 n q brk ret) brk ret) = impl_polygon_convex_u6 (n + 1) [.int i, .int x2, .int x3, .int x4, .int x5, .rows .pt p_2, .int a, .int a1, .int b_, .int b_1] brk ret := (impl_polygon_convex_l6_gen impl_polygon_next impl_turn impl_polygon_convex_l6 impl_polygon_convex_l2 n i x2 x3 x4 x5 p_2 a a1 b_ b_1 brk ret).trans ((impl_polygon_convex_l6_eq n i x2 x3 x4 x5 p_2 a a1 b_ b_1 (fun i x2 x3 x4 x5 p_2 a a1 b_ b_1 => brk 2 [.int i, .int x2, .int x3, .int x4, .int x5, .rows .pt p_2, .int a, .int a1, .int b_, .int b_1]) (fun v1 => ret ⟨[.bool v1], []⟩)).trans ((impl_polygon_convex_u6.eq_1 (n + 1) [.int i, .int x2, .int x3, .int x4, .int x5, .rows .pt p_2, .int a, .int a1, .int b_, .int b_1] brk ret).trans (impl_polygon_convex_l6_rn impl_polygon_convex_l6 (n + 1) i x2 x3 x4 x5 p_2 a a1 b_ b_1 brk ret)).symm)
def impl_polygon_convex_lb2 {α : Type} (F0 : T14 α) (F1 : T8 α) (G6 : Nat → Int → Int → Int → Int → Int → (List (Int × Int)) → Int → Int → Int → Int → (Int → Int → Int → Int → Int → (List (Int × Int)) → Int → Int → Int → Int → Option α) → (Bool → Option α) → Option α) (G2 : Nat → Int → Int → (List (Int × Int)) → (Int → Int → (List (Int × Int)) → Option α) → (Bool → Option α) → Option α) (k : Nat) (x : Int) (x1 : Int) (p_1 : List (Int × Int)) (b0 : Int → Int → (List (Int × Int)) → Option α) (r0 : Bool → Option α) : Option α :=
  bif decide (x1 < x) then
    bif (decide (0 ≤ x1) && decide (x1 < (((List.length p_1) : Nat) : Int))) then
      (p_1[x1.toNat]?).bind fun e_ =>
      F0 k p_1 x1 fun v v1 =>
      G6 k x1 x x1 (((List.length p_1) : Nat) : Int) 0 p_1 e_.1 e_.2 v v1
        (fun _ x6 x7 _ _ p_3 _ _ _ _ =>
          G2 k x6 (w64 (x7 + 1)) p_3 b0 r0)
        r0
    else
      none
  else
    b0 x x1 p_1
theorem impl_polygon_convex_l2_gen {α : Type} (F0 : T14 α) (F1 : T8 α) (G6 : Nat → Int → Int → Int → Int → Int → (List (Int × Int)) → Int → Int → Int → Int → (Int → Int → Int → Int → Int → (List (Int × Int)) → Int → Int → Int → Int → Option α) → (Bool → Option α) → Option α) (G2 : Nat → Int → Int → (List (Int × Int)) → (Int → Int → (List (Int × Int)) → Option α) → (Bool → Option α) → Option α) (n : Nat) (x : Int) (x1 : Int) (p_1 : List (Int × Int)) (brk : Nat → List P1 → Option α) (ret : Res → Option α) : ev ((impl_polygon_convex_XG F0 F1 G6 G2 n).env Try.prog Try.f23 1 []) (findLoop (loopsIn (Try.f23.body.getD .skip)) 2) ((impl_polygon_convex_t2.build [.int x, .int x1, .rows .pt p_1]).getD ⟨[], []⟩) (roundK (1 * 64) impl_polygon_convex_t2 (fun q => impl_polygon_convex_uG2 G2 n q brk ret) brk ret) = impl_polygon_convex_lb2 F0 F1 G6 G2 n x x1 p_1 (fun x x1 p_1 => brk 0 [.int x, .int x1, .rows .pt p_1]) (fun v1 => ret ⟨[.bool v1], []⟩) := by kernel_rfl
theorem impl_polygon_convex_l2_eq {α : Type} (k : Nat) (x : Int) (x1 : Int) (p_1 : List (Int × Int)) (b0 : Int → Int → (List (Int × Int)) → Option α) (r0 : Bool → Option α) : impl_polygon_convex_lb2 impl_polygon_next impl_turn impl_polygon_convex_l6 impl_polygon_convex_l2 k x x1 p_1 b0 r0 = impl_polygon_convex_l2 (k + 1) x x1 p_1 b0 r0 := (impl_polygon_convex_lb2.eq_1 impl_polygon_next impl_turn impl_polygon_convex_l6 impl_polygon_convex_l2 k x x1 p_1 b0 r0).trans (show impl_polygon_convex_l2 (k + 1) x x1 p_1 b0 r0 = _ from impl_polygon_convex_l2.eq_2 _ _ _ _ _ _ ).symm
theorem impl_polygon_convex_l2_rn {α : Type} (G : Nat → Int → Int → (List (Int × Int)) → (Int → Int → (List (Int × Int)) → Option α) → (Bool → Option α) → Option α) (n : Nat) (x : Int) (x1 : Int) (p_1 : List (Int × Int)) (brk : Nat → List P1 → Option α) (ret : Res → Option α) : impl_polygon_convex_uG2 G n [.int x, .int x1, .rows .pt p_1] brk ret = G n x x1 p_1 (fun x x1 p_1 => brk 0 [.int x, .int x1, .rows .pt p_1]) (fun v1 => ret ⟨[.bool v1], []⟩) := rfl
theorem impl_polygon_convex_l2_ev {α : Type} (n : Nat) (x : Int) (x1 : Int) (p_1 : List (Int × Int)) (brk : Nat → List P1 → Option α) (ret : Res → Option α) : ev ((impl_polygon_convex_X n).env Try.prog Try.f23 1 []) (findLoop (loopsIn (Try.f23.body.getD .skip)) 2) ((impl_polygon_convex_t2.build [.int x, .int x1, .rows .pt p_1]).getD ⟨[], []⟩) (roundK (1 * 64) impl_polygon_convex_t2 (fun q => impl_polygon_convex_u2 n q brk ret) brk ret) = impl_polygon_convex_u2 (n + 1) [.int x, .int x1, .rows .pt p_1] brk ret := (impl_polygon_convex_l2_gen impl_polygon_next impl_turn impl_polygon_convex_l6 impl_polygon_convex_l2 n x x1 p_1 brk ret).trans ((impl_polygon_convex_l2_eq n x x1 p_1 (fun x x1 p_1 => brk 0 [.int x, .int x1, .rows .pt p_1]) (fun v1 => ret ⟨[.bool v1], []⟩)).trans ((impl_polygon_convex_u2.eq_1 (n + 1) [.int x, .int x1, .rows .pt p_1] brk ret).trans (impl_polygon_convex_l2_rn impl_polygon_convex_l2 (n + 1) x x1 p_1 brk ret)).symm)
def impl_polygon_convex_body {α : Type} (F0 : T14 α) (F1 : T8 α) (G6 : Nat → Int → Int → Int → Int → Int → (List (Int × Int)) → Int → Int → Int → Int → (Int → Int → Int → Int → Int → (List (Int × Int)) → Int → Int → Int → Int → Option α) → (Bool → Option α) → Option α) (G2 : Nat → Int → Int → (List (Int × Int)) → (Int → Int → (List (Int × Int)) → Option α) → (Bool → Option α) → Option α) (k : Nat) (p_ : List (Int × Int)) (r0 : Bool → Option α) : Option α :=
  G2 k (((List.length p_) : Nat) : Int) 0 p_
    (fun _ _ _ =>
      r0 true)
    r0
theorem impl_polygon_convex_gen {α : Type} (F0 : T14 α) (F1 : T8 α) (G6 : Nat → Int → Int → Int → Int → Int → (List (Int × Int)) → Int → Int → Int → Int → (Int → Int → Int → Int → Int → (List (Int × Int)) → Int → Int → Int → Int → Option α) → (Bool → Option α) → Option α) (G2 : Nat → Int → Int → (List (Int × Int)) → (Int → Int → (List (Int × Int)) → Option α) → (Bool → Option α) → Option α) (n : Nat) (p_ : List (Int × Int)) (κ : Res → Option α) : evFn Try.prog (impl_polygon_convex_XG F0 F1 G6 G2 n) Try.f23 (((buildDs impl_polygon_convex_sh [.rows .pt p_]).map Prod.fst).getD []) κ = impl_polygon_convex_body F0 F1 G6 G2 n p_ (fun v1 => κ ⟨[.bool v1], []⟩) := by kernel_rfl
theorem impl_polygon_convex_eq {α : Type} (n : Nat) (p_ : List (Int × Int)) (r0 : Bool → Option α) : impl_polygon_convex_body (α := α) impl_polygon_next impl_turn impl_polygon_convex_l6 impl_polygon_convex_l2 n p_ r0 = impl_polygon_convex (α := α) n p_ r0 := (impl_polygon_convex_body.eq_1 impl_polygon_next impl_turn impl_polygon_convex_l6 impl_polygon_convex_l2 n p_ r0).trans (impl_polygon_convex.eq_1 n p_ r0).symm
theorem impl_polygon_convex_rn {α : Type} (F : T10 α) (n : Nat) (p_ : List (Int × Int)) (κ : Res → Option α) : impl_polygon_convex_runG F n [.rows .pt p_] κ = F n p_ (fun v1 => κ ⟨[.bool v1], []⟩) := rfl
theorem impl_polygon_convex_ev {α : Type} (n : Nat) (p_ : List (Int × Int)) (κ : Res → Option α) : evFn Try.prog (impl_polygon_convex_X n) Try.f23 (((buildDs impl_polygon_convex_sh [.rows .pt p_]).map Prod.fst).getD []) κ = impl_polygon_convex_run n [.rows .pt p_] κ := (impl_polygon_convex_gen impl_polygon_next impl_turn impl_polygon_convex_l6 impl_polygon_convex_l2 n p_ κ).trans ((impl_polygon_convex_eq n p_ (fun v1 => κ ⟨[.bool v1], []⟩)).trans ((impl_polygon_convex_run.eq_1 n [.rows .pt p_] κ).trans (impl_polygon_convex_rn impl_polygon_convex n p_ κ)).symm)
theorem impl_polygon_convex_en (p_ : List (Int × Int)) : (entry 0 (((buildDs impl_polygon_convex_sh [.rows .pt p_]).map Prod.fst).getD [])).map (fun x => (x.1.length, x.2.lent)) = some (1, []) := by kernel_rfl
theorem impl_polygon_convex_good {α : Type} : ∀ n, GoodFn (α := α) Try.prog 23 (byShape impl_polygon_convex_sh (impl_polygon_convex_run n)) := by
  refine fn_good' Try.func23 (c := (Try.f23.body.getD .skip)) (by kernel_rfl) (by kernel_rfl) (by kernel_rfl) impl_polygon_convex_C impl_polygon_convex_M eqs impl_polygon_convex_lps impl_polygon_convex_jt (fun n => tabC_good (List.forall_mem_cons.2 ⟨(impl_polygon_next_good n), (List.forall_mem_cons.2 ⟨(impl_turn_good n), (fun _ h => absurd h List.not_mem_nil)⟩)⟩)) eqs_ok impl_polygon_convex_Lt ?_ ?_ impl_polygon_convex_sh impl_polygon_convex_run ?_
  · refine List.forall_mem_cons.2 ⟨?_, List.forall_mem_cons.2 ⟨?_, (fun _ h => absurd h List.not_mem_nil)⟩⟩
    · intro p brk ret; show impl_polygon_convex_u6 0 p brk ret = none; unfold impl_polygon_convex_u6 impl_polygon_convex_uG6; split <;> rfl
    · intro p brk ret; show impl_polygon_convex_u2 0 p brk ret = none; unfold impl_polygon_convex_u2 impl_polygon_convex_uG2; split <;> rfl
  · refine List.forall_mem_cons.2 ⟨?_, List.forall_mem_cons.2 ⟨?_, (fun _ h => absurd h List.not_mem_nil)⟩⟩
    · intro np lent hL n p brk ret st r hb hr
      obtain ⟨rfl, rfl⟩ := hL
      rw [← tpl_of hb]
      change impl_polygon_convex_u6 (n + 1) p brk ret = some r at hr
      have hr0 := hr
      unfold impl_polygon_convex_u6 impl_polygon_convex_uG6 at hr
      split at hr
      · exact (impl_polygon_convex_l6_ev n _ _ _ _ _ _ _ _ _ _ brk ret).trans hr0
      · cases hr
    · intro np lent hL n p brk ret st r hb hr
      obtain ⟨rfl, rfl⟩ := hL
      rw [← tpl_of hb]
      change impl_polygon_convex_u2 (n + 1) p brk ret = some r at hr
      have hr0 := hr
      unfold impl_polygon_convex_u2 impl_polygon_convex_uG2 at hr
      split at hr
      · exact (impl_polygon_convex_l2_ev n _ _ _ brk ret).trans hr0
      · cases hr
  · intro n p κ r ds hd hr
    have hr0 := hr
    unfold impl_polygon_convex_run impl_polygon_convex_runG at hr
    split at hr
    · rw [← ds_of hd]
      exact ⟨en_of (impl_polygon_convex_en _) ⟨rfl, rfl⟩, (impl_polygon_convex_ev n _ κ).trans hr0⟩
    · cases hr

end Go.Proofs.Ythgajnmmeibpiaa
