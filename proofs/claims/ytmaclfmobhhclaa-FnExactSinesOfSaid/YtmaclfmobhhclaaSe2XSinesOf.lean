/- The program's functions hold to their readings without memory: printed by a program of ours. -/
import Derived.Test.YtmaclfmobhhclaaSe1XSinesOf
namespace Go.Proofs.Ytmaclfmobhhclaa
open Go Go.Ev Go.Sh Go.Proofs

/-! loop.example/g01297/laws.eqInt64S -/
def laws_eqInt64S_1N_sh : List SkD := [.sl 2 (.int .i64), .nilsl]
def laws_eqInt64S_1N_runG {α : Type} (F : Nat → List Int → (Bool → Option α) → Option α) (n : Nat) (p : List P1) (κ : Res → Option α) : Option α := match p with
  | [.rows (.int .i64) a] => F n a (fun v1 => κ ⟨[.bool v1], []⟩)
  | _ => none
def laws_eqInt64S_1N_run {α : Type} (n : Nat) (p : List P1) (κ : Res → Option α) : Option α := laws_eqInt64S_1N_runG laws_eqInt64S_1N n p κ
def laws_eqInt64S_1N_CG {α : Type}  (n : Nat) : FuncId → List D → (Res → Option α) → Option α := tabC []
def laws_eqInt64S_1N_C {α : Type} (n : Nat) : FuncId → List D → (Res → Option α) → Option α := laws_eqInt64S_1N_CG n
def laws_eqInt64S_1N_M : FuncId → List Nat := tabM []
def laws_eqInt64S_1N_t4 : Tpl := ⟨[.sl 0, .nilsl, .any, .any, .any, .int .i64, .any, .any, .any, .any, .any, .any, .any, .any, .any, .any, .any, .any, .any, .any, .any, .any, .any, .any, .any, .any], [(0, .rows 0 2 (.int .i64))], []⟩
def laws_eqInt64S_1N_uG4 {α : Type} (G : Nat → Int → List Int → (Int → List Int → Option α) → (Bool → Option α) → Option α) (n : Nat) (p : List P1) (brk : Nat → List P1 → Option α) (ret : Res → Option α) : Option α := match p with
  | [.int i, .rows (.int .i64) a1] => G n i a1 (fun i a1 => brk 0 [.int i, .rows (.int .i64) a1]) (fun v1 => ret ⟨[.bool v1], []⟩)
  | _ => none
def laws_eqInt64S_1N_u4 {α : Type} (n : Nat) (p : List P1) (brk : Nat → List P1 → Option α) (ret : Res → Option α) : Option α := laws_eqInt64S_1N_uG4 laws_eqInt64S_1N_l4 n p brk ret
def laws_eqInt64S_1N_lpsG {α : Type} (G4 : Nat → Int → List Int → (Int → List Int → Option α) → (Bool → Option α) → Option α) : List (LoopT α) := [⟨4, laws_eqInt64S_1N_t4, laws_eqInt64S_1N_uG4 G4⟩]
def laws_eqInt64S_1N_lps {α : Type} : List (LoopT α) := laws_eqInt64S_1N_lpsG laws_eqInt64S_1N_l4
def laws_eqInt64S_1N_XG {α : Type}  (G4 : Nat → Int → List Int → (Int → List Int → Option α) → (Bool → Option α) → Option α) (n : Nat) : Ctx α := ⟨laws_eqInt64S_1N_CG n, laws_eqInt64S_1N_M, eqs, lpOf (laws_eqInt64S_1N_lpsG G4) n⟩
def laws_eqInt64S_1N_X {α : Type} (n : Nat) : Ctx α := laws_eqInt64S_1N_XG laws_eqInt64S_1N_l4 n
def laws_eqInt64S_1N_Lt (np : Nat) (lent : List (Bool × Nat × Blk)) : Prop := np = 2 ∧ lent = []
def laws_eqInt64S_1N_lb4 {α : Type}  (G4 : Nat → Int → List Int → (Int → List Int → Option α) → (Bool → Option α) → Option α) (k : Nat) (i : Int) (a1 : List Int) (b0 : Int → List Int → Option α) (r0 : Bool → Option α) : Option α :=
  bif decide (i < (((List.length a1) : Nat) : Int)) then
    bif (decide (0 ≤ i) && decide (i < (((List.length a1) : Nat) : Int))) then
      (a1[i.toNat]?).bind fun e_ =>
      none
    else
      none
  else
    b0 i a1
theorem laws_eqInt64S_1N_l4_gen {α : Type}  (G4 : Nat → Int → List Int → (Int → List Int → Option α) → (Bool → Option α) → Option α) (n : Nat) (i : Int) (a1 : List Int) (brk : Nat → List P1 → Option α) (ret : Res → Option α) : ev ((laws_eqInt64S_1N_XG G4 n).env Try.prog Try.f7 2 []) (findLoop (loopsIn (Try.f7.body.getD .skip)) 4) ((laws_eqInt64S_1N_t4.build [.int i, .rows (.int .i64) a1]).getD ⟨[], []⟩) (roundK (2 * 64) laws_eqInt64S_1N_t4 (fun q => laws_eqInt64S_1N_uG4 G4 n q brk ret) brk ret) = laws_eqInt64S_1N_lb4 G4 n i a1 (fun i a1 => brk 0 [.int i, .rows (.int .i64) a1]) (fun v1 => ret ⟨[.bool v1], []⟩) := by kernel_rfl
theorem laws_eqInt64S_1N_l4_eq {α : Type} (k : Nat) (i : Int) (a1 : List Int) (b0 : Int → List Int → Option α) (r0 : Bool → Option α) : laws_eqInt64S_1N_lb4 laws_eqInt64S_1N_l4 k i a1 b0 r0 = laws_eqInt64S_1N_l4 (k + 1) i a1 b0 r0 := (laws_eqInt64S_1N_lb4.eq_1 laws_eqInt64S_1N_l4 k i a1 b0 r0).trans (show laws_eqInt64S_1N_l4 (k + 1) i a1 b0 r0 = _ from laws_eqInt64S_1N_l4.eq_2 _ _ _ _ _ ).symm
theorem laws_eqInt64S_1N_l4_rn {α : Type} (G : Nat → Int → List Int → (Int → List Int → Option α) → (Bool → Option α) → Option α) (n : Nat) (i : Int) (a1 : List Int) (brk : Nat → List P1 → Option α) (ret : Res → Option α) : laws_eqInt64S_1N_uG4 G n [.int i, .rows (.int .i64) a1] brk ret = G n i a1 (fun i a1 => brk 0 [.int i, .rows (.int .i64) a1]) (fun v1 => ret ⟨[.bool v1], []⟩) := rfl
theorem laws_eqInt64S_1N_l4_ev {α : Type} (n : Nat) (i : Int) (a1 : List Int) (brk : Nat → List P1 → Option α) (ret : Res → Option α) : ev ((laws_eqInt64S_1N_X n).env Try.prog Try.f7 2 []) (findLoop (loopsIn (Try.f7.body.getD .skip)) 4) ((laws_eqInt64S_1N_t4.build [.int i, .rows (.int .i64) a1]).getD ⟨[], []⟩) (roundK (2 * 64) laws_eqInt64S_1N_t4 (fun q => laws_eqInt64S_1N_u4 n q brk ret) brk ret) = laws_eqInt64S_1N_u4 (n + 1) [.int i, .rows (.int .i64) a1] brk ret := (laws_eqInt64S_1N_l4_gen laws_eqInt64S_1N_l4 n i a1 brk ret).trans ((laws_eqInt64S_1N_l4_eq n i a1 (fun i a1 => brk 0 [.int i, .rows (.int .i64) a1]) (fun v1 => ret ⟨[.bool v1], []⟩)).trans ((laws_eqInt64S_1N_u4.eq_1 (n + 1) [.int i, .rows (.int .i64) a1] brk ret).trans (laws_eqInt64S_1N_l4_rn laws_eqInt64S_1N_l4 (n + 1) i a1 brk ret)).symm)
def laws_eqInt64S_1N_body {α : Type}  (G4 : Nat → Int → List Int → (Int → List Int → Option α) → (Bool → Option α) → Option α) (k : Nat) (a : List Int) (r0 : Bool → Option α) : Option α :=
  bif (!decide ((((List.length a) : Nat) : Int) = 0)) then
    r0 false
  else
    G4 k 0 a
      (fun i1 a2 =>
        r0 true)
      r0
theorem laws_eqInt64S_1N_gen {α : Type}  (G4 : Nat → Int → List Int → (Int → List Int → Option α) → (Bool → Option α) → Option α) (n : Nat) (a : List Int) (κ : Res → Option α) : evFn Try.prog (laws_eqInt64S_1N_XG G4 n) Try.f7 (((buildDs laws_eqInt64S_1N_sh [.rows (.int .i64) a]).map Prod.fst).getD []) κ = laws_eqInt64S_1N_body G4 n a (fun v1 => κ ⟨[.bool v1], []⟩) := by kernel_rfl
theorem laws_eqInt64S_1N_eq {α : Type} (n : Nat) (a : List Int) (r0 : Bool → Option α) : laws_eqInt64S_1N_body laws_eqInt64S_1N_l4 n a r0 = laws_eqInt64S_1N n a r0 := (laws_eqInt64S_1N_body.eq_1 laws_eqInt64S_1N_l4 n a r0).trans (laws_eqInt64S_1N.eq_1 n a r0).symm
theorem laws_eqInt64S_1N_rn {α : Type} (F : Nat → List Int → (Bool → Option α) → Option α) (n : Nat) (a : List Int) (κ : Res → Option α) : laws_eqInt64S_1N_runG F n [.rows (.int .i64) a] κ = F n a (fun v1 => κ ⟨[.bool v1], []⟩) := rfl
theorem laws_eqInt64S_1N_ev {α : Type} (n : Nat) (a : List Int) (κ : Res → Option α) : evFn Try.prog (laws_eqInt64S_1N_X n) Try.f7 (((buildDs laws_eqInt64S_1N_sh [.rows (.int .i64) a]).map Prod.fst).getD []) κ = laws_eqInt64S_1N_run n [.rows (.int .i64) a] κ := (laws_eqInt64S_1N_gen laws_eqInt64S_1N_l4 n a κ).trans ((laws_eqInt64S_1N_eq n a (fun v1 => κ ⟨[.bool v1], []⟩)).trans ((laws_eqInt64S_1N_run.eq_1 n [.rows (.int .i64) a] κ).trans (laws_eqInt64S_1N_rn laws_eqInt64S_1N n a κ)).symm)
theorem laws_eqInt64S_1N_en (a : List Int) : (entry 0 (((buildDs laws_eqInt64S_1N_sh [.rows (.int .i64) a]).map Prod.fst).getD [])).map (fun x => (x.1.length, x.2.lent)) = some (2, []) := by kernel_rfl
theorem laws_eqInt64S_1N_good {α : Type} : ∀ n, GoodFn (α := α) Try.prog 7 (byShape laws_eqInt64S_1N_sh (laws_eqInt64S_1N_run n)) := by
  refine fn_good' Try.func7 (c := (Try.f7.body.getD .skip)) (by kernel_rfl) (by kernel_rfl) (by kernel_rfl) laws_eqInt64S_1N_C laws_eqInt64S_1N_M eqs laws_eqInt64S_1N_lps (fun n => tabC_good (fun _ h => absurd h List.not_mem_nil)) eqs_ok laws_eqInt64S_1N_Lt ?_ ?_ laws_eqInt64S_1N_sh laws_eqInt64S_1N_run ?_
  · refine List.forall_mem_cons.2 ⟨?_, (fun _ h => absurd h List.not_mem_nil)⟩
    · intro p brk ret; show laws_eqInt64S_1N_u4 0 p brk ret = none; unfold laws_eqInt64S_1N_u4 laws_eqInt64S_1N_uG4; split <;> rfl
  · refine List.forall_mem_cons.2 ⟨?_, (fun _ h => absurd h List.not_mem_nil)⟩
    · intro np lent hL n p brk ret st r hb hr
      obtain ⟨rfl, rfl⟩ := hL
      rw [← tpl_of hb]
      change laws_eqInt64S_1N_u4 (n + 1) p brk ret = some r at hr
      have hr0 := hr
      unfold laws_eqInt64S_1N_u4 laws_eqInt64S_1N_uG4 at hr
      split at hr
      · exact (laws_eqInt64S_1N_l4_ev n _ _ brk ret).trans hr0
      · cases hr
  · intro n p κ r ds hd hr
    have hr0 := hr
    unfold laws_eqInt64S_1N_run laws_eqInt64S_1N_runG at hr
    split at hr
    · rw [← ds_of hd]
      exact ⟨en_of (laws_eqInt64S_1N_en _) ⟨rfl, rfl⟩, (laws_eqInt64S_1N_ev n _ κ).trans hr0⟩
    · cases hr

/-! loop.example/g01297/laws.markInt64S -/
def laws_markInt64S_sh : List SkD := [.msl 2 (.int .i64), .int .i64]
def laws_markInt64S_runG {α : Type} (F : Nat → List Int → Int → (Int → List Int → Option α) → Option α) (n : Nat) (p : List P1) (κ : Res → Option α) : Option α := match p with
  | [.rows (.int .i64) a, .int k_] => F n a k_ (fun v1 v2 => κ ⟨[.int .i64 v1], [.sl 2 (.int .i64) v2]⟩)
  | _ => none
def laws_markInt64S_run {α : Type} (n : Nat) (p : List P1) (κ : Res → Option α) : Option α := laws_markInt64S_runG laws_markInt64S n p κ
def laws_markInt64S_CG {α : Type}  (n : Nat) : FuncId → List D → (Res → Option α) → Option α := tabC []
def laws_markInt64S_C {α : Type} (n : Nat) : FuncId → List D → (Res → Option α) → Option α := laws_markInt64S_CG n
def laws_markInt64S_M : FuncId → List Nat := tabM []
def laws_markInt64S_t2 : Tpl := ⟨[.sl 0, .int .i64, .any, .any, .any, .int .i64, .any, .any, .any, .any, .any, .any, .any, .any, .any, .any, .any, .any, .any], [(0, .rows 1 2 (.int .i64))], []⟩
def laws_markInt64S_uG2 {α : Type} (G : Nat → Int → Int → List Int → (Int → Int → List Int → Option α) → (Int → List Int → Option α) → Option α) (n : Nat) (p : List P1) (brk : Nat → List P1 → Option α) (ret : Res → Option α) : Option α := match p with
  | [.int k_1, .int i, .rows (.int .i64) a1] => G n k_1 i a1 (fun k_1 i a1 => brk 0 [.int k_1, .int i, .rows (.int .i64) a1]) (fun v1 v2 => ret ⟨[.int .i64 v1], [.sl 2 (.int .i64) v2]⟩)
  | _ => none
def laws_markInt64S_u2 {α : Type} (n : Nat) (p : List P1) (brk : Nat → List P1 → Option α) (ret : Res → Option α) : Option α := laws_markInt64S_uG2 laws_markInt64S_l2 n p brk ret
def laws_markInt64S_lpsG {α : Type} (G2 : Nat → Int → Int → List Int → (Int → Int → List Int → Option α) → (Int → List Int → Option α) → Option α) : List (LoopT α) := [⟨2, laws_markInt64S_t2, laws_markInt64S_uG2 G2⟩]
def laws_markInt64S_lps {α : Type} : List (LoopT α) := laws_markInt64S_lpsG laws_markInt64S_l2
def laws_markInt64S_XG {α : Type}  (G2 : Nat → Int → Int → List Int → (Int → Int → List Int → Option α) → (Int → List Int → Option α) → Option α) (n : Nat) : Ctx α := ⟨laws_markInt64S_CG n, laws_markInt64S_M, eqs, lpOf (laws_markInt64S_lpsG G2) n⟩
def laws_markInt64S_X {α : Type} (n : Nat) : Ctx α := laws_markInt64S_XG laws_markInt64S_l2 n
def laws_markInt64S_Lt (np : Nat) (lent : List (Bool × Nat × Blk)) : Prop := np = 2 ∧ ∃ (a : List Int), lent = [(true, 0, .rows 1 2 (.int .i64) a)]
def laws_markInt64S_lb2 {α : Type}  (G2 : Nat → Int → Int → List Int → (Int → Int → List Int → Option α) → (Int → List Int → Option α) → Option α) (k : Nat) (k_1 : Int) (i : Int) (a1 : List Int) (b0 : Int → Int → List Int → Option α) (r0 : Int → List Int → Option α) : Option α :=
  bif decide (i < (((List.length a1) : Nat) : Int)) then
    bif (decide (0 ≤ i) && decide (i < (((List.length a1) : Nat) : Int))) then
      (a1[i.toNat]?).bind fun _ =>
      G2 k (w64 (k_1 + 1)) (w64 (i + 1)) (List.set a1 i.toNat k_1) b0 r0
    else
      none
  else
    b0 k_1 i a1
theorem laws_markInt64S_l2_gen {α : Type}  (G2 : Nat → Int → Int → List Int → (Int → Int → List Int → Option α) → (Int → List Int → Option α) → Option α) (n : Nat) (a_0 : List Int) (k_1 : Int) (i : Int) (a1 : List Int) (brk : Nat → List P1 → Option α) (ret : Res → Option α) : ev ((laws_markInt64S_XG G2 n).env Try.prog Try.f8 2 [(true, 0, .rows 1 2 (.int .i64) a_0)]) (findLoop (loopsIn (Try.f8.body.getD .skip)) 2) ((laws_markInt64S_t2.build [.int k_1, .int i, .rows (.int .i64) a1]).getD ⟨[], []⟩) (roundK (2 * 64) laws_markInt64S_t2 (fun q => laws_markInt64S_uG2 G2 n q brk ret) brk ret) = laws_markInt64S_lb2 G2 n k_1 i a1 (fun k_1 i a1 => brk 0 [.int k_1, .int i, .rows (.int .i64) a1]) (fun v1 v2 => ret ⟨[.int .i64 v1], [.sl 2 (.int .i64) v2]⟩) := by kernel_rfl
theorem laws_markInt64S_l2_eq {α : Type} (k : Nat) (k_1 : Int) (i : Int) (a1 : List Int) (b0 : Int → Int → List Int → Option α) (r0 : Int → List Int → Option α) : laws_markInt64S_lb2 laws_markInt64S_l2 k k_1 i a1 b0 r0 = laws_markInt64S_l2 (k + 1) k_1 i a1 b0 r0 := (laws_markInt64S_lb2.eq_1 laws_markInt64S_l2 k k_1 i a1 b0 r0).trans (show laws_markInt64S_l2 (k + 1) k_1 i a1 b0 r0 = _ from laws_markInt64S_l2.eq_2 _ _ _ _ _ _ ).symm
theorem laws_markInt64S_l2_rn {α : Type} (G : Nat → Int → Int → List Int → (Int → Int → List Int → Option α) → (Int → List Int → Option α) → Option α) (n : Nat) (k_1 : Int) (i : Int) (a1 : List Int) (brk : Nat → List P1 → Option α) (ret : Res → Option α) : laws_markInt64S_uG2 G n [.int k_1, .int i, .rows (.int .i64) a1] brk ret = G n k_1 i a1 (fun k_1 i a1 => brk 0 [.int k_1, .int i, .rows (.int .i64) a1]) (fun v1 v2 => ret ⟨[.int .i64 v1], [.sl 2 (.int .i64) v2]⟩) := rfl
theorem laws_markInt64S_l2_ev {α : Type} (n : Nat) (a_0 : List Int) (k_1 : Int) (i : Int) (a1 : List Int) (brk : Nat → List P1 → Option α) (ret : Res → Option α) : ev ((laws_markInt64S_X n).env Try.prog Try.f8 2 [(true, 0, .rows 1 2 (.int .i64) a_0)]) (findLoop (loopsIn (Try.f8.body.getD .skip)) 2) ((laws_markInt64S_t2.build [.int k_1, .int i, .rows (.int .i64) a1]).getD ⟨[], []⟩) (roundK (2 * 64) laws_markInt64S_t2 (fun q => laws_markInt64S_u2 n q brk ret) brk ret) = laws_markInt64S_u2 (n + 1) [.int k_1, .int i, .rows (.int .i64) a1] brk ret := (laws_markInt64S_l2_gen laws_markInt64S_l2 n a_0 k_1 i a1 brk ret).trans ((laws_markInt64S_l2_eq n k_1 i a1 (fun k_1 i a1 => brk 0 [.int k_1, .int i, .rows (.int .i64) a1]) (fun v1 v2 => ret ⟨[.int .i64 v1], [.sl 2 (.int .i64) v2]⟩)).trans ((laws_markInt64S_u2.eq_1 (n + 1) [.int k_1, .int i, .rows (.int .i64) a1] brk ret).trans (laws_markInt64S_l2_rn laws_markInt64S_l2 (n + 1) k_1 i a1 brk ret)).symm)
def laws_markInt64S_body {α : Type}  (G2 : Nat → Int → Int → List Int → (Int → Int → List Int → Option α) → (Int → List Int → Option α) → Option α) (k : Nat) (a : List Int) (k_ : Int) (r0 : Int → List Int → Option α) : Option α :=
  G2 k k_ 0 a
    (fun k_2 i1 a2 =>
      r0 k_2 a2)
    r0
theorem laws_markInt64S_gen {α : Type}  (G2 : Nat → Int → Int → List Int → (Int → Int → List Int → Option α) → (Int → List Int → Option α) → Option α) (n : Nat) (a : List Int) (k_ : Int) (κ : Res → Option α) : evFn Try.prog (laws_markInt64S_XG G2 n) Try.f8 (((buildDs laws_markInt64S_sh [.rows (.int .i64) a, .int k_]).map Prod.fst).getD []) κ = laws_markInt64S_body G2 n a k_ (fun v1 v2 => κ ⟨[.int .i64 v1], [.sl 2 (.int .i64) v2]⟩) := by kernel_rfl
theorem laws_markInt64S_eq {α : Type} (n : Nat) (a : List Int) (k_ : Int) (r0 : Int → List Int → Option α) : laws_markInt64S_body laws_markInt64S_l2 n a k_ r0 = laws_markInt64S n a k_ r0 := (laws_markInt64S_body.eq_1 laws_markInt64S_l2 n a k_ r0).trans (laws_markInt64S.eq_1 n a k_ r0).symm
theorem laws_markInt64S_rn {α : Type} (F : Nat → List Int → Int → (Int → List Int → Option α) → Option α) (n : Nat) (a : List Int) (k_ : Int) (κ : Res → Option α) : laws_markInt64S_runG F n [.rows (.int .i64) a, .int k_] κ = F n a k_ (fun v1 v2 => κ ⟨[.int .i64 v1], [.sl 2 (.int .i64) v2]⟩) := rfl
theorem laws_markInt64S_ev {α : Type} (n : Nat) (a : List Int) (k_ : Int) (κ : Res → Option α) : evFn Try.prog (laws_markInt64S_X n) Try.f8 (((buildDs laws_markInt64S_sh [.rows (.int .i64) a, .int k_]).map Prod.fst).getD []) κ = laws_markInt64S_run n [.rows (.int .i64) a, .int k_] κ := (laws_markInt64S_gen laws_markInt64S_l2 n a k_ κ).trans ((laws_markInt64S_eq n a k_ (fun v1 v2 => κ ⟨[.int .i64 v1], [.sl 2 (.int .i64) v2]⟩)).trans ((laws_markInt64S_run.eq_1 n [.rows (.int .i64) a, .int k_] κ).trans (laws_markInt64S_rn laws_markInt64S n a k_ κ)).symm)
theorem laws_markInt64S_en (a : List Int) (k_ : Int) : (entry 0 (((buildDs laws_markInt64S_sh [.rows (.int .i64) a, .int k_]).map Prod.fst).getD [])).map (fun x => (x.1.length, x.2.lent)) = some (2, [(true, 0, .rows 1 2 (.int .i64) a)]) := by kernel_rfl
theorem laws_markInt64S_good {α : Type} : ∀ n, GoodFn (α := α) Try.prog 8 (byShape laws_markInt64S_sh (laws_markInt64S_run n)) := by
  refine fn_good' Try.func8 (c := (Try.f8.body.getD .skip)) (by kernel_rfl) (by kernel_rfl) (by kernel_rfl) laws_markInt64S_C laws_markInt64S_M eqs laws_markInt64S_lps (fun n => tabC_good (fun _ h => absurd h List.not_mem_nil)) eqs_ok laws_markInt64S_Lt ?_ ?_ laws_markInt64S_sh laws_markInt64S_run ?_
  · refine List.forall_mem_cons.2 ⟨?_, (fun _ h => absurd h List.not_mem_nil)⟩
    · intro p brk ret; show laws_markInt64S_u2 0 p brk ret = none; unfold laws_markInt64S_u2 laws_markInt64S_uG2; split <;> rfl
  · refine List.forall_mem_cons.2 ⟨?_, (fun _ h => absurd h List.not_mem_nil)⟩
    · intro np lent hL n p brk ret st r hb hr
      obtain ⟨rfl, a_0, rfl⟩ := hL
      rw [← tpl_of hb]
      change laws_markInt64S_u2 (n + 1) p brk ret = some r at hr
      have hr0 := hr
      unfold laws_markInt64S_u2 laws_markInt64S_uG2 at hr
      split at hr
      · exact (laws_markInt64S_l2_ev n _ _ _ _ brk ret).trans hr0
      · cases hr
  · intro n p κ r ds hd hr
    have hr0 := hr
    unfold laws_markInt64S_run laws_markInt64S_runG at hr
    split at hr
    · rw [← ds_of hd]
      exact ⟨en_of (laws_markInt64S_en _ _) ⟨rfl, _, rfl⟩, (laws_markInt64S_ev n _ _ κ).trans hr0⟩
    · cases hr

/-! loop.example/g01297/laws.heldInt64S -/
def laws_heldInt64S_sh : List SkD := [.sl 2 (.int .i64), .int .i64]
def laws_heldInt64S_runG {α : Type} (F : Nat → List Int → Int → (Int → Option α) → Option α) (n : Nat) (p : List P1) (κ : Res → Option α) : Option α := match p with
  | [.rows (.int .i64) a, .int k_] => F n a k_ (fun v1 => κ ⟨[.int .i64 v1], []⟩)
  | _ => none
def laws_heldInt64S_run {α : Type} (n : Nat) (p : List P1) (κ : Res → Option α) : Option α := laws_heldInt64S_runG laws_heldInt64S n p κ
def laws_heldInt64S_CG {α : Type}  (n : Nat) : FuncId → List D → (Res → Option α) → Option α := tabC []
def laws_heldInt64S_C {α : Type} (n : Nat) : FuncId → List D → (Res → Option α) → Option α := laws_heldInt64S_CG n
def laws_heldInt64S_M : FuncId → List Nat := tabM []
def laws_heldInt64S_t2 : Tpl := ⟨[.sl 0, .int .i64, .any, .any, .any, .int .i64, .any, .any, .any, .any, .any, .any, .any, .any, .any, .any, .any, .any, .any, .any, .any], [(0, .rows 0 2 (.int .i64))], []⟩
def laws_heldInt64S_uG2 {α : Type} (G : Nat → Int → Int → List Int → (Int → Int → List Int → Option α) → (Int → Option α) → Option α) (n : Nat) (p : List P1) (brk : Nat → List P1 → Option α) (ret : Res → Option α) : Option α := match p with
  | [.int k_1, .int i, .rows (.int .i64) a1] => G n k_1 i a1 (fun k_1 i a1 => brk 0 [.int k_1, .int i, .rows (.int .i64) a1]) (fun v1 => ret ⟨[.int .i64 v1], []⟩)
  | _ => none
def laws_heldInt64S_u2 {α : Type} (n : Nat) (p : List P1) (brk : Nat → List P1 → Option α) (ret : Res → Option α) : Option α := laws_heldInt64S_uG2 laws_heldInt64S_l2 n p brk ret
def laws_heldInt64S_lpsG {α : Type} (G2 : Nat → Int → Int → List Int → (Int → Int → List Int → Option α) → (Int → Option α) → Option α) : List (LoopT α) := [⟨2, laws_heldInt64S_t2, laws_heldInt64S_uG2 G2⟩]
def laws_heldInt64S_lps {α : Type} : List (LoopT α) := laws_heldInt64S_lpsG laws_heldInt64S_l2
def laws_heldInt64S_XG {α : Type}  (G2 : Nat → Int → Int → List Int → (Int → Int → List Int → Option α) → (Int → Option α) → Option α) (n : Nat) : Ctx α := ⟨laws_heldInt64S_CG n, laws_heldInt64S_M, eqs, lpOf (laws_heldInt64S_lpsG G2) n⟩
def laws_heldInt64S_X {α : Type} (n : Nat) : Ctx α := laws_heldInt64S_XG laws_heldInt64S_l2 n
def laws_heldInt64S_Lt (np : Nat) (lent : List (Bool × Nat × Blk)) : Prop := np = 2 ∧ lent = []
def laws_heldInt64S_lb2 {α : Type}  (G2 : Nat → Int → Int → List Int → (Int → Int → List Int → Option α) → (Int → Option α) → Option α) (k : Nat) (k_1 : Int) (i : Int) (a1 : List Int) (b0 : Int → Int → List Int → Option α) (r0 : Int → Option α) : Option α :=
  bif decide (i < (((List.length a1) : Nat) : Int)) then
    bif (decide (0 ≤ i) && decide (i < (((List.length a1) : Nat) : Int))) then
      (a1[i.toNat]?).bind fun e_ =>
      bif (!decide (e_ = k_1)) then
        r0 (-1)
      else
        G2 k (w64 (k_1 + 1)) (w64 (i + 1)) a1 b0 r0
    else
      none
  else
    b0 k_1 i a1
theorem laws_heldInt64S_l2_gen {α : Type}  (G2 : Nat → Int → Int → List Int → (Int → Int → List Int → Option α) → (Int → Option α) → Option α) (n : Nat) (k_1 : Int) (i : Int) (a1 : List Int) (brk : Nat → List P1 → Option α) (ret : Res → Option α) : ev ((laws_heldInt64S_XG G2 n).env Try.prog Try.f9 2 []) (findLoop (loopsIn (Try.f9.body.getD .skip)) 2) ((laws_heldInt64S_t2.build [.int k_1, .int i, .rows (.int .i64) a1]).getD ⟨[], []⟩) (roundK (2 * 64) laws_heldInt64S_t2 (fun q => laws_heldInt64S_uG2 G2 n q brk ret) brk ret) = laws_heldInt64S_lb2 G2 n k_1 i a1 (fun k_1 i a1 => brk 0 [.int k_1, .int i, .rows (.int .i64) a1]) (fun v1 => ret ⟨[.int .i64 v1], []⟩) := by kernel_rfl
theorem laws_heldInt64S_l2_eq {α : Type} (k : Nat) (k_1 : Int) (i : Int) (a1 : List Int) (b0 : Int → Int → List Int → Option α) (r0 : Int → Option α) : laws_heldInt64S_lb2 laws_heldInt64S_l2 k k_1 i a1 b0 r0 = laws_heldInt64S_l2 (k + 1) k_1 i a1 b0 r0 := (laws_heldInt64S_lb2.eq_1 laws_heldInt64S_l2 k k_1 i a1 b0 r0).trans (show laws_heldInt64S_l2 (k + 1) k_1 i a1 b0 r0 = _ from laws_heldInt64S_l2.eq_2 _ _ _ _ _ _ ).symm
theorem laws_heldInt64S_l2_rn {α : Type} (G : Nat → Int → Int → List Int → (Int → Int → List Int → Option α) → (Int → Option α) → Option α) (n : Nat) (k_1 : Int) (i : Int) (a1 : List Int) (brk : Nat → List P1 → Option α) (ret : Res → Option α) : laws_heldInt64S_uG2 G n [.int k_1, .int i, .rows (.int .i64) a1] brk ret = G n k_1 i a1 (fun k_1 i a1 => brk 0 [.int k_1, .int i, .rows (.int .i64) a1]) (fun v1 => ret ⟨[.int .i64 v1], []⟩) := rfl
theorem laws_heldInt64S_l2_ev {α : Type} (n : Nat) (k_1 : Int) (i : Int) (a1 : List Int) (brk : Nat → List P1 → Option α) (ret : Res → Option α) : ev ((laws_heldInt64S_X n).env Try.prog Try.f9 2 []) (findLoop (loopsIn (Try.f9.body.getD .skip)) 2) ((laws_heldInt64S_t2.build [.int k_1, .int i, .rows (.int .i64) a1]).getD ⟨[], []⟩) (roundK (2 * 64) laws_heldInt64S_t2 (fun q => laws_heldInt64S_u2 n q brk ret) brk ret) = laws_heldInt64S_u2 (n + 1) [.int k_1, .int i, .rows (.int .i64) a1] brk ret := (laws_heldInt64S_l2_gen laws_heldInt64S_l2 n k_1 i a1 brk ret).trans ((laws_heldInt64S_l2_eq n k_1 i a1 (fun k_1 i a1 => brk 0 [.int k_1, .int i, .rows (.int .i64) a1]) (fun v1 => ret ⟨[.int .i64 v1], []⟩)).trans ((laws_heldInt64S_u2.eq_1 (n + 1) [.int k_1, .int i, .rows (.int .i64) a1] brk ret).trans (laws_heldInt64S_l2_rn laws_heldInt64S_l2 (n + 1) k_1 i a1 brk ret)).symm)
def laws_heldInt64S_body {α : Type}  (G2 : Nat → Int → Int → List Int → (Int → Int → List Int → Option α) → (Int → Option α) → Option α) (k : Nat) (a : List Int) (k_ : Int) (r0 : Int → Option α) : Option α :=
  G2 k k_ 0 a
    (fun k_2 i1 a2 =>
      r0 k_2)
    r0
theorem laws_heldInt64S_gen {α : Type}  (G2 : Nat → Int → Int → List Int → (Int → Int → List Int → Option α) → (Int → Option α) → Option α) (n : Nat) (a : List Int) (k_ : Int) (κ : Res → Option α) : evFn Try.prog (laws_heldInt64S_XG G2 n) Try.f9 (((buildDs laws_heldInt64S_sh [.rows (.int .i64) a, .int k_]).map Prod.fst).getD []) κ = laws_heldInt64S_body G2 n a k_ (fun v1 => κ ⟨[.int .i64 v1], []⟩) := by kernel_rfl
theorem laws_heldInt64S_eq {α : Type} (n : Nat) (a : List Int) (k_ : Int) (r0 : Int → Option α) : laws_heldInt64S_body laws_heldInt64S_l2 n a k_ r0 = laws_heldInt64S n a k_ r0 := (laws_heldInt64S_body.eq_1 laws_heldInt64S_l2 n a k_ r0).trans (laws_heldInt64S.eq_1 n a k_ r0).symm
theorem laws_heldInt64S_rn {α : Type} (F : Nat → List Int → Int → (Int → Option α) → Option α) (n : Nat) (a : List Int) (k_ : Int) (κ : Res → Option α) : laws_heldInt64S_runG F n [.rows (.int .i64) a, .int k_] κ = F n a k_ (fun v1 => κ ⟨[.int .i64 v1], []⟩) := rfl
theorem laws_heldInt64S_ev {α : Type} (n : Nat) (a : List Int) (k_ : Int) (κ : Res → Option α) : evFn Try.prog (laws_heldInt64S_X n) Try.f9 (((buildDs laws_heldInt64S_sh [.rows (.int .i64) a, .int k_]).map Prod.fst).getD []) κ = laws_heldInt64S_run n [.rows (.int .i64) a, .int k_] κ := (laws_heldInt64S_gen laws_heldInt64S_l2 n a k_ κ).trans ((laws_heldInt64S_eq n a k_ (fun v1 => κ ⟨[.int .i64 v1], []⟩)).trans ((laws_heldInt64S_run.eq_1 n [.rows (.int .i64) a, .int k_] κ).trans (laws_heldInt64S_rn laws_heldInt64S n a k_ κ)).symm)
theorem laws_heldInt64S_en (a : List Int) (k_ : Int) : (entry 0 (((buildDs laws_heldInt64S_sh [.rows (.int .i64) a, .int k_]).map Prod.fst).getD [])).map (fun x => (x.1.length, x.2.lent)) = some (2, []) := by kernel_rfl
theorem laws_heldInt64S_good {α : Type} : ∀ n, GoodFn (α := α) Try.prog 9 (byShape laws_heldInt64S_sh (laws_heldInt64S_run n)) := by
  refine fn_good' Try.func9 (c := (Try.f9.body.getD .skip)) (by kernel_rfl) (by kernel_rfl) (by kernel_rfl) laws_heldInt64S_C laws_heldInt64S_M eqs laws_heldInt64S_lps (fun n => tabC_good (fun _ h => absurd h List.not_mem_nil)) eqs_ok laws_heldInt64S_Lt ?_ ?_ laws_heldInt64S_sh laws_heldInt64S_run ?_
  · refine List.forall_mem_cons.2 ⟨?_, (fun _ h => absurd h List.not_mem_nil)⟩
    · intro p brk ret; show laws_heldInt64S_u2 0 p brk ret = none; unfold laws_heldInt64S_u2 laws_heldInt64S_uG2; split <;> rfl
  · refine List.forall_mem_cons.2 ⟨?_, (fun _ h => absurd h List.not_mem_nil)⟩
    · intro np lent hL n p brk ret st r hb hr
      obtain ⟨rfl, rfl⟩ := hL
      rw [← tpl_of hb]
      change laws_heldInt64S_u2 (n + 1) p brk ret = some r at hr
      have hr0 := hr
      unfold laws_heldInt64S_u2 laws_heldInt64S_uG2 at hr
      split at hr
      · exact (laws_heldInt64S_l2_ev n _ _ _ brk ret).trans hr0
      · cases hr
  · intro n p κ r ds hd hr
    have hr0 := hr
    unfold laws_heldInt64S_run laws_heldInt64S_runG at hr
    split at hr
    · rw [← ds_of hd]
      exact ⟨en_of (laws_heldInt64S_en _ _) ⟨rfl, rfl⟩, (laws_heldInt64S_ev n _ _ κ).trans hr0⟩
    · cases hr

/-! loop.example/g01297/laws.eqInt64S -/
def laws_eqInt64S_0N_sh : List SkD := [.nilsl, .sl 2 (.int .i64)]
def laws_eqInt64S_0N_runG {α : Type} (F : Nat → List Int → (Bool → Option α) → Option α) (n : Nat) (p : List P1) (κ : Res → Option α) : Option α := match p with
  | [.rows (.int .i64) b_] => F n b_ (fun v1 => κ ⟨[.bool v1], []⟩)
  | _ => none
def laws_eqInt64S_0N_run {α : Type} (n : Nat) (p : List P1) (κ : Res → Option α) : Option α := laws_eqInt64S_0N_runG laws_eqInt64S_0N n p κ
def laws_eqInt64S_0N_CG {α : Type}  (n : Nat) : FuncId → List D → (Res → Option α) → Option α := tabC []
def laws_eqInt64S_0N_C {α : Type} (n : Nat) : FuncId → List D → (Res → Option α) → Option α := laws_eqInt64S_0N_CG n
def laws_eqInt64S_0N_M : FuncId → List Nat := tabM []
def laws_eqInt64S_0N_lpsG {α : Type}  : List (LoopT α) := []
def laws_eqInt64S_0N_lps {α : Type} : List (LoopT α) := laws_eqInt64S_0N_lpsG
def laws_eqInt64S_0N_XG {α : Type}   (n : Nat) : Ctx α := ⟨laws_eqInt64S_0N_CG n, laws_eqInt64S_0N_M, eqs, lpOf (laws_eqInt64S_0N_lpsG) n⟩
def laws_eqInt64S_0N_X {α : Type} (n : Nat) : Ctx α := laws_eqInt64S_0N_XG n
def laws_eqInt64S_0N_Lt (np : Nat) (lent : List (Bool × Nat × Blk)) : Prop := np = 2 ∧ lent = []
def laws_eqInt64S_0N_body {α : Type}   (k : Nat) (b_ : List Int) (r0 : Bool → Option α) : Option α :=
  bif (!decide (0 = (((List.length b_) : Nat) : Int))) then
    r0 false
  else
    r0 true
theorem laws_eqInt64S_0N_gen {α : Type}   (n : Nat) (b_ : List Int) (κ : Res → Option α) : evFn Try.prog (laws_eqInt64S_0N_XG n) Try.f7 (((buildDs laws_eqInt64S_0N_sh [.rows (.int .i64) b_]).map Prod.fst).getD []) κ = laws_eqInt64S_0N_body n b_ (fun v1 => κ ⟨[.bool v1], []⟩) := by kernel_rfl
theorem laws_eqInt64S_0N_eq {α : Type} (n : Nat) (b_ : List Int) (r0 : Bool → Option α) : laws_eqInt64S_0N_body n b_ r0 = laws_eqInt64S_0N n b_ r0 := (laws_eqInt64S_0N_body.eq_1 n b_ r0).trans (laws_eqInt64S_0N.eq_1 n b_ r0).symm
theorem laws_eqInt64S_0N_rn {α : Type} (F : Nat → List Int → (Bool → Option α) → Option α) (n : Nat) (b_ : List Int) (κ : Res → Option α) : laws_eqInt64S_0N_runG F n [.rows (.int .i64) b_] κ = F n b_ (fun v1 => κ ⟨[.bool v1], []⟩) := rfl
theorem laws_eqInt64S_0N_ev {α : Type} (n : Nat) (b_ : List Int) (κ : Res → Option α) : evFn Try.prog (laws_eqInt64S_0N_X n) Try.f7 (((buildDs laws_eqInt64S_0N_sh [.rows (.int .i64) b_]).map Prod.fst).getD []) κ = laws_eqInt64S_0N_run n [.rows (.int .i64) b_] κ := (laws_eqInt64S_0N_gen n b_ κ).trans ((laws_eqInt64S_0N_eq n b_ (fun v1 => κ ⟨[.bool v1], []⟩)).trans ((laws_eqInt64S_0N_run.eq_1 n [.rows (.int .i64) b_] κ).trans (laws_eqInt64S_0N_rn laws_eqInt64S_0N n b_ κ)).symm)
theorem laws_eqInt64S_0N_en (b_ : List Int) : (entry 0 (((buildDs laws_eqInt64S_0N_sh [.rows (.int .i64) b_]).map Prod.fst).getD [])).map (fun x => (x.1.length, x.2.lent)) = some (2, []) := by kernel_rfl
theorem laws_eqInt64S_0N_good {α : Type} : ∀ n, GoodFn (α := α) Try.prog 7 (byShape laws_eqInt64S_0N_sh (laws_eqInt64S_0N_run n)) := by
  refine fn_good' Try.func7 (c := (Try.f7.body.getD .skip)) (by kernel_rfl) (by kernel_rfl) (by kernel_rfl) laws_eqInt64S_0N_C laws_eqInt64S_0N_M eqs laws_eqInt64S_0N_lps (fun n => tabC_good (fun _ h => absurd h List.not_mem_nil)) eqs_ok laws_eqInt64S_0N_Lt ?_ ?_ laws_eqInt64S_0N_sh laws_eqInt64S_0N_run ?_
  · exact (fun _ h => absurd h List.not_mem_nil)
  · exact (fun _ h => absurd h List.not_mem_nil)
  · intro n p κ r ds hd hr
    have hr0 := hr
    unfold laws_eqInt64S_0N_run laws_eqInt64S_0N_runG at hr
    split at hr
    · rw [← ds_of hd]
      exact ⟨en_of (laws_eqInt64S_0N_en _) ⟨rfl, rfl⟩, (laws_eqInt64S_0N_ev n _ κ).trans hr0⟩
    · cases hr

/-! loop.example/g01297/laws.eqInt64S -/
def laws_eqInt64S_sh : List SkD := [.sl 2 (.int .i64), .sl 2 (.int .i64)]
def laws_eqInt64S_runG {α : Type} (F : Nat → List Int → List Int → (Bool → Option α) → Option α) (n : Nat) (p : List P1) (κ : Res → Option α) : Option α := match p with
  | [.rows (.int .i64) a, .rows (.int .i64) b_] => F n a b_ (fun v1 => κ ⟨[.bool v1], []⟩)
  | _ => none
def laws_eqInt64S_run {α : Type} (n : Nat) (p : List P1) (κ : Res → Option α) : Option α := laws_eqInt64S_runG laws_eqInt64S n p κ
def laws_eqInt64S_CG {α : Type}  (n : Nat) : FuncId → List D → (Res → Option α) → Option α := tabC []
def laws_eqInt64S_C {α : Type} (n : Nat) : FuncId → List D → (Res → Option α) → Option α := laws_eqInt64S_CG n
def laws_eqInt64S_M : FuncId → List Nat := tabM []
def laws_eqInt64S_t4 : Tpl := ⟨[.sl 0, .sl 64, .any, .any, .any, .int .i64, .any, .any, .any, .any, .any, .any, .any, .any, .any, .any, .any, .any, .any, .any, .any, .any, .any, .any, .any, .any], [(0, .rows 0 2 (.int .i64)), (64, .rows 0 2 (.int .i64))], []⟩
def laws_eqInt64S_uG4 {α : Type} (G : Nat → Int → List Int → List Int → (Int → List Int → List Int → Option α) → (Bool → Option α) → Option α) (n : Nat) (p : List P1) (brk : Nat → List P1 → Option α) (ret : Res → Option α) : Option α := match p with
  | [.int i, .rows (.int .i64) a1, .rows (.int .i64) b_1] => G n i a1 b_1 (fun i a1 b_1 => brk 0 [.int i, .rows (.int .i64) a1, .rows (.int .i64) b_1]) (fun v1 => ret ⟨[.bool v1], []⟩)
  | _ => none
def laws_eqInt64S_u4 {α : Type} (n : Nat) (p : List P1) (brk : Nat → List P1 → Option α) (ret : Res → Option α) : Option α := laws_eqInt64S_uG4 laws_eqInt64S_l4 n p brk ret
def laws_eqInt64S_lpsG {α : Type} (G4 : Nat → Int → List Int → List Int → (Int → List Int → List Int → Option α) → (Bool → Option α) → Option α) : List (LoopT α) := [⟨4, laws_eqInt64S_t4, laws_eqInt64S_uG4 G4⟩]
def laws_eqInt64S_lps {α : Type} : List (LoopT α) := laws_eqInt64S_lpsG laws_eqInt64S_l4
def laws_eqInt64S_XG {α : Type}  (G4 : Nat → Int → List Int → List Int → (Int → List Int → List Int → Option α) → (Bool → Option α) → Option α) (n : Nat) : Ctx α := ⟨laws_eqInt64S_CG n, laws_eqInt64S_M, eqs, lpOf (laws_eqInt64S_lpsG G4) n⟩
def laws_eqInt64S_X {α : Type} (n : Nat) : Ctx α := laws_eqInt64S_XG laws_eqInt64S_l4 n
def laws_eqInt64S_Lt (np : Nat) (lent : List (Bool × Nat × Blk)) : Prop := np = 2 ∧ lent = []
def laws_eqInt64S_lb4 {α : Type}  (G4 : Nat → Int → List Int → List Int → (Int → List Int → List Int → Option α) → (Bool → Option α) → Option α) (k : Nat) (i : Int) (a1 : List Int) (b_1 : List Int) (b0 : Int → List Int → List Int → Option α) (r0 : Bool → Option α) : Option α :=
  bif decide (i < (((List.length a1) : Nat) : Int)) then
    bif (decide (0 ≤ i) && decide (i < (((List.length a1) : Nat) : Int))) then
      (a1[i.toNat]?).bind fun e_ =>
      bif (decide (0 ≤ i) && decide (i < (((List.length b_1) : Nat) : Int))) then
        (b_1[i.toNat]?).bind fun e_1 =>
        bif (!decide (e_ = e_1)) then
          r0 false
        else
          G4 k (w64 (i + 1)) a1 b_1 b0 r0
      else
        none
    else
      none
  else
    b0 i a1 b_1
theorem laws_eqInt64S_l4_gen {α : Type}  (G4 : Nat → Int → List Int → List Int → (Int → List Int → List Int → Option α) → (Bool → Option α) → Option α) (n : Nat) (i : Int) (a1 : List Int) (b_1 : List Int) (brk : Nat → List P1 → Option α) (ret : Res → Option α) : ev ((laws_eqInt64S_XG G4 n).env Try.prog Try.f7 2 []) (findLoop (loopsIn (Try.f7.body.getD .skip)) 4) ((laws_eqInt64S_t4.build [.int i, .rows (.int .i64) a1, .rows (.int .i64) b_1]).getD ⟨[], []⟩) (roundK (2 * 64) laws_eqInt64S_t4 (fun q => laws_eqInt64S_uG4 G4 n q brk ret) brk ret) = laws_eqInt64S_lb4 G4 n i a1 b_1 (fun i a1 b_1 => brk 0 [.int i, .rows (.int .i64) a1, .rows (.int .i64) b_1]) (fun v1 => ret ⟨[.bool v1], []⟩) := by kernel_rfl
theorem laws_eqInt64S_l4_eq {α : Type} (k : Nat) (i : Int) (a1 : List Int) (b_1 : List Int) (b0 : Int → List Int → List Int → Option α) (r0 : Bool → Option α) : laws_eqInt64S_lb4 laws_eqInt64S_l4 k i a1 b_1 b0 r0 = laws_eqInt64S_l4 (k + 1) i a1 b_1 b0 r0 := (laws_eqInt64S_lb4.eq_1 laws_eqInt64S_l4 k i a1 b_1 b0 r0).trans (show laws_eqInt64S_l4 (k + 1) i a1 b_1 b0 r0 = _ from laws_eqInt64S_l4.eq_2 _ _ _ _ _ _ ).symm
theorem laws_eqInt64S_l4_rn {α : Type} (G : Nat → Int → List Int → List Int → (Int → List Int → List Int → Option α) → (Bool → Option α) → Option α) (n : Nat) (i : Int) (a1 : List Int) (b_1 : List Int) (brk : Nat → List P1 → Option α) (ret : Res → Option α) : laws_eqInt64S_uG4 G n [.int i, .rows (.int .i64) a1, .rows (.int .i64) b_1] brk ret = G n i a1 b_1 (fun i a1 b_1 => brk 0 [.int i, .rows (.int .i64) a1, .rows (.int .i64) b_1]) (fun v1 => ret ⟨[.bool v1], []⟩) := rfl
theorem laws_eqInt64S_l4_ev {α : Type} (n : Nat) (i : Int) (a1 : List Int) (b_1 : List Int) (brk : Nat → List P1 → Option α) (ret : Res → Option α) : ev ((laws_eqInt64S_X n).env Try.prog Try.f7 2 []) (findLoop (loopsIn (Try.f7.body.getD .skip)) 4) ((laws_eqInt64S_t4.build [.int i, .rows (.int .i64) a1, .rows (.int .i64) b_1]).getD ⟨[], []⟩) (roundK (2 * 64) laws_eqInt64S_t4 (fun q => laws_eqInt64S_u4 n q brk ret) brk ret) = laws_eqInt64S_u4 (n + 1) [.int i, .rows (.int .i64) a1, .rows (.int .i64) b_1] brk ret := (laws_eqInt64S_l4_gen laws_eqInt64S_l4 n i a1 b_1 brk ret).trans ((laws_eqInt64S_l4_eq n i a1 b_1 (fun i a1 b_1 => brk 0 [.int i, .rows (.int .i64) a1, .rows (.int .i64) b_1]) (fun v1 => ret ⟨[.bool v1], []⟩)).trans ((laws_eqInt64S_u4.eq_1 (n + 1) [.int i, .rows (.int .i64) a1, .rows (.int .i64) b_1] brk ret).trans (laws_eqInt64S_l4_rn laws_eqInt64S_l4 (n + 1) i a1 b_1 brk ret)).symm)
def laws_eqInt64S_body {α : Type}  (G4 : Nat → Int → List Int → List Int → (Int → List Int → List Int → Option α) → (Bool → Option α) → Option α) (k : Nat) (a : List Int) (b_ : List Int) (r0 : Bool → Option α) : Option α :=
  bif (!decide ((((List.length a) : Nat) : Int) = (((List.length b_) : Nat) : Int))) then
    r0 false
  else
    G4 k 0 a b_
      (fun i1 a2 b_2 =>
        r0 true)
      r0
theorem laws_eqInt64S_gen {α : Type}  (G4 : Nat → Int → List Int → List Int → (Int → List Int → List Int → Option α) → (Bool → Option α) → Option α) (n : Nat) (a : List Int) (b_ : List Int) (κ : Res → Option α) : evFn Try.prog (laws_eqInt64S_XG G4 n) Try.f7 (((buildDs laws_eqInt64S_sh [.rows (.int .i64) a, .rows (.int .i64) b_]).map Prod.fst).getD []) κ = laws_eqInt64S_body G4 n a b_ (fun v1 => κ ⟨[.bool v1], []⟩) := by kernel_rfl
theorem laws_eqInt64S_eq {α : Type} (n : Nat) (a : List Int) (b_ : List Int) (r0 : Bool → Option α) : laws_eqInt64S_body laws_eqInt64S_l4 n a b_ r0 = laws_eqInt64S n a b_ r0 := (laws_eqInt64S_body.eq_1 laws_eqInt64S_l4 n a b_ r0).trans (laws_eqInt64S.eq_1 n a b_ r0).symm
theorem laws_eqInt64S_rn {α : Type} (F : Nat → List Int → List Int → (Bool → Option α) → Option α) (n : Nat) (a : List Int) (b_ : List Int) (κ : Res → Option α) : laws_eqInt64S_runG F n [.rows (.int .i64) a, .rows (.int .i64) b_] κ = F n a b_ (fun v1 => κ ⟨[.bool v1], []⟩) := rfl
theorem laws_eqInt64S_ev {α : Type} (n : Nat) (a : List Int) (b_ : List Int) (κ : Res → Option α) : evFn Try.prog (laws_eqInt64S_X n) Try.f7 (((buildDs laws_eqInt64S_sh [.rows (.int .i64) a, .rows (.int .i64) b_]).map Prod.fst).getD []) κ = laws_eqInt64S_run n [.rows (.int .i64) a, .rows (.int .i64) b_] κ := (laws_eqInt64S_gen laws_eqInt64S_l4 n a b_ κ).trans ((laws_eqInt64S_eq n a b_ (fun v1 => κ ⟨[.bool v1], []⟩)).trans ((laws_eqInt64S_run.eq_1 n [.rows (.int .i64) a, .rows (.int .i64) b_] κ).trans (laws_eqInt64S_rn laws_eqInt64S n a b_ κ)).symm)
theorem laws_eqInt64S_en (a : List Int) (b_ : List Int) : (entry 0 (((buildDs laws_eqInt64S_sh [.rows (.int .i64) a, .rows (.int .i64) b_]).map Prod.fst).getD [])).map (fun x => (x.1.length, x.2.lent)) = some (2, []) := by kernel_rfl
theorem laws_eqInt64S_good {α : Type} : ∀ n, GoodFn (α := α) Try.prog 7 (byShape laws_eqInt64S_sh (laws_eqInt64S_run n)) := by
  refine fn_good' Try.func7 (c := (Try.f7.body.getD .skip)) (by kernel_rfl) (by kernel_rfl) (by kernel_rfl) laws_eqInt64S_C laws_eqInt64S_M eqs laws_eqInt64S_lps (fun n => tabC_good (fun _ h => absurd h List.not_mem_nil)) eqs_ok laws_eqInt64S_Lt ?_ ?_ laws_eqInt64S_sh laws_eqInt64S_run ?_
  · refine List.forall_mem_cons.2 ⟨?_, (fun _ h => absurd h List.not_mem_nil)⟩
    · intro p brk ret; show laws_eqInt64S_u4 0 p brk ret = none; unfold laws_eqInt64S_u4 laws_eqInt64S_uG4; split <;> rfl
  · refine List.forall_mem_cons.2 ⟨?_, (fun _ h => absurd h List.not_mem_nil)⟩
    · intro np lent hL n p brk ret st r hb hr
      obtain ⟨rfl, rfl⟩ := hL
      rw [← tpl_of hb]
      change laws_eqInt64S_u4 (n + 1) p brk ret = some r at hr
      have hr0 := hr
      unfold laws_eqInt64S_u4 laws_eqInt64S_uG4 at hr
      split at hr
      · exact (laws_eqInt64S_l4_ev n _ _ _ brk ret).trans hr0
      · cases hr
  · intro n p κ r ds hd hr
    have hr0 := hr
    unfold laws_eqInt64S_run laws_eqInt64S_runG at hr
    split at hr
    · rw [← ds_of hd]
      exact ⟨en_of (laws_eqInt64S_en _ _) ⟨rfl, rfl⟩, (laws_eqInt64S_ev n _ _ κ).trans hr0⟩
    · cases hr

end Go.Proofs.Ytmaclfmobhhclaa
