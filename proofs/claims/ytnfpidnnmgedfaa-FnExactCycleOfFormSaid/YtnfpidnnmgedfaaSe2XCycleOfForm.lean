/- The program's functions hold to their readings without memory: printed by a program of ours. -/
import Derived.Test.YtnfpidnnmgedfaaSe1XCycleOfForm
namespace Go.Proofs.Ytnfpidnnmgedfaa
open Go Go.Ev Go.Sh Go.Proofs

/-! loop.example/g01297/laws.eqFormS -/
def laws_eqFormS_sh : List SkD := [.sl 26 .tr, .sl 26 .tr]
def laws_eqFormS_runG {α : Type} (F : Nat → (List (Int × Int × Int)) → (List (Int × Int × Int)) → (Bool → Option α) → Option α) (n : Nat) (p : List P1) (κ : Res → Option α) : Option α := match p with
  | [.rows .tr a, .rows .tr b_] => F n a b_ (fun v1 => κ ⟨[.bool v1], []⟩)
  | _ => none
def laws_eqFormS_run {α : Type} (n : Nat) (p : List P1) (κ : Res → Option α) : Option α := laws_eqFormS_runG laws_eqFormS n p κ
def laws_eqFormS_CG {α : Type} (F0 : Nat → Int → Int → Int → Int → Int → Int → (Bool → Option α) → Option α) (n : Nat) : FuncId → List D → (Res → Option α) → Option α := tabC [(81, (byShape laws_eqForm_sh (laws_eqForm_runG F0 n)))]
def laws_eqFormS_C {α : Type} (n : Nat) : FuncId → List D → (Res → Option α) → Option α := laws_eqFormS_CG laws_eqForm n
def laws_eqFormS_M : FuncId → List Nat := tabM []
def laws_eqFormS_t4 : Tpl := ⟨[.sl 0, .sl 64, .any, .any, .any, .int .i64, .any, .any, .any, .any, .any, .any, .any, .any, .any, .any, .any, .any, .any, .any, .any, .any, .any, .any, .any, .any, .any], [(0, .rows 0 26 .tr), (64, .rows 0 26 .tr)], []⟩
def laws_eqFormS_uG4 {α : Type} (G : Nat → Int → (List (Int × Int × Int)) → (List (Int × Int × Int)) → (Int → (List (Int × Int × Int)) → (List (Int × Int × Int)) → Option α) → (Bool → Option α) → Option α) (n : Nat) (p : List P1) (brk : Nat → List P1 → Option α) (ret : Res → Option α) : Option α := match p with
  | [.int i, .rows .tr a1, .rows .tr b_1] => G n i a1 b_1 (fun i a1 b_1 => brk 0 [.int i, .rows .tr a1, .rows .tr b_1]) (fun v1 => ret ⟨[.bool v1], []⟩)
  | _ => none
def laws_eqFormS_u4 {α : Type} (n : Nat) (p : List P1) (brk : Nat → List P1 → Option α) (ret : Res → Option α) : Option α := laws_eqFormS_uG4 laws_eqFormS_l4 n p brk ret
def laws_eqFormS_lpsG {α : Type} (G4 : Nat → Int → (List (Int × Int × Int)) → (List (Int × Int × Int)) → (Int → (List (Int × Int × Int)) → (List (Int × Int × Int)) → Option α) → (Bool → Option α) → Option α) : List (LoopT α) := [⟨4, laws_eqFormS_t4, laws_eqFormS_uG4 G4⟩]
def laws_eqFormS_lps {α : Type} : List (LoopT α) := laws_eqFormS_lpsG laws_eqFormS_l4
def laws_eqFormS_XG {α : Type} (F0 : Nat → Int → Int → Int → Int → Int → Int → (Bool → Option α) → Option α) (G4 : Nat → Int → (List (Int × Int × Int)) → (List (Int × Int × Int)) → (Int → (List (Int × Int × Int)) → (List (Int × Int × Int)) → Option α) → (Bool → Option α) → Option α) (n : Nat) : Ctx α := ⟨laws_eqFormS_CG F0 n, laws_eqFormS_M, eqs, lpOf (laws_eqFormS_lpsG G4) n⟩
def laws_eqFormS_X {α : Type} (n : Nat) : Ctx α := laws_eqFormS_XG laws_eqForm laws_eqFormS_l4 n
def laws_eqFormS_Lt (np : Nat) (lent : List (Bool × Nat × Blk)) : Prop := np = 2 ∧ lent = []
def laws_eqFormS_lb4 {α : Type} (F0 : Nat → Int → Int → Int → Int → Int → Int → (Bool → Option α) → Option α) (G4 : Nat → Int → (List (Int × Int × Int)) → (List (Int × Int × Int)) → (Int → (List (Int × Int × Int)) → (List (Int × Int × Int)) → Option α) → (Bool → Option α) → Option α) (k : Nat) (i : Int) (a1 : List (Int × Int × Int)) (b_1 : List (Int × Int × Int)) (b0 : Int → (List (Int × Int × Int)) → (List (Int × Int × Int)) → Option α) (r0 : Bool → Option α) : Option α :=
  bif decide (i < (((List.length a1) : Nat) : Int)) then
    bif (decide (0 ≤ i) && decide (i < (((List.length a1) : Nat) : Int))) then
      (a1[i.toNat]?).bind fun e_ =>
      bif (decide (0 ≤ i) && decide (i < (((List.length b_1) : Nat) : Int))) then
        (b_1[i.toNat]?).bind fun e_1 =>
        F0 k e_.1 e_.2.1 e_.2.2 e_1.1 e_1.2.1 e_1.2.2 fun v =>
        bif (!v) then
          r0 false
        else
          G4 k (w64 (i + 1)) a1 b_1 b0 r0
      else
        none
    else
      none
  else
    b0 i a1 b_1
theorem laws_eqFormS_l4_gen {α : Type} (F0 : Nat → Int → Int → Int → Int → Int → Int → (Bool → Option α) → Option α) (G4 : Nat → Int → (List (Int × Int × Int)) → (List (Int × Int × Int)) → (Int → (List (Int × Int × Int)) → (List (Int × Int × Int)) → Option α) → (Bool → Option α) → Option α) (n : Nat) (i : Int) (a1 : List (Int × Int × Int)) (b_1 : List (Int × Int × Int)) (brk : Nat → List P1 → Option α) (ret : Res → Option α) : ev ((laws_eqFormS_XG F0 G4 n).env Try.prog Try.f36 2 []) (findLoop (loopsIn (Try.f36.body.getD .skip)) 4) ((laws_eqFormS_t4.build [.int i, .rows .tr a1, .rows .tr b_1]).getD ⟨[], []⟩) (roundK (2 * 64) laws_eqFormS_t4 (fun q => laws_eqFormS_uG4 G4 n q brk ret) brk ret) = laws_eqFormS_lb4 F0 G4 n i a1 b_1 (fun i a1 b_1 => brk 0 [.int i, .rows .tr a1, .rows .tr b_1]) (fun v1 => ret ⟨[.bool v1], []⟩) := by kernel_rfl
theorem laws_eqFormS_l4_ev {α : Type} (n : Nat) (i : Int) (a1 : List (Int × Int × Int)) (b_1 : List (Int × Int × Int)) (brk : Nat → List P1 → Option α) (ret : Res → Option α) : ev ((laws_eqFormS_X n).env Try.prog Try.f36 2 []) (findLoop (loopsIn (Try.f36.body.getD .skip)) 4) ((laws_eqFormS_t4.build [.int i, .rows .tr a1, .rows .tr b_1]).getD ⟨[], []⟩) (roundK (2 * 64) laws_eqFormS_t4 (fun q => laws_eqFormS_u4 n q brk ret) brk ret) = laws_eqFormS_u4 (n + 1) [.int i, .rows .tr a1, .rows .tr b_1] brk ret := (laws_eqFormS_l4_gen laws_eqForm laws_eqFormS_l4 n i a1 b_1 brk ret).trans (by kernel_rfl)
def laws_eqFormS_body {α : Type} (F0 : Nat → Int → Int → Int → Int → Int → Int → (Bool → Option α) → Option α) (G4 : Nat → Int → (List (Int × Int × Int)) → (List (Int × Int × Int)) → (Int → (List (Int × Int × Int)) → (List (Int × Int × Int)) → Option α) → (Bool → Option α) → Option α) (k : Nat) (a : List (Int × Int × Int)) (b_ : List (Int × Int × Int)) (r0 : Bool → Option α) : Option α :=
  bif (!decide ((((List.length a) : Nat) : Int) = (((List.length b_) : Nat) : Int))) then
    r0 false
  else
    G4 k 0 a b_
      (fun i1 a2 b_2 =>
        r0 true)
      r0
theorem laws_eqFormS_gen {α : Type} (F0 : Nat → Int → Int → Int → Int → Int → Int → (Bool → Option α) → Option α) (G4 : Nat → Int → (List (Int × Int × Int)) → (List (Int × Int × Int)) → (Int → (List (Int × Int × Int)) → (List (Int × Int × Int)) → Option α) → (Bool → Option α) → Option α) (n : Nat) (a : List (Int × Int × Int)) (b_ : List (Int × Int × Int)) (κ : Res → Option α) : evFn Try.prog (laws_eqFormS_XG F0 G4 n) Try.f36 (((buildDs laws_eqFormS_sh [.rows .tr a, .rows .tr b_]).map Prod.fst).getD []) κ = laws_eqFormS_body F0 G4 n a b_ (fun v1 => κ ⟨[.bool v1], []⟩) := by kernel_rfl
theorem laws_eqFormS_ev {α : Type} (n : Nat) (a : List (Int × Int × Int)) (b_ : List (Int × Int × Int)) (κ : Res → Option α) : evFn Try.prog (laws_eqFormS_X n) Try.f36 (((buildDs laws_eqFormS_sh [.rows .tr a, .rows .tr b_]).map Prod.fst).getD []) κ = laws_eqFormS_run n [.rows .tr a, .rows .tr b_] κ := (laws_eqFormS_gen laws_eqForm laws_eqFormS_l4 n a b_ κ).trans (by kernel_rfl)
theorem laws_eqFormS_en (a : List (Int × Int × Int)) (b_ : List (Int × Int × Int)) : (entry 0 (((buildDs laws_eqFormS_sh [.rows .tr a, .rows .tr b_]).map Prod.fst).getD [])).map (fun x => (x.1.length, x.2.lent)) = some (2, []) := by kernel_rfl
theorem laws_eqFormS_good {α : Type} : ∀ n, GoodFn (α := α) Try.prog 36 (byShape laws_eqFormS_sh (laws_eqFormS_run n)) := by
  refine fn_good' Try.func36 (c := (Try.f36.body.getD .skip)) (by kernel_rfl) (by kernel_rfl) (by kernel_rfl) laws_eqFormS_C laws_eqFormS_M eqs laws_eqFormS_lps (fun n => tabC_good (List.forall_mem_cons.2 ⟨(laws_eqForm_good n), (fun _ h => absurd h List.not_mem_nil)⟩)) eqs_ok laws_eqFormS_Lt ?_ ?_ laws_eqFormS_sh laws_eqFormS_run ?_
  · refine List.forall_mem_cons.2 ⟨?_, (fun _ h => absurd h List.not_mem_nil)⟩
    · intro p brk ret; show laws_eqFormS_u4 0 p brk ret = none; unfold laws_eqFormS_u4 laws_eqFormS_uG4; split <;> rfl
  · refine List.forall_mem_cons.2 ⟨?_, (fun _ h => absurd h List.not_mem_nil)⟩
    · intro np lent hL n p brk ret st r hb hr
      obtain ⟨rfl, rfl⟩ := hL
      rw [← tpl_of hb]
      change laws_eqFormS_u4 (n + 1) p brk ret = some r at hr
      have hr0 := hr
      unfold laws_eqFormS_u4 laws_eqFormS_uG4 at hr
      split at hr
      · exact (laws_eqFormS_l4_ev n _ _ _ brk ret).trans hr0
      · cases hr
  · intro n p κ r ds hd hr
    have hr0 := hr
    unfold laws_eqFormS_run laws_eqFormS_runG at hr
    split at hr
    · rw [← ds_of hd]
      exact ⟨en_of (laws_eqFormS_en _ _) ⟨rfl, rfl⟩, (laws_eqFormS_ev n _ _ κ).trans hr0⟩
    · cases hr

end Go.Proofs.Ytnfpidnnmgedfaa
