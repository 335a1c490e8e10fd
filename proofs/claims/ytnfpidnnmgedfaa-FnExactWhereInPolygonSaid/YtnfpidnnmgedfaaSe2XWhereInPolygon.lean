/- The program's functions hold to their readings without memory: printed by a program of ours. -/
import Derived.Test.YtnfpidnnmgedfaaSe1XWhereInPolygon
namespace Go.Proofs.Ytnfpidnnmgedfaa
open Go Go.Ev Go.Sh Go.Proofs

/-! loop.example/g01297/impl.WhereInPolygon -/
def impl_WhereInPolygon_sh : List SkD := [.sl 33 .pt, .agg [.int .i64, .int .i64]]
def impl_WhereInPolygon_runG {α : Type} (F : Nat → (List (Int × Int)) → Int → Int → (Int → Int → Option α) → Option α) (n : Nat) (p : List P1) (κ : Res → Option α) : Option α := match p with
  | [.rows .pt list, .int a, .int a1] => F n list a a1 (fun v1 v2 => κ ⟨[.int .i64 v1, .int .i64 v2], []⟩)
  | _ => none
def impl_WhereInPolygon_run {α : Type} (n : Nat) (p : List P1) (κ : Res → Option α) : Option α := impl_WhereInPolygon_runG impl_WhereInPolygon n p κ
def impl_WhereInPolygon_CG {α : Type} (F0 : Nat → (List (Int × Int)) → (Bool → Option α) → Option α) (F1 : Nat → Int → Int → (Bool → Option α) → Option α) (F2 : Nat → (List (Int × Int)) → Int → Int → (Int → Option α) → Option α) (n : Nat) : FuncId → List D → (Res → Option α) → Option α := tabC [(87, (byShape impl_IsPolygon_sh (impl_IsPolygon_runG F0 n))), (88, (byShape impl_IsPoint_sh (impl_IsPoint_runG F1 n))), (89, (byShape impl_polygon_where_sh (impl_polygon_where_runG F2 n)))]
def impl_WhereInPolygon_C {α : Type} (n : Nat) : FuncId → List D → (Res → Option α) → Option α := impl_WhereInPolygon_CG impl_IsPolygon impl_IsPoint impl_polygon_where n
def impl_WhereInPolygon_M : FuncId → List Nat := tabM []
def impl_WhereInPolygon_lpsG {α : Type}  : List (LoopT α) := []
def impl_WhereInPolygon_lps {α : Type} : List (LoopT α) := impl_WhereInPolygon_lpsG
def impl_WhereInPolygon_XG {α : Type} (F0 : Nat → (List (Int × Int)) → (Bool → Option α) → Option α) (F1 : Nat → Int → Int → (Bool → Option α) → Option α) (F2 : Nat → (List (Int × Int)) → Int → Int → (Int → Option α) → Option α)  (n : Nat) : Ctx α := ⟨impl_WhereInPolygon_CG F0 F1 F2 n, impl_WhereInPolygon_M, eqs, lpOf (impl_WhereInPolygon_lpsG) n⟩
def impl_WhereInPolygon_X {α : Type} (n : Nat) : Ctx α := impl_WhereInPolygon_XG impl_IsPolygon impl_IsPoint impl_polygon_where n
def impl_WhereInPolygon_Lt (np : Nat) (lent : List (Bool × Nat × Blk)) : Prop := np = 2 ∧ lent = []
def impl_WhereInPolygon_body {α : Type} (F0 : Nat → (List (Int × Int)) → (Bool → Option α) → Option α) (F1 : Nat → Int → Int → (Bool → Option α) → Option α) (F2 : Nat → (List (Int × Int)) → Int → Int → (Int → Option α) → Option α)  (k : Nat) (list : List (Int × Int)) (a : Int) (a1 : Int) (r0 : Int → Int → Option α) : Option α :=
  F0 k list fun v =>
  bif (!v) then
    r0 0 1
  else
    F1 k a a1 fun v1 =>
    bif (!v1) then
      r0 0 1
    else
      F2 k list a a1 fun v2 =>
      r0 v2 0
theorem impl_WhereInPolygon_gen {α : Type} (F0 : Nat → (List (Int × Int)) → (Bool → Option α) → Option α) (F1 : Nat → Int → Int → (Bool → Option α) → Option α) (F2 : Nat → (List (Int × Int)) → Int → Int → (Int → Option α) → Option α)  (n : Nat) (list : List (Int × Int)) (a : Int) (a1 : Int) (κ : Res → Option α) : evFn Try.prog (impl_WhereInPolygon_XG F0 F1 F2 n) Try.f42 (((buildDs impl_WhereInPolygon_sh [.rows .pt list, .int a, .int a1]).map Prod.fst).getD []) κ = impl_WhereInPolygon_body F0 F1 F2 n list a a1 (fun v1 v2 => κ ⟨[.int .i64 v1, .int .i64 v2], []⟩) := by kernel_rfl
theorem impl_WhereInPolygon_ev {α : Type} (n : Nat) (list : List (Int × Int)) (a : Int) (a1 : Int) (κ : Res → Option α) : evFn Try.prog (impl_WhereInPolygon_X n) Try.f42 (((buildDs impl_WhereInPolygon_sh [.rows .pt list, .int a, .int a1]).map Prod.fst).getD []) κ = impl_WhereInPolygon_run n [.rows .pt list, .int a, .int a1] κ := (impl_WhereInPolygon_gen impl_IsPolygon impl_IsPoint impl_polygon_where n list a a1 κ).trans (by kernel_rfl)
theorem impl_WhereInPolygon_en (list : List (Int × Int)) (a : Int) (a1 : Int) : (entry 0 (((buildDs impl_WhereInPolygon_sh [.rows .pt list, .int a, .int a1]).map Prod.fst).getD [])).map (fun x => (x.1.length, x.2.lent)) = some (2, []) := by kernel_rfl
theorem impl_WhereInPolygon_good {α : Type} : ∀ n, GoodFn (α := α) Try.prog 42 (byShape impl_WhereInPolygon_sh (impl_WhereInPolygon_run n)) := by
  refine fn_good' Try.func42 (c := (Try.f42.body.getD .skip)) (by kernel_rfl) (by kernel_rfl) (by kernel_rfl) impl_WhereInPolygon_C impl_WhereInPolygon_M eqs impl_WhereInPolygon_lps (fun n => tabC_good (List.forall_mem_cons.2 ⟨(impl_IsPolygon_good n), (List.forall_mem_cons.2 ⟨(impl_IsPoint_good n), (List.forall_mem_cons.2 ⟨(impl_polygon_where_good n), (fun _ h => absurd h List.not_mem_nil)⟩)⟩)⟩)) eqs_ok impl_WhereInPolygon_Lt ?_ ?_ impl_WhereInPolygon_sh impl_WhereInPolygon_run ?_
  · exact (fun _ h => absurd h List.not_mem_nil)
  · exact (fun _ h => absurd h List.not_mem_nil)
  · intro n p κ r ds hd hr
    have hr0 := hr
    unfold impl_WhereInPolygon_run impl_WhereInPolygon_runG at hr
    split at hr
    · rw [← ds_of hd]
      exact ⟨en_of (impl_WhereInPolygon_en _ _ _) ⟨rfl, rfl⟩, (impl_WhereInPolygon_ev n _ _ _ κ).trans hr0⟩
    · cases hr

/-! loop.example/g01297/laws.eqPoint -/
def laws_eqPoint_sh : List SkD := [.agg [.int .i64, .int .i64], .agg [.int .i64, .int .i64]]
def laws_eqPoint_runG {α : Type} (F : Nat → Int → Int → Int → Int → (Bool → Option α) → Option α) (n : Nat) (p : List P1) (κ : Res → Option α) : Option α := match p with
  | [.int a, .int a1, .int b_, .int b_1] => F n a a1 b_ b_1 (fun v1 => κ ⟨[.bool v1], []⟩)
  | _ => none
def laws_eqPoint_run {α : Type} (n : Nat) (p : List P1) (κ : Res → Option α) : Option α := laws_eqPoint_runG laws_eqPoint n p κ
def laws_eqPoint_CG {α : Type}  (n : Nat) : FuncId → List D → (Res → Option α) → Option α := tabC []
def laws_eqPoint_C {α : Type} (n : Nat) : FuncId → List D → (Res → Option α) → Option α := laws_eqPoint_CG n
def laws_eqPoint_M : FuncId → List Nat := tabM []
def laws_eqPoint_lpsG {α : Type}  : List (LoopT α) := []
def laws_eqPoint_lps {α : Type} : List (LoopT α) := laws_eqPoint_lpsG
def laws_eqPoint_XG {α : Type}   (n : Nat) : Ctx α := ⟨laws_eqPoint_CG n, laws_eqPoint_M, eqs, lpOf (laws_eqPoint_lpsG) n⟩
def laws_eqPoint_X {α : Type} (n : Nat) : Ctx α := laws_eqPoint_XG n
def laws_eqPoint_Lt (np : Nat) (lent : List (Bool × Nat × Blk)) : Prop := np = 2 ∧ lent = []
def laws_eqPoint_body {α : Type}   (k : Nat) (a : Int) (a1 : Int) (b_ : Int) (b_1 : Int) (r0 : Bool → Option α) : Option α :=
  bif (!decide (a = b_)) then
    r0 false
  else
  bif (!decide (a1 = b_1)) then
    r0 false
  else
    r0 true
theorem laws_eqPoint_gen {α : Type}   (n : Nat) (a : Int) (a1 : Int) (b_ : Int) (b_1 : Int) (κ : Res → Option α) : evFn Try.prog (laws_eqPoint_XG n) Try.f67 (((buildDs laws_eqPoint_sh [.int a, .int a1, .int b_, .int b_1]).map Prod.fst).getD []) κ = laws_eqPoint_body n a a1 b_ b_1 (fun v1 => κ ⟨[.bool v1], []⟩) := by kernel_rfl
theorem laws_eqPoint_ev {α : Type} (n : Nat) (a : Int) (a1 : Int) (b_ : Int) (b_1 : Int) (κ : Res → Option α) : evFn Try.prog (laws_eqPoint_X n) Try.f67 (((buildDs laws_eqPoint_sh [.int a, .int a1, .int b_, .int b_1]).map Prod.fst).getD []) κ = laws_eqPoint_run n [.int a, .int a1, .int b_, .int b_1] κ := (laws_eqPoint_gen n a a1 b_ b_1 κ).trans (by kernel_rfl)
theorem laws_eqPoint_en (a : Int) (a1 : Int) (b_ : Int) (b_1 : Int) : (entry 0 (((buildDs laws_eqPoint_sh [.int a, .int a1, .int b_, .int b_1]).map Prod.fst).getD [])).map (fun x => (x.1.length, x.2.lent)) = some (2, []) := by kernel_rfl
theorem laws_eqPoint_good {α : Type} : ∀ n, GoodFn (α := α) Try.prog 67 (byShape laws_eqPoint_sh (laws_eqPoint_run n)) := by
  refine fn_good' Try.func67 (c := (Try.f67.body.getD .skip)) (by kernel_rfl) (by kernel_rfl) (by kernel_rfl) laws_eqPoint_C laws_eqPoint_M eqs laws_eqPoint_lps (fun n => tabC_good (fun _ h => absurd h List.not_mem_nil)) eqs_ok laws_eqPoint_Lt ?_ ?_ laws_eqPoint_sh laws_eqPoint_run ?_
  · exact (fun _ h => absurd h List.not_mem_nil)
  · exact (fun _ h => absurd h List.not_mem_nil)
  · intro n p κ r ds hd hr
    have hr0 := hr
    unfold laws_eqPoint_run laws_eqPoint_runG at hr
    split at hr
    · rw [← ds_of hd]
      exact ⟨en_of (laws_eqPoint_en _ _ _ _) ⟨rfl, rfl⟩, (laws_eqPoint_ev n _ _ _ _ κ).trans hr0⟩
    · cases hr

/-! loop.example/g01297/laws.eqPointS -/
def laws_eqPointS_sh : List SkD := [.sl 33 .pt, .sl 33 .pt]
def laws_eqPointS_runG {α : Type} (F : Nat → (List (Int × Int)) → (List (Int × Int)) → (Bool → Option α) → Option α) (n : Nat) (p : List P1) (κ : Res → Option α) : Option α := match p with
  | [.rows .pt a, .rows .pt b_] => F n a b_ (fun v1 => κ ⟨[.bool v1], []⟩)
  | _ => none
def laws_eqPointS_run {α : Type} (n : Nat) (p : List P1) (κ : Res → Option α) : Option α := laws_eqPointS_runG laws_eqPointS n p κ
def laws_eqPointS_CG {α : Type} (F0 : Nat → Int → Int → Int → Int → (Bool → Option α) → Option α) (n : Nat) : FuncId → List D → (Res → Option α) → Option α := tabC [(67, (byShape laws_eqPoint_sh (laws_eqPoint_runG F0 n)))]
def laws_eqPointS_C {α : Type} (n : Nat) : FuncId → List D → (Res → Option α) → Option α := laws_eqPointS_CG laws_eqPoint n
def laws_eqPointS_M : FuncId → List Nat := tabM []
def laws_eqPointS_t4 : Tpl := ⟨[.sl 0, .sl 64, .any, .any, .any, .int .i64, .any, .any, .any, .any, .any, .any, .any, .any, .any, .any, .any, .any, .any, .any, .any, .any, .any, .any, .any, .any, .any], [(0, .rows 0 33 .pt), (64, .rows 0 33 .pt)], []⟩
def laws_eqPointS_uG4 {α : Type} (G : Nat → Int → (List (Int × Int)) → (List (Int × Int)) → (Int → (List (Int × Int)) → (List (Int × Int)) → Option α) → (Bool → Option α) → Option α) (n : Nat) (p : List P1) (brk : Nat → List P1 → Option α) (ret : Res → Option α) : Option α := match p with
  | [.int i, .rows .pt a1, .rows .pt b_1] => G n i a1 b_1 (fun i a1 b_1 => brk 0 [.int i, .rows .pt a1, .rows .pt b_1]) (fun v1 => ret ⟨[.bool v1], []⟩)
  | _ => none
def laws_eqPointS_u4 {α : Type} (n : Nat) (p : List P1) (brk : Nat → List P1 → Option α) (ret : Res → Option α) : Option α := laws_eqPointS_uG4 laws_eqPointS_l4 n p brk ret
def laws_eqPointS_lpsG {α : Type} (G4 : Nat → Int → (List (Int × Int)) → (List (Int × Int)) → (Int → (List (Int × Int)) → (List (Int × Int)) → Option α) → (Bool → Option α) → Option α) : List (LoopT α) := [⟨4, laws_eqPointS_t4, laws_eqPointS_uG4 G4⟩]
def laws_eqPointS_lps {α : Type} : List (LoopT α) := laws_eqPointS_lpsG laws_eqPointS_l4
def laws_eqPointS_XG {α : Type} (F0 : Nat → Int → Int → Int → Int → (Bool → Option α) → Option α) (G4 : Nat → Int → (List (Int × Int)) → (List (Int × Int)) → (Int → (List (Int × Int)) → (List (Int × Int)) → Option α) → (Bool → Option α) → Option α) (n : Nat) : Ctx α := ⟨laws_eqPointS_CG F0 n, laws_eqPointS_M, eqs, lpOf (laws_eqPointS_lpsG G4) n⟩
def laws_eqPointS_X {α : Type} (n : Nat) : Ctx α := laws_eqPointS_XG laws_eqPoint laws_eqPointS_l4 n
def laws_eqPointS_Lt (np : Nat) (lent : List (Bool × Nat × Blk)) : Prop := np = 2 ∧ lent = []
def laws_eqPointS_lb4 {α : Type} (F0 : Nat → Int → Int → Int → Int → (Bool → Option α) → Option α) (G4 : Nat → Int → (List (Int × Int)) → (List (Int × Int)) → (Int → (List (Int × Int)) → (List (Int × Int)) → Option α) → (Bool → Option α) → Option α) (k : Nat) (i : Int) (a1 : List (Int × Int)) (b_1 : List (Int × Int)) (b0 : Int → (List (Int × Int)) → (List (Int × Int)) → Option α) (r0 : Bool → Option α) : Option α :=
  bif decide (i < (((List.length a1) : Nat) : Int)) then
    bif (decide (0 ≤ i) && decide (i < (((List.length a1) : Nat) : Int))) then
      (a1[i.toNat]?).bind fun e_ =>
      bif (decide (0 ≤ i) && decide (i < (((List.length b_1) : Nat) : Int))) then
        (b_1[i.toNat]?).bind fun e_1 =>
        F0 k e_.1 e_.2 e_1.1 e_1.2 fun v =>
        bif (!v) then
          r0 false
        else
          G4 k (w64 (i + 1)) a1 b_1 b0 r0
      else
        none
    else
      none
  else
    b0 i a1 b_1
theorem laws_eqPointS_l4_gen {α : Type} (F0 : Nat → Int → Int → Int → Int → (Bool → Option α) → Option α) (G4 : Nat → Int → (List (Int × Int)) → (List (Int × Int)) → (Int → (List (Int × Int)) → (List (Int × Int)) → Option α) → (Bool → Option α) → Option α) (n : Nat) (i : Int) (a1 : List (Int × Int)) (b_1 : List (Int × Int)) (brk : Nat → List P1 → Option α) (ret : Res → Option α) : ev ((laws_eqPointS_XG F0 G4 n).env Try.prog Try.f21 2 []) (findLoop (loopsIn (Try.f21.body.getD .skip)) 4) ((laws_eqPointS_t4.build [.int i, .rows .pt a1, .rows .pt b_1]).getD ⟨[], []⟩) (roundK (2 * 64) laws_eqPointS_t4 (fun q => laws_eqPointS_uG4 G4 n q brk ret) brk ret) = laws_eqPointS_lb4 F0 G4 n i a1 b_1 (fun i a1 b_1 => brk 0 [.int i, .rows .pt a1, .rows .pt b_1]) (fun v1 => ret ⟨[.bool v1], []⟩) := by kernel_rfl
theorem laws_eqPointS_l4_ev {α : Type} (n : Nat) (i : Int) (a1 : List (Int × Int)) (b_1 : List (Int × Int)) (brk : Nat → List P1 → Option α) (ret : Res → Option α) : ev ((laws_eqPointS_X n).env Try.prog Try.f21 2 []) (findLoop (loopsIn (Try.f21.body.getD .skip)) 4) ((laws_eqPointS_t4.build [.int i, .rows .pt a1, .rows .pt b_1]).getD ⟨[], []⟩) (roundK (2 * 64) laws_eqPointS_t4 (fun q => laws_eqPointS_u4 n q brk ret) brk ret) = laws_eqPointS_u4 (n + 1) [.int i, .rows .pt a1, .rows .pt b_1] brk ret := (laws_eqPointS_l4_gen laws_eqPoint laws_eqPointS_l4 n i a1 b_1 brk ret).trans (by kernel_rfl)
def laws_eqPointS_body {α : Type} (F0 : Nat → Int → Int → Int → Int → (Bool → Option α) → Option α) (G4 : Nat → Int → (List (Int × Int)) → (List (Int × Int)) → (Int → (List (Int × Int)) → (List (Int × Int)) → Option α) → (Bool → Option α) → Option α) (k : Nat) (a : List (Int × Int)) (b_ : List (Int × Int)) (r0 : Bool → Option α) : Option α :=
  bif (!decide ((((List.length a) : Nat) : Int) = (((List.length b_) : Nat) : Int))) then
    r0 false
  else
    G4 k 0 a b_
      (fun i1 a2 b_2 =>
        r0 true)
      r0
theorem laws_eqPointS_gen {α : Type} (F0 : Nat → Int → Int → Int → Int → (Bool → Option α) → Option α) (G4 : Nat → Int → (List (Int × Int)) → (List (Int × Int)) → (Int → (List (Int × Int)) → (List (Int × Int)) → Option α) → (Bool → Option α) → Option α) (n : Nat) (a : List (Int × Int)) (b_ : List (Int × Int)) (κ : Res → Option α) : evFn Try.prog (laws_eqPointS_XG F0 G4 n) Try.f21 (((buildDs laws_eqPointS_sh [.rows .pt a, .rows .pt b_]).map Prod.fst).getD []) κ = laws_eqPointS_body F0 G4 n a b_ (fun v1 => κ ⟨[.bool v1], []⟩) := by kernel_rfl
theorem laws_eqPointS_ev {α : Type} (n : Nat) (a : List (Int × Int)) (b_ : List (Int × Int)) (κ : Res → Option α) : evFn Try.prog (laws_eqPointS_X n) Try.f21 (((buildDs laws_eqPointS_sh [.rows .pt a, .rows .pt b_]).map Prod.fst).getD []) κ = laws_eqPointS_run n [.rows .pt a, .rows .pt b_] κ := (laws_eqPointS_gen laws_eqPoint laws_eqPointS_l4 n a b_ κ).trans (by kernel_rfl)
theorem laws_eqPointS_en (a : List (Int × Int)) (b_ : List (Int × Int)) : (entry 0 (((buildDs laws_eqPointS_sh [.rows .pt a, .rows .pt b_]).map Prod.fst).getD [])).map (fun x => (x.1.length, x.2.lent)) = some (2, []) := by kernel_rfl
theorem laws_eqPointS_good {α : Type} : ∀ n, GoodFn (α := α) Try.prog 21 (byShape laws_eqPointS_sh (laws_eqPointS_run n)) := by
  refine fn_good' Try.func21 (c := (Try.f21.body.getD .skip)) (by kernel_rfl) (by kernel_rfl) (by kernel_rfl) laws_eqPointS_C laws_eqPointS_M eqs laws_eqPointS_lps (fun n => tabC_good (List.forall_mem_cons.2 ⟨(laws_eqPoint_good n), (fun _ h => absurd h List.not_mem_nil)⟩)) eqs_ok laws_eqPointS_Lt ?_ ?_ laws_eqPointS_sh laws_eqPointS_run ?_
  · refine List.forall_mem_cons.2 ⟨?_, (fun _ h => absurd h List.not_mem_nil)⟩
    · intro p brk ret; show laws_eqPointS_u4 0 p brk ret = none; unfold laws_eqPointS_u4 laws_eqPointS_uG4; split <;> rfl
  · refine List.forall_mem_cons.2 ⟨?_, (fun _ h => absurd h List.not_mem_nil)⟩
    · intro np lent hL n p brk ret st r hb hr
      obtain ⟨rfl, rfl⟩ := hL
      rw [← tpl_of hb]
      change laws_eqPointS_u4 (n + 1) p brk ret = some r at hr
      have hr0 := hr
      unfold laws_eqPointS_u4 laws_eqPointS_uG4 at hr
      split at hr
      · exact (laws_eqPointS_l4_ev n _ _ _ brk ret).trans hr0
      · cases hr
  · intro n p κ r ds hd hr
    have hr0 := hr
    unfold laws_eqPointS_run laws_eqPointS_runG at hr
    split at hr
    · rw [← ds_of hd]
      exact ⟨en_of (laws_eqPointS_en _ _) ⟨rfl, rfl⟩, (laws_eqPointS_ev n _ _ κ).trans hr0⟩
    · cases hr

end Go.Proofs.Ytnfpidnnmgedfaa
