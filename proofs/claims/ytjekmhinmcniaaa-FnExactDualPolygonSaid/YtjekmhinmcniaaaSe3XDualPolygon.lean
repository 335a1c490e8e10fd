/- The program's functions hold to their readings without memory: printed by a program of ours. -/
import Derived.Test.YtjekmhinmcniaaaSe2XDualPolygon
namespace Go.Proofs.Ytjekmhinmcniaaa
open Go Go.Ev Go.Sh Go.Proofs

/-! loop.example/g01297/impl.DualPolygon -/
def impl_DualPolygon_sh : List SkD := [.sl 26 .pt]
def impl_DualPolygon_runG {α : Type} (F : Nat → (List (Int × Int)) → (Int → Option α) → ((List (Int × Int)) → Int → Option α) → Option α) (n : Nat) (p : List P1) (κ : Res → Option α) : Option α := match p with
  | [.rows .pt list] => F n list (fun v1 => κ ⟨[.nilsl, .int .i64 v1], []⟩) (fun v1 v2 => κ ⟨[.sl 26 .pt v1, .int .i64 v2], []⟩)
  | _ => none
def impl_DualPolygon_run {α : Type} (n : Nat) (p : List P1) (κ : Res → Option α) : Option α := impl_DualPolygon_runG impl_DualPolygon n p κ
def impl_DualPolygon_CG {α : Type} (F0 : Nat → (List (Int × Int)) → (Bool → Option α) → Option α) (F1 : Nat → (List (Int × Int)) → (Int → Option α) → Option α) (F2 : Nat → (List (Int × Int)) → Int → Int → (Int → Option α) → Option α) (F3 : Nat → (List (Int × Int)) → Int → (Int → Int → Option α) → Option α) (F4 : Nat → Int → Int → Int → Int → (Int → Option α) → Option α) (n : Nat) : FuncId → List D → (Res → Option α) → Option α := tabC [(177, (byShape impl_IsPolygon_sh (impl_IsPolygon_runG F0 n))), (184, (byShape impl_polygon_inner_sh (impl_polygon_inner_runG F1 n))), (185, (byShape impl_polygon_where_sh (impl_polygon_where_runG F2 n))), (186, (byShape impl_polygon_next_sh (impl_polygon_next_runG F3 n))), (167, (byShape impl_det_sh (impl_det_runG F4 n)))]
def impl_DualPolygon_C {α : Type} (n : Nat) : FuncId → List D → (Res → Option α) → Option α := impl_DualPolygon_CG impl_IsPolygon impl_polygon_inner impl_polygon_where impl_polygon_next impl_det n
def impl_DualPolygon_M : FuncId → List Nat := tabM []
def impl_DualPolygon_t8 : Tpl := ⟨[.any, .any, .any, .any, .sl 0, .sl 1472, .any, .any, .any, .any, .any, .any, .any, .any, .any, .any, .any, .any, .any, .any, .any, .any, .any, .any, .sl 0, .int .i64, .int .i64, .any, .any, .any, .any, .any, .any, .any, .any, .any, .any, .any, .any, .any, .any, .any, .any, .any, .any, .any, .any, .any, .any, .any, .any, .any, .any, .any, .any, .any, .any], [(0, .rows 0 26 .pt), (1472, .rows 2 26 .pt)], []⟩
def impl_DualPolygon_uG8 {α : Type} (G : Nat → Int → Int → (List (Int × Int)) → (List (Int × Int)) → (Int → Int → (List (Int × Int)) → (List (Int × Int)) → Option α) → (Int → Option α) → ((List (Int × Int)) → Int → Option α) → Option α) (n : Nat) (p : List P1) (brk : Nat → List P1 → Option α) (ret : Res → Option α) : Option α := match p with
  | [.int x, .int x1, .rows .pt p_, .rows .pt out] => G n x x1 p_ out (fun x x1 p_ out => brk 0 [.int x, .int x1, .rows .pt p_, .rows .pt out]) (fun v1 => ret ⟨[.nilsl, .int .i64 v1], []⟩) (fun v1 v2 => ret ⟨[.sl 26 .pt v1, .int .i64 v2], []⟩)
  | _ => none
def impl_DualPolygon_u8 {α : Type} (n : Nat) (p : List P1) (brk : Nat → List P1 → Option α) (ret : Res → Option α) : Option α := impl_DualPolygon_uG8 impl_DualPolygon_l8 n p brk ret
def impl_DualPolygon_lpsG {α : Type} (G8 : Nat → Int → Int → (List (Int × Int)) → (List (Int × Int)) → (Int → Int → (List (Int × Int)) → (List (Int × Int)) → Option α) → (Int → Option α) → ((List (Int × Int)) → Int → Option α) → Option α) : List (LoopT α) := [⟨8, impl_DualPolygon_t8, impl_DualPolygon_uG8 G8⟩]
def impl_DualPolygon_lps {α : Type} : List (LoopT α) := impl_DualPolygon_lpsG impl_DualPolygon_l8
def impl_DualPolygon_XG {α : Type} (F0 : Nat → (List (Int × Int)) → (Bool → Option α) → Option α) (F1 : Nat → (List (Int × Int)) → (Int → Option α) → Option α) (F2 : Nat → (List (Int × Int)) → Int → Int → (Int → Option α) → Option α) (F3 : Nat → (List (Int × Int)) → Int → (Int → Int → Option α) → Option α) (F4 : Nat → Int → Int → Int → Int → (Int → Option α) → Option α) (G8 : Nat → Int → Int → (List (Int × Int)) → (List (Int × Int)) → (Int → Int → (List (Int × Int)) → (List (Int × Int)) → Option α) → (Int → Option α) → ((List (Int × Int)) → Int → Option α) → Option α) (n : Nat) : Ctx α := ⟨impl_DualPolygon_CG F0 F1 F2 F3 F4 n, impl_DualPolygon_M, eqs, lpOf (impl_DualPolygon_lpsG G8) n⟩
def impl_DualPolygon_X {α : Type} (n : Nat) : Ctx α := impl_DualPolygon_XG impl_IsPolygon impl_polygon_inner impl_polygon_where impl_polygon_next impl_det impl_DualPolygon_l8 n
def impl_DualPolygon_Lt (np : Nat) (lent : List (Bool × Nat × Blk)) : Prop := np = 1 ∧ lent = []
def impl_DualPolygon_lb8 {α : Type} (F0 : Nat → (List (Int × Int)) → (Bool → Option α) → Option α) (F1 : Nat → (List (Int × Int)) → (Int → Option α) → Option α) (F2 : Nat → (List (Int × Int)) → Int → Int → (Int → Option α) → Option α) (F3 : Nat → (List (Int × Int)) → Int → (Int → Int → Option α) → Option α) (F4 : Nat → Int → Int → Int → Int → (Int → Option α) → Option α) (G8 : Nat → Int → Int → (List (Int × Int)) → (List (Int × Int)) → (Int → Int → (List (Int × Int)) → (List (Int × Int)) → Option α) → (Int → Option α) → ((List (Int × Int)) → Int → Option α) → Option α) (k : Nat) (x : Int) (x1 : Int) (p_ : List (Int × Int)) (out : List (Int × Int)) (b0 : Int → Int → (List (Int × Int)) → (List (Int × Int)) → Option α) (r0 : Int → Option α) (r1 : (List (Int × Int)) → Int → Option α) : Option α :=
  bif decide (x1 < x) then
    bif (decide (0 ≤ x1) && decide (x1 < (((List.length p_) : Nat) : Int))) then
      (p_[x1.toNat]?).bind fun e_ =>
      F3 k p_ x1 fun v3 v4 =>
      F4 k e_.1 e_.2 v3 v4 fun v5 =>
      bif decide (v5 = 0) then
        none
      else
      bif decide (v5 = 0) then
        none
      else
      bif decide (((List.length out) + 1) ≤ big) then
        G8 k x (w64 (x1 + 1)) p_ (out ++ [((w64 (Int.tdiv (w64 (e_.2 - v4)) v5)), (w64 (Int.tdiv (w64 (v3 - e_.1)) v5)))]) b0 r0 r1
      else
        none
    else
      none
  else
    b0 x x1 p_ out
theorem impl_DualPolygon_l8_gen {α : Type} (F0 : Nat → (List (Int × Int)) → (Bool → Option α) → Option α) (F1 : Nat → (List (Int × Int)) → (Int → Option α) → Option α) (F2 : Nat → (List (Int × Int)) → Int → Int → (Int → Option α) → Option α) (F3 : Nat → (List (Int × Int)) → Int → (Int → Int → Option α) → Option α) (F4 : Nat → Int → Int → Int → Int → (Int → Option α) → Option α) (G8 : Nat → Int → Int → (List (Int × Int)) → (List (Int × Int)) → (Int → Int → (List (Int × Int)) → (List (Int × Int)) → Option α) → (Int → Option α) → ((List (Int × Int)) → Int → Option α) → Option α) (n : Nat) (x : Int) (x1 : Int) (p_ : List (Int × Int)) (out : List (Int × Int)) (brk : Nat → List P1 → Option α) (ret : Res → Option α) : ev ((impl_DualPolygon_XG F0 F1 F2 F3 F4 G8 n).env Try.prog Try.f50 1 []) (findLoop (loopsIn (Try.f50.body.getD .skip)) 8) ((impl_DualPolygon_t8.build [.int x, .int x1, .rows .pt p_, .rows .pt out]).getD ⟨[], []⟩) (roundK (1 * 64) impl_DualPolygon_t8 (fun q => impl_DualPolygon_uG8 G8 n q brk ret) brk ret) = impl_DualPolygon_lb8 F0 F1 F2 F3 F4 G8 n x x1 p_ out (fun x x1 p_ out => brk 0 [.int x, .int x1, .rows .pt p_, .rows .pt out]) (fun v1 => ret ⟨[.nilsl, .int .i64 v1], []⟩) (fun v1 v2 => ret ⟨[.sl 26 .pt v1, .int .i64 v2], []⟩) := by kernel_rfl
theorem impl_DualPolygon_l8_eq {α : Type} (k : Nat) (x : Int) (x1 : Int) (p_ : List (Int × Int)) (out : List (Int × Int)) (b0 : Int → Int → (List (Int × Int)) → (List (Int × Int)) → Option α) (r0 : Int → Option α) (r1 : (List (Int × Int)) → Int → Option α) : impl_DualPolygon_lb8 impl_IsPolygon impl_polygon_inner impl_polygon_where impl_polygon_next impl_det impl_DualPolygon_l8 k x x1 p_ out b0 r0 r1 = impl_DualPolygon_l8 (k + 1) x x1 p_ out b0 r0 r1 := (impl_DualPolygon_lb8.eq_1 impl_IsPolygon impl_polygon_inner impl_polygon_where impl_polygon_next impl_det impl_DualPolygon_l8 k x x1 p_ out b0 r0 r1).trans (show impl_DualPolygon_l8 (k + 1) x x1 p_ out b0 r0 r1 = _ from impl_DualPolygon_l8.eq_2 _ _ _ _ _ _ _ _ ).symm
theorem impl_DualPolygon_l8_rn {α : Type} (G : Nat → Int → Int → (List (Int × Int)) → (List (Int × Int)) → (Int → Int → (List (Int × Int)) → (List (Int × Int)) → Option α) → (Int → Option α) → ((List (Int × Int)) → Int → Option α) → Option α) (n : Nat) (x : Int) (x1 : Int) (p_ : List (Int × Int)) (out : List (Int × Int)) (brk : Nat → List P1 → Option α) (ret : Res → Option α) : impl_DualPolygon_uG8 G n [.int x, .int x1, .rows .pt p_, .rows .pt out] brk ret = G n x x1 p_ out (fun x x1 p_ out => brk 0 [.int x, .int x1, .rows .pt p_, .rows .pt out]) (fun v1 => ret ⟨[.nilsl, .int .i64 v1], []⟩) (fun v1 v2 => ret ⟨[.sl 26 .pt v1, .int .i64 v2], []⟩) := rfl
theorem impl_DualPolygon_l8_ev {α : Type} (n : Nat) (x : Int) (x1 : Int) (p_ : List (Int × Int)) (out : List (Int × Int)) (brk : Nat → List P1 → Option α) (ret : Res → Option α) : ev ((impl_DualPolygon_X n).env Try.prog Try.f50 1 []) (findLoop (loopsIn (Try.f50.body.getD .skip)) 8) ((impl_DualPolygon_t8.build [.int x, .int x1, .rows .pt p_, .rows .pt out]).getD ⟨[], []⟩) (roundK (1 * 64) impl_DualPolygon_t8 (fun q => impl_DualPolygon_u8 n q brk ret) brk ret) = impl_DualPolygon_u8 (n + 1) [.int x, .int x1, .rows .pt p_, .rows .pt out] brk ret := (impl_DualPolygon_l8_gen impl_IsPolygon impl_polygon_inner impl_polygon_where impl_polygon_next impl_det impl_DualPolygon_l8 n x x1 p_ out brk ret).trans ((impl_DualPolygon_l8_eq n x x1 p_ out (fun x x1 p_ out => brk 0 [.int x, .int x1, .rows .pt p_, .rows .pt out]) (fun v1 => ret ⟨[.nilsl, .int .i64 v1], []⟩) (fun v1 v2 => ret ⟨[.sl 26 .pt v1, .int .i64 v2], []⟩)).trans ((impl_DualPolygon_u8.eq_1 (n + 1) [.int x, .int x1, .rows .pt p_, .rows .pt out] brk ret).trans (impl_DualPolygon_l8_rn impl_DualPolygon_l8 (n + 1) x x1 p_ out brk ret)).symm)
def impl_DualPolygon_body {α : Type} (F0 : Nat → (List (Int × Int)) → (Bool → Option α) → Option α) (F1 : Nat → (List (Int × Int)) → (Int → Option α) → Option α) (F2 : Nat → (List (Int × Int)) → Int → Int → (Int → Option α) → Option α) (F3 : Nat → (List (Int × Int)) → Int → (Int → Int → Option α) → Option α) (F4 : Nat → Int → Int → Int → Int → (Int → Option α) → Option α) (G8 : Nat → Int → Int → (List (Int × Int)) → (List (Int × Int)) → (Int → Int → (List (Int × Int)) → (List (Int × Int)) → Option α) → (Int → Option α) → ((List (Int × Int)) → Int → Option α) → Option α) (k : Nat) (list : List (Int × Int)) (r0 : Int → Option α) (r1 : (List (Int × Int)) → Int → Option α) : Option α :=
  F0 k list fun v =>
  bif (!v) then
    r0 1
  else
    F1 k list fun v1 =>
    bif (!decide (v1 = 1)) then
      r0 5
    else
      F2 k list 0 0 fun v2 =>
      bif (!decide (v2 = 1)) then
        r0 5
      else
        G8 k (((List.length list) : Nat) : Int) 0 list []
          (fun x2 x3 p_1 out1 =>
            r1 out1 0)
          r0 r1
theorem impl_DualPolygon_gen {α : Type} (F0 : Nat → (List (Int × Int)) → (Bool → Option α) → Option α) (F1 : Nat → (List (Int × Int)) → (Int → Option α) → Option α) (F2 : Nat → (List (Int × Int)) → Int → Int → (Int → Option α) → Option α) (F3 : Nat → (List (Int × Int)) → Int → (Int → Int → Option α) → Option α) (F4 : Nat → Int → Int → Int → Int → (Int → Option α) → Option α) (G8 : Nat → Int → Int → (List (Int × Int)) → (List (Int × Int)) → (Int → Int → (List (Int × Int)) → (List (Int × Int)) → Option α) → (Int → Option α) → ((List (Int × Int)) → Int → Option α) → Option α) (n : Nat) (list : List (Int × Int)) (κ : Res → Option α) : evFn Try.prog (impl_DualPolygon_XG F0 F1 F2 F3 F4 G8 n) Try.f50 (((buildDs impl_DualPolygon_sh [.rows .pt list]).map Prod.fst).getD []) κ = impl_DualPolygon_body F0 F1 F2 F3 F4 G8 n list (fun v1 => κ ⟨[.nilsl, .int .i64 v1], []⟩) (fun v1 v2 => κ ⟨[.sl 26 .pt v1, .int .i64 v2], []⟩) := by kernel_rfl
theorem impl_DualPolygon_eq {α : Type} (n : Nat) (list : List (Int × Int)) (r0 : Int → Option α) (r1 : (List (Int × Int)) → Int → Option α) : impl_DualPolygon_body impl_IsPolygon impl_polygon_inner impl_polygon_where impl_polygon_next impl_det impl_DualPolygon_l8 n list r0 r1 = impl_DualPolygon n list r0 r1 := (impl_DualPolygon_body.eq_1 impl_IsPolygon impl_polygon_inner impl_polygon_where impl_polygon_next impl_det impl_DualPolygon_l8 n list r0 r1).trans (impl_DualPolygon.eq_1 n list r0 r1).symm
theorem impl_DualPolygon_rn {α : Type} (F : Nat → (List (Int × Int)) → (Int → Option α) → ((List (Int × Int)) → Int → Option α) → Option α) (n : Nat) (list : List (Int × Int)) (κ : Res → Option α) : impl_DualPolygon_runG F n [.rows .pt list] κ = F n list (fun v1 => κ ⟨[.nilsl, .int .i64 v1], []⟩) (fun v1 v2 => κ ⟨[.sl 26 .pt v1, .int .i64 v2], []⟩) := rfl
theorem impl_DualPolygon_ev {α : Type} (n : Nat) (list : List (Int × Int)) (κ : Res → Option α) : evFn Try.prog (impl_DualPolygon_X n) Try.f50 (((buildDs impl_DualPolygon_sh [.rows .pt list]).map Prod.fst).getD []) κ = impl_DualPolygon_run n [.rows .pt list] κ := (impl_DualPolygon_gen impl_IsPolygon impl_polygon_inner impl_polygon_where impl_polygon_next impl_det impl_DualPolygon_l8 n list κ).trans ((impl_DualPolygon_eq n list (fun v1 => κ ⟨[.nilsl, .int .i64 v1], []⟩) (fun v1 v2 => κ ⟨[.sl 26 .pt v1, .int .i64 v2], []⟩)).trans ((impl_DualPolygon_run.eq_1 n [.rows .pt list] κ).trans (impl_DualPolygon_rn impl_DualPolygon n list κ)).symm)
theorem impl_DualPolygon_en (list : List (Int × Int)) : (entry 0 (((buildDs impl_DualPolygon_sh [.rows .pt list]).map Prod.fst).getD [])).map (fun x => (x.1.length, x.2.lent)) = some (1, []) := by kernel_rfl
theorem impl_DualPolygon_good {α : Type} : ∀ n, GoodFn (α := α) Try.prog 50 (byShape impl_DualPolygon_sh (impl_DualPolygon_run n)) := by
  refine fn_good' Try.func50 (c := (Try.f50.body.getD .skip)) (by kernel_rfl) (by kernel_rfl) (by kernel_rfl) impl_DualPolygon_C impl_DualPolygon_M eqs impl_DualPolygon_lps (fun n => tabC_good (List.forall_mem_cons.2 ⟨(impl_IsPolygon_good n), (List.forall_mem_cons.2 ⟨(impl_polygon_inner_good n), (List.forall_mem_cons.2 ⟨(impl_polygon_where_good n), (List.forall_mem_cons.2 ⟨(impl_polygon_next_good n), (List.forall_mem_cons.2 ⟨(impl_det_good n), (fun _ h => absurd h List.not_mem_nil)⟩)⟩)⟩)⟩)⟩)) eqs_ok impl_DualPolygon_Lt ?_ ?_ impl_DualPolygon_sh impl_DualPolygon_run ?_
  · refine List.forall_mem_cons.2 ⟨?_, (fun _ h => absurd h List.not_mem_nil)⟩
    · intro p brk ret; show impl_DualPolygon_u8 0 p brk ret = none; unfold impl_DualPolygon_u8 impl_DualPolygon_uG8; split <;> rfl
  · refine List.forall_mem_cons.2 ⟨?_, (fun _ h => absurd h List.not_mem_nil)⟩
    · intro np lent hL n p brk ret st r hb hr
      obtain ⟨rfl, rfl⟩ := hL
      rw [← tpl_of hb]
      change impl_DualPolygon_u8 (n + 1) p brk ret = some r at hr
      have hr0 := hr
      unfold impl_DualPolygon_u8 impl_DualPolygon_uG8 at hr
      split at hr
      · exact (impl_DualPolygon_l8_ev n _ _ _ _ brk ret).trans hr0
      · cases hr
  · intro n p κ r ds hd hr
    have hr0 := hr
    unfold impl_DualPolygon_run impl_DualPolygon_runG at hr
    split at hr
    · rw [← ds_of hd]
      exact ⟨en_of (impl_DualPolygon_en _) ⟨rfl, rfl⟩, (impl_DualPolygon_ev n _ κ).trans hr0⟩
    · cases hr

/-! loop.example/g01297/laws.eqPointS -/
def laws_eqPointS_0N_1N_sh : List SkD := [.nilsl, .nilsl]
def laws_eqPointS_0N_1N_runG {α : Type} (F : Nat → (Bool → Option α) → Option α) (n : Nat) (p : List P1) (κ : Res → Option α) : Option α := match p with
  | [] => F n (fun v1 => κ ⟨[.bool v1], []⟩)
  | _ => none
def laws_eqPointS_0N_1N_run {α : Type} (n : Nat) (p : List P1) (κ : Res → Option α) : Option α := laws_eqPointS_0N_1N_runG laws_eqPointS_0N_1N n p κ
def laws_eqPointS_0N_1N_CG {α : Type}  (n : Nat) : FuncId → List D → (Res → Option α) → Option α := tabC []
def laws_eqPointS_0N_1N_C {α : Type} (n : Nat) : FuncId → List D → (Res → Option α) → Option α := laws_eqPointS_0N_1N_CG n
def laws_eqPointS_0N_1N_M : FuncId → List Nat := tabM []
def laws_eqPointS_0N_1N_lpsG {α : Type}  : List (LoopT α) := []
def laws_eqPointS_0N_1N_lps {α : Type} : List (LoopT α) := laws_eqPointS_0N_1N_lpsG
def laws_eqPointS_0N_1N_XG {α : Type}   (n : Nat) : Ctx α := ⟨laws_eqPointS_0N_1N_CG n, laws_eqPointS_0N_1N_M, eqs, lpOf (laws_eqPointS_0N_1N_lpsG) n⟩
def laws_eqPointS_0N_1N_X {α : Type} (n : Nat) : Ctx α := laws_eqPointS_0N_1N_XG n
def laws_eqPointS_0N_1N_Lt (np : Nat) (lent : List (Bool × Nat × Blk)) : Prop := np = 2 ∧ lent = []
def laws_eqPointS_0N_1N_body {α : Type}   (k : Nat)  (r0 : Bool → Option α) : Option α :=
  r0 true
theorem laws_eqPointS_0N_1N_gen {α : Type}   (n : Nat)  (κ : Res → Option α) : evFn Try.prog (laws_eqPointS_0N_1N_XG n) Try.f46 (((buildDs laws_eqPointS_0N_1N_sh []).map Prod.fst).getD []) κ = laws_eqPointS_0N_1N_body n (fun v1 => κ ⟨[.bool v1], []⟩) := by kernel_rfl
theorem laws_eqPointS_0N_1N_eq {α : Type} (n : Nat)  (r0 : Bool → Option α) : laws_eqPointS_0N_1N_body n r0 = laws_eqPointS_0N_1N n  r0 := (laws_eqPointS_0N_1N_body.eq_1 n r0).trans (laws_eqPointS_0N_1N.eq_1 n  r0).symm
theorem laws_eqPointS_0N_1N_rn {α : Type} (F : Nat → (Bool → Option α) → Option α) (n : Nat)  (κ : Res → Option α) : laws_eqPointS_0N_1N_runG F n [] κ = F n  (fun v1 => κ ⟨[.bool v1], []⟩) := rfl
theorem laws_eqPointS_0N_1N_ev {α : Type} (n : Nat)  (κ : Res → Option α) : evFn Try.prog (laws_eqPointS_0N_1N_X n) Try.f46 (((buildDs laws_eqPointS_0N_1N_sh []).map Prod.fst).getD []) κ = laws_eqPointS_0N_1N_run n [] κ := (laws_eqPointS_0N_1N_gen n κ).trans ((laws_eqPointS_0N_1N_eq n  (fun v1 => κ ⟨[.bool v1], []⟩)).trans ((laws_eqPointS_0N_1N_run.eq_1 n [] κ).trans (laws_eqPointS_0N_1N_rn laws_eqPointS_0N_1N n  κ)).symm)
theorem laws_eqPointS_0N_1N_en  : (entry 0 (((buildDs laws_eqPointS_0N_1N_sh []).map Prod.fst).getD [])).map (fun x => (x.1.length, x.2.lent)) = some (2, []) := by kernel_rfl
theorem laws_eqPointS_0N_1N_good {α : Type} : ∀ n, GoodFn (α := α) Try.prog 46 (byShape laws_eqPointS_0N_1N_sh (laws_eqPointS_0N_1N_run n)) := by
  refine fn_good' Try.func46 (c := (Try.f46.body.getD .skip)) (by kernel_rfl) (by kernel_rfl) (by kernel_rfl) laws_eqPointS_0N_1N_C laws_eqPointS_0N_1N_M eqs laws_eqPointS_0N_1N_lps (fun n => tabC_good (fun _ h => absurd h List.not_mem_nil)) eqs_ok laws_eqPointS_0N_1N_Lt ?_ ?_ laws_eqPointS_0N_1N_sh laws_eqPointS_0N_1N_run ?_
  · exact (fun _ h => absurd h List.not_mem_nil)
  · exact (fun _ h => absurd h List.not_mem_nil)
  · intro n p κ r ds hd hr
    have hr0 := hr
    unfold laws_eqPointS_0N_1N_run laws_eqPointS_0N_1N_runG at hr
    split at hr
    · rw [← ds_of hd]
      exact ⟨en_of (laws_eqPointS_0N_1N_en) ⟨rfl, rfl⟩, (laws_eqPointS_0N_1N_ev n κ).trans hr0⟩
    · cases hr

/-! loop.example/g01297/laws.eqPoint -/
def laws_eqPoint_sh : List SkD := [.agg [.int .i64, .int .i64], .agg [.int .i64, .int .i64]]
def laws_eqPoint_runG {α : Type} (F : Nat → Int → Int → Int → Int → (Bool → Option α) → Option α) (n : Nat) (p : List P1) (κ : Res → Option α) : Option α := match p with
  | [.int a, .int a1, .int b_, .int b_1] => F n a a1 b_ b_1 (fun v1 => κ ⟨[.bool v1], []⟩)
  | _ => none
def laws_eqPoint_run {α : Type} (n : Nat) (p : List P1) (κ : Res → Option α) : Option α := laws_eqPoint_runG laws_eqPoint n p κ
def laws_eqPoint_CG {α : Type}  (n : Nat) : FuncId → List D → (Res → Option α) → Option α := tabC []
def laws_eqPoint_C {α : Type} (n : Nat) : FuncId → List D → (Res → Option α) → Option α := laws_eqPoint_CG n
def laws_eqPoint_M : FuncId → List Nat := tabM []
def laws_eqPoint_lpsG {α : Type}  : List (LoopT α) := []
def laws_eqPoint_lps {α : Type} : List (LoopT α) := laws_eqPoint_lpsG
def laws_eqPoint_XG {α : Type}   (n : Nat) : Ctx α := ⟨laws_eqPoint_CG n, laws_eqPoint_M, eqs, lpOf (laws_eqPoint_lpsG) n⟩
def laws_eqPoint_X {α : Type} (n : Nat) : Ctx α := laws_eqPoint_XG n
def laws_eqPoint_Lt (np : Nat) (lent : List (Bool × Nat × Blk)) : Prop := np = 2 ∧ lent = []
def laws_eqPoint_body {α : Type}   (k : Nat) (a : Int) (a1 : Int) (b_ : Int) (b_1 : Int) (r0 : Bool → Option α) : Option α :=
  bif (!decide (a = b_)) then
    r0 false
  else
  bif (!decide (a1 = b_1)) then
    r0 false
  else
    r0 true
theorem laws_eqPoint_gen {α : Type}   (n : Nat) (a : Int) (a1 : Int) (b_ : Int) (b_1 : Int) (κ : Res → Option α) : evFn Try.prog (laws_eqPoint_XG n) Try.f179 (((buildDs laws_eqPoint_sh [.int a, .int a1, .int b_, .int b_1]).map Prod.fst).getD []) κ = laws_eqPoint_body n a a1 b_ b_1 (fun v1 => κ ⟨[.bool v1], []⟩) := by kernel_rfl
theorem laws_eqPoint_eq {α : Type} (n : Nat) (a : Int) (a1 : Int) (b_ : Int) (b_1 : Int) (r0 : Bool → Option α) : laws_eqPoint_body n a a1 b_ b_1 r0 = laws_eqPoint n a a1 b_ b_1 r0 := (laws_eqPoint_body.eq_1 n a a1 b_ b_1 r0).trans (laws_eqPoint.eq_1 n a a1 b_ b_1 r0).symm
theorem laws_eqPoint_rn {α : Type} (F : Nat → Int → Int → Int → Int → (Bool → Option α) → Option α) (n : Nat) (a : Int) (a1 : Int) (b_ : Int) (b_1 : Int) (κ : Res → Option α) : laws_eqPoint_runG F n [.int a, .int a1, .int b_, .int b_1] κ = F n a a1 b_ b_1 (fun v1 => κ ⟨[.bool v1], []⟩) := rfl
theorem laws_eqPoint_ev {α : Type} (n : Nat) (a : Int) (a1 : Int) (b_ : Int) (b_1 : Int) (κ : Res → Option α) : evFn Try.prog (laws_eqPoint_X n) Try.f179 (((buildDs laws_eqPoint_sh [.int a, .int a1, .int b_, .int b_1]).map Prod.fst).getD []) κ = laws_eqPoint_run n [.int a, .int a1, .int b_, .int b_1] κ := (laws_eqPoint_gen n a a1 b_ b_1 κ).trans ((laws_eqPoint_eq n a a1 b_ b_1 (fun v1 => κ ⟨[.bool v1], []⟩)).trans ((laws_eqPoint_run.eq_1 n [.int a, .int a1, .int b_, .int b_1] κ).trans (laws_eqPoint_rn laws_eqPoint n a a1 b_ b_1 κ)).symm)
theorem laws_eqPoint_en (a : Int) (a1 : Int) (b_ : Int) (b_1 : Int) : (entry 0 (((buildDs laws_eqPoint_sh [.int a, .int a1, .int b_, .int b_1]).map Prod.fst).getD [])).map (fun x => (x.1.length, x.2.lent)) = some (2, []) := by kernel_rfl
theorem laws_eqPoint_good {α : Type} : ∀ n, GoodFn (α := α) Try.prog 179 (byShape laws_eqPoint_sh (laws_eqPoint_run n)) := by
  refine fn_good' Try.func179 (c := (Try.f179.body.getD .skip)) (by kernel_rfl) (by kernel_rfl) (by kernel_rfl) laws_eqPoint_C laws_eqPoint_M eqs laws_eqPoint_lps (fun n => tabC_good (fun _ h => absurd h List.not_mem_nil)) eqs_ok laws_eqPoint_Lt ?_ ?_ laws_eqPoint_sh laws_eqPoint_run ?_
  · exact (fun _ h => absurd h List.not_mem_nil)
  · exact (fun _ h => absurd h List.not_mem_nil)
  · intro n p κ r ds hd hr
    have hr0 := hr
    unfold laws_eqPoint_run laws_eqPoint_runG at hr
    split at hr
    · rw [← ds_of hd]
      exact ⟨en_of (laws_eqPoint_en _ _ _ _) ⟨rfl, rfl⟩, (laws_eqPoint_ev n _ _ _ _ κ).trans hr0⟩
    · cases hr

/-! loop.example/g01297/laws.eqPointS -/
def laws_eqPointS_sh : List SkD := [.sl 26 .pt, .sl 26 .pt]
def laws_eqPointS_runG {α : Type} (F : Nat → (List (Int × Int)) → (List (Int × Int)) → (Bool → Option α) → Option α) (n : Nat) (p : List P1) (κ : Res → Option α) : Option α := match p with
  | [.rows .pt a, .rows .pt b_] => F n a b_ (fun v1 => κ ⟨[.bool v1], []⟩)
  | _ => none
def laws_eqPointS_run {α : Type} (n : Nat) (p : List P1) (κ : Res → Option α) : Option α := laws_eqPointS_runG laws_eqPointS n p κ
def laws_eqPointS_CG {α : Type} (F0 : Nat → Int → Int → Int → Int → (Bool → Option α) → Option α) (n : Nat) : FuncId → List D → (Res → Option α) → Option α := tabC [(179, (byShape laws_eqPoint_sh (laws_eqPoint_runG F0 n)))]
def laws_eqPointS_C {α : Type} (n : Nat) : FuncId → List D → (Res → Option α) → Option α := laws_eqPointS_CG laws_eqPoint n
def laws_eqPointS_M : FuncId → List Nat := tabM []
def laws_eqPointS_t4 : Tpl := ⟨[.sl 0, .sl 64, .any, .any, .any, .int .i64, .any, .any, .any, .any, .any, .any, .any, .any, .any, .any, .any, .any, .any, .any, .any, .any, .any, .any, .any, .any, .any], [(0, .rows 0 26 .pt), (64, .rows 0 26 .pt)], []⟩
def laws_eqPointS_uG4 {α : Type} (G : Nat → Int → (List (Int × Int)) → (List (Int × Int)) → (Int → (List (Int × Int)) → (List (Int × Int)) → Option α) → (Bool → Option α) → Option α) (n : Nat) (p : List P1) (brk : Nat → List P1 → Option α) (ret : Res → Option α) : Option α := match p with
  | [.int i, .rows .pt a1, .rows .pt b_1] => G n i a1 b_1 (fun i a1 b_1 => brk 0 [.int i, .rows .pt a1, .rows .pt b_1]) (fun v1 => ret ⟨[.bool v1], []⟩)
  | _ => none
def laws_eqPointS_u4 {α : Type} (n : Nat) (p : List P1) (brk : Nat → List P1 → Option α) (ret : Res → Option α) : Option α := laws_eqPointS_uG4 laws_eqPointS_l4 n p brk ret
def laws_eqPointS_lpsG {α : Type} (G4 : Nat → Int → (List (Int × Int)) → (List (Int × Int)) → (Int → (List (Int × Int)) → (List (Int × Int)) → Option α) → (Bool → Option α) → Option α) : List (LoopT α) := [⟨4, laws_eqPointS_t4, laws_eqPointS_uG4 G4⟩]
def laws_eqPointS_lps {α : Type} : List (LoopT α) := laws_eqPointS_lpsG laws_eqPointS_l4
def laws_eqPointS_XG {α : Type} (F0 : Nat → Int → Int → Int → Int → (Bool → Option α) → Option α) (G4 : Nat → Int → (List (Int × Int)) → (List (Int × Int)) → (Int → (List (Int × Int)) → (List (Int × Int)) → Option α) → (Bool → Option α) → Option α) (n : Nat) : Ctx α := ⟨laws_eqPointS_CG F0 n, laws_eqPointS_M, eqs, lpOf (laws_eqPointS_lpsG G4) n⟩
def laws_eqPointS_X {α : Type} (n : Nat) : Ctx α := laws_eqPointS_XG laws_eqPoint laws_eqPointS_l4 n
def laws_eqPointS_Lt (np : Nat) (lent : List (Bool × Nat × Blk)) : Prop := np = 2 ∧ lent = []
def laws_eqPointS_lb4 {α : Type} (F0 : Nat → Int → Int → Int → Int → (Bool → Option α) → Option α) (G4 : Nat → Int → (List (Int × Int)) → (List (Int × Int)) → (Int → (List (Int × Int)) → (List (Int × Int)) → Option α) → (Bool → Option α) → Option α) (k : Nat) (i : Int) (a1 : List (Int × Int)) (b_1 : List (Int × Int)) (b0 : Int → (List (Int × Int)) → (List (Int × Int)) → Option α) (r0 : Bool → Option α) : Option α :=
  bif decide (i < (((List.length a1) : Nat) : Int)) then
    bif (decide (0 ≤ i) && decide (i < (((List.length a1) : Nat) : Int))) then
      (a1[i.toNat]?).bind fun e_ =>
      bif (decide (0 ≤ i) && decide (i < (((List.length b_1) : Nat) : Int))) then
        (b_1[i.toNat]?).bind fun e_1 =>
        F0 k e_.1 e_.2 e_1.1 e_1.2 fun v =>
        bif (!v) then
          r0 false
        else
          G4 k (w64 (i + 1)) a1 b_1 b0 r0
      else
        none
    else
      none
  else
    b0 i a1 b_1
theorem laws_eqPointS_l4_gen {α : Type} (F0 : Nat → Int → Int → Int → Int → (Bool → Option α) → Option α) (G4 : Nat → Int → (List (Int × Int)) → (List (Int × Int)) → (Int → (List (Int × Int)) → (List (Int × Int)) → Option α) → (Bool → Option α) → Option α) (n : Nat) (i : Int) (a1 : List (Int × Int)) (b_1 : List (Int × Int)) (brk : Nat → List P1 → Option α) (ret : Res → Option α) : ev ((laws_eqPointS_XG F0 G4 n).env Try.prog Try.f46 2 []) (findLoop (loopsIn (Try.f46.body.getD .skip)) 4) ((laws_eqPointS_t4.build [.int i, .rows .pt a1, .rows .pt b_1]).getD ⟨[], []⟩) (roundK (2 * 64) laws_eqPointS_t4 (fun q => laws_eqPointS_uG4 G4 n q brk ret) brk ret) = laws_eqPointS_lb4 F0 G4 n i a1 b_1 (fun i a1 b_1 => brk 0 [.int i, .rows .pt a1, .rows .pt b_1]) (fun v1 => ret ⟨[.bool v1], []⟩) := by kernel_rfl
theorem laws_eqPointS_l4_eq {α : Type} (k : Nat) (i : Int) (a1 : List (Int × Int)) (b_1 : List (Int × Int)) (b0 : Int → (List (Int × Int)) → (List (Int × Int)) → Option α) (r0 : Bool → Option α) : laws_eqPointS_lb4 laws_eqPoint laws_eqPointS_l4 k i a1 b_1 b0 r0 = laws_eqPointS_l4 (k + 1) i a1 b_1 b0 r0 := (laws_eqPointS_lb4.eq_1 laws_eqPoint laws_eqPointS_l4 k i a1 b_1 b0 r0).trans (show laws_eqPointS_l4 (k + 1) i a1 b_1 b0 r0 = _ from laws_eqPointS_l4.eq_2 _ _ _ _ _ _ ).symm
theorem laws_eqPointS_l4_rn {α : Type} (G : Nat → Int → (List (Int × Int)) → (List (Int × Int)) → (Int → (List (Int × Int)) → (List (Int × Int)) → Option α) → (Bool → Option α) → Option α) (n : Nat) (i : Int) (a1 : List (Int × Int)) (b_1 : List (Int × Int)) (brk : Nat → List P1 → Option α) (ret : Res → Option α) : laws_eqPointS_uG4 G n [.int i, .rows .pt a1, .rows .pt b_1] brk ret = G n i a1 b_1 (fun i a1 b_1 => brk 0 [.int i, .rows .pt a1, .rows .pt b_1]) (fun v1 => ret ⟨[.bool v1], []⟩) := rfl
theorem laws_eqPointS_l4_ev {α : Type} (n : Nat) (i : Int) (a1 : List (Int × Int)) (b_1 : List (Int × Int)) (brk : Nat → List P1 → Option α) (ret : Res → Option α) : ev ((laws_eqPointS_X n).env Try.prog Try.f46 2 []) (findLoop (loopsIn (Try.f46.body.getD .skip)) 4) ((laws_eqPointS_t4.build [.int i, .rows .pt a1, .rows .pt b_1]).getD ⟨[], []⟩) (roundK (2 * 64) laws_eqPointS_t4 (fun q => laws_eqPointS_u4 n q brk ret) brk ret) = laws_eqPointS_u4 (n + 1) [.int i, .rows .pt a1, .rows .pt b_1] brk ret := (laws_eqPointS_l4_gen laws_eqPoint laws_eqPointS_l4 n i a1 b_1 brk ret).trans ((laws_eqPointS_l4_eq n i a1 b_1 (fun i a1 b_1 => brk 0 [.int i, .rows .pt a1, .rows .pt b_1]) (fun v1 => ret ⟨[.bool v1], []⟩)).trans ((laws_eqPointS_u4.eq_1 (n + 1) [.int i, .rows .pt a1, .rows .pt b_1] brk ret).trans (laws_eqPointS_l4_rn laws_eqPointS_l4 (n + 1) i a1 b_1 brk ret)).symm)
def laws_eqPointS_body {α : Type} (F0 : Nat → Int → Int → Int → Int → (Bool → Option α) → Option α) (G4 : Nat → Int → (List (Int × Int)) → (List (Int × Int)) → (Int → (List (Int × Int)) → (List (Int × Int)) → Option α) → (Bool → Option α) → Option α) (k : Nat) (a : List (Int × Int)) (b_ : List (Int × Int)) (r0 : Bool → Option α) : Option α :=
  bif (!decide ((((List.length a) : Nat) : Int) = (((List.length b_) : Nat) : Int))) then
    r0 false
  else
    G4 k 0 a b_
      (fun i1 a2 b_2 =>
        r0 true)
      r0
theorem laws_eqPointS_gen {α : Type} (F0 : Nat → Int → Int → Int → Int → (Bool → Option α) → Option α) (G4 : Nat → Int → (List (Int × Int)) → (List (Int × Int)) → (Int → (List (Int × Int)) → (List (Int × Int)) → Option α) → (Bool → Option α) → Option α) (n : Nat) (a : List (Int × Int)) (b_ : List (Int × Int)) (κ : Res → Option α) : evFn Try.prog (laws_eqPointS_XG F0 G4 n) Try.f46 (((buildDs laws_eqPointS_sh [.rows .pt a, .rows .pt b_]).map Prod.fst).getD []) κ = laws_eqPointS_body F0 G4 n a b_ (fun v1 => κ ⟨[.bool v1], []⟩) := by kernel_rfl
theorem laws_eqPointS_eq {α : Type} (n : Nat) (a : List (Int × Int)) (b_ : List (Int × Int)) (r0 : Bool → Option α) : laws_eqPointS_body laws_eqPoint laws_eqPointS_l4 n a b_ r0 = laws_eqPointS n a b_ r0 := (laws_eqPointS_body.eq_1 laws_eqPoint laws_eqPointS_l4 n a b_ r0).trans (laws_eqPointS.eq_1 n a b_ r0).symm
theorem laws_eqPointS_rn {α : Type} (F : Nat → (List (Int × Int)) → (List (Int × Int)) → (Bool → Option α) → Option α) (n : Nat) (a : List (Int × Int)) (b_ : List (Int × Int)) (κ : Res → Option α) : laws_eqPointS_runG F n [.rows .pt a, .rows .pt b_] κ = F n a b_ (fun v1 => κ ⟨[.bool v1], []⟩) := rfl
theorem laws_eqPointS_ev {α : Type} (n : Nat) (a : List (Int × Int)) (b_ : List (Int × Int)) (κ : Res → Option α) : evFn Try.prog (laws_eqPointS_X n) Try.f46 (((buildDs laws_eqPointS_sh [.rows .pt a, .rows .pt b_]).map Prod.fst).getD []) κ = laws_eqPointS_run n [.rows .pt a, .rows .pt b_] κ := (laws_eqPointS_gen laws_eqPoint laws_eqPointS_l4 n a b_ κ).trans ((laws_eqPointS_eq n a b_ (fun v1 => κ ⟨[.bool v1], []⟩)).trans ((laws_eqPointS_run.eq_1 n [.rows .pt a, .rows .pt b_] κ).trans (laws_eqPointS_rn laws_eqPointS n a b_ κ)).symm)
theorem laws_eqPointS_en (a : List (Int × Int)) (b_ : List (Int × Int)) : (entry 0 (((buildDs laws_eqPointS_sh [.rows .pt a, .rows .pt b_]).map Prod.fst).getD [])).map (fun x => (x.1.length, x.2.lent)) = some (2, []) := by kernel_rfl
theorem laws_eqPointS_good {α : Type} : ∀ n, GoodFn (α := α) Try.prog 46 (byShape laws_eqPointS_sh (laws_eqPointS_run n)) := by
  refine fn_good' Try.func46 (c := (Try.f46.body.getD .skip)) (by kernel_rfl) (by kernel_rfl) (by kernel_rfl) laws_eqPointS_C laws_eqPointS_M eqs laws_eqPointS_lps (fun n => tabC_good (List.forall_mem_cons.2 ⟨(laws_eqPoint_good n), (fun _ h => absurd h List.not_mem_nil)⟩)) eqs_ok laws_eqPointS_Lt ?_ ?_ laws_eqPointS_sh laws_eqPointS_run ?_
  · refine List.forall_mem_cons.2 ⟨?_, (fun _ h => absurd h List.not_mem_nil)⟩
    · intro p brk ret; show laws_eqPointS_u4 0 p brk ret = none; unfold laws_eqPointS_u4 laws_eqPointS_uG4; split <;> rfl
  · refine List.forall_mem_cons.2 ⟨?_, (fun _ h => absurd h List.not_mem_nil)⟩
    · intro np lent hL n p brk ret st r hb hr
      obtain ⟨rfl, rfl⟩ := hL
      rw [← tpl_of hb]
      change laws_eqPointS_u4 (n + 1) p brk ret = some r at hr
      have hr0 := hr
      unfold laws_eqPointS_u4 laws_eqPointS_uG4 at hr
      split at hr
      · exact (laws_eqPointS_l4_ev n _ _ _ brk ret).trans hr0
      · cases hr
  · intro n p κ r ds hd hr
    have hr0 := hr
    unfold laws_eqPointS_run laws_eqPointS_runG at hr
    split at hr
    · rw [← ds_of hd]
      exact ⟨en_of (laws_eqPointS_en _ _) ⟨rfl, rfl⟩, (laws_eqPointS_ev n _ _ κ).trans hr0⟩
    · cases hr

/-! loop.example/g01297/laws.markPointS -/
def laws_markPointS_sh : List SkD := [.msl 26 .pt, .int .i64]
def laws_markPointS_runG {α : Type} (F : Nat → (List (Int × Int)) → Int → (Int → (List (Int × Int)) → Option α) → Option α) (n : Nat) (p : List P1) (κ : Res → Option α) : Option α := match p with
  | [.rows .pt a, .int k_] => F n a k_ (fun v1 v2 => κ ⟨[.int .i64 v1], [.sl 26 .pt v2]⟩)
  | _ => none
def laws_markPointS_run {α : Type} (n : Nat) (p : List P1) (κ : Res → Option α) : Option α := laws_markPointS_runG laws_markPointS n p κ
def laws_markPointS_CG {α : Type}  (n : Nat) : FuncId → List D → (Res → Option α) → Option α := tabC []
def laws_markPointS_C {α : Type} (n : Nat) : FuncId → List D → (Res → Option α) → Option α := laws_markPointS_CG n
def laws_markPointS_M : FuncId → List Nat := tabM []
def laws_markPointS_t2 : Tpl := ⟨[.sl 0, .int .i64, .any, .any, .any, .int .i64, .any, .any, .any, .any, .any, .any, .any, .any, .any, .any, .any, .any, .any, .any, .any, .any, .any, .any, .any, .any], [(0, .rows 1 26 .pt)], []⟩
def laws_markPointS_uG2 {α : Type} (G : Nat → Int → Int → (List (Int × Int)) → (Int → Int → (List (Int × Int)) → Option α) → (Int → (List (Int × Int)) → Option α) → Option α) (n : Nat) (p : List P1) (brk : Nat → List P1 → Option α) (ret : Res → Option α) : Option α := match p with
  | [.int k_1, .int i, .rows .pt a1] => G n k_1 i a1 (fun k_1 i a1 => brk 0 [.int k_1, .int i, .rows .pt a1]) (fun v1 v2 => ret ⟨[.int .i64 v1], [.sl 26 .pt v2]⟩)
  | _ => none
def laws_markPointS_u2 {α : Type} (n : Nat) (p : List P1) (brk : Nat → List P1 → Option α) (ret : Res → Option α) : Option α := laws_markPointS_uG2 laws_markPointS_l2 n p brk ret
def laws_markPointS_lpsG {α : Type} (G2 : Nat → Int → Int → (List (Int × Int)) → (Int → Int → (List (Int × Int)) → Option α) → (Int → (List (Int × Int)) → Option α) → Option α) : List (LoopT α) := [⟨2, laws_markPointS_t2, laws_markPointS_uG2 G2⟩]
def laws_markPointS_lps {α : Type} : List (LoopT α) := laws_markPointS_lpsG laws_markPointS_l2
def laws_markPointS_XG {α : Type}  (G2 : Nat → Int → Int → (List (Int × Int)) → (Int → Int → (List (Int × Int)) → Option α) → (Int → (List (Int × Int)) → Option α) → Option α) (n : Nat) : Ctx α := ⟨laws_markPointS_CG n, laws_markPointS_M, eqs, lpOf (laws_markPointS_lpsG G2) n⟩
def laws_markPointS_X {α : Type} (n : Nat) : Ctx α := laws_markPointS_XG laws_markPointS_l2 n
def laws_markPointS_Lt (np : Nat) (lent : List (Bool × Nat × Blk)) : Prop := np = 2 ∧ ∃ (a : List (Int × Int)), lent = [(true, 0, .rows 1 26 .pt a)]
def laws_markPointS_lb2 {α : Type}  (G2 : Nat → Int → Int → (List (Int × Int)) → (Int → Int → (List (Int × Int)) → Option α) → (Int → (List (Int × Int)) → Option α) → Option α) (k : Nat) (k_1 : Int) (i : Int) (a1 : List (Int × Int)) (b0 : Int → Int → (List (Int × Int)) → Option α) (r0 : Int → (List (Int × Int)) → Option α) : Option α :=
  bif decide (i < (((List.length a1) : Nat) : Int)) then
    bif (decide (0 ≤ i) && decide (i < (((List.length a1) : Nat) : Int))) then
      (a1[i.toNat]?).bind fun e_ =>
      bif (decide (0 ≤ i) && decide (i < (((List.length (List.set a1 i.toNat (k_1, e_.2))) : Nat) : Int))) then
        ((List.set a1 i.toNat (k_1, e_.2))[i.toNat]?).bind fun e_1 =>
        G2 k (w64 ((w64 (k_1 + 1)) + 1)) (w64 (i + 1)) (List.set (List.set a1 i.toNat (k_1, e_.2)) i.toNat (e_1.1, (w64 (k_1 + 1)))) b0 r0
      else
        none
    else
      none
  else
    b0 k_1 i a1
theorem laws_markPointS_l2_gen {α : Type}  (G2 : Nat → Int → Int → (List (Int × Int)) → (Int → Int → (List (Int × Int)) → Option α) → (Int → (List (Int × Int)) → Option α) → Option α) (n : Nat) (a_0 : List (Int × Int)) (k_1 : Int) (i : Int) (a1 : List (Int × Int)) (brk : Nat → List P1 → Option α) (ret : Res → Option α) : ev ((laws_markPointS_XG G2 n).env Try.prog Try.f47 2 [(true, 0, .rows 1 26 .pt a_0)]) (findLoop (loopsIn (Try.f47.body.getD .skip)) 2) ((laws_markPointS_t2.build [.int k_1, .int i, .rows .pt a1]).getD ⟨[], []⟩) (roundK (2 * 64) laws_markPointS_t2 (fun q => laws_markPointS_uG2 G2 n q brk ret) brk ret) = laws_markPointS_lb2 G2 n k_1 i a1 (fun k_1 i a1 => brk 0 [.int k_1, .int i, .rows .pt a1]) (fun v1 v2 => ret ⟨[.int .i64 v1], [.sl 26 .pt v2]⟩) := by kernel_rfl
theorem laws_markPointS_l2_eq {α : Type} (k : Nat) (k_1 : Int) (i : Int) (a1 : List (Int × Int)) (b0 : Int → Int → (List (Int × Int)) → Option α) (r0 : Int → (List (Int × Int)) → Option α) : laws_markPointS_lb2 laws_markPointS_l2 k k_1 i a1 b0 r0 = laws_markPointS_l2 (k + 1) k_1 i a1 b0 r0 := (laws_markPointS_lb2.eq_1 laws_markPointS_l2 k k_1 i a1 b0 r0).trans (show laws_markPointS_l2 (k + 1) k_1 i a1 b0 r0 = _ from laws_markPointS_l2.eq_2 _ _ _ _ _ _ ).symm
theorem laws_markPointS_l2_rn {α : Type} (G : Nat → Int → Int → (List (Int × Int)) → (Int → Int → (List (Int × Int)) → Option α) → (Int → (List (Int × Int)) → Option α) → Option α) (n : Nat) (k_1 : Int) (i : Int) (a1 : List (Int × Int)) (brk : Nat → List P1 → Option α) (ret : Res → Option α) : laws_markPointS_uG2 G n [.int k_1, .int i, .rows .pt a1] brk ret = G n k_1 i a1 (fun k_1 i a1 => brk 0 [.int k_1, .int i, .rows .pt a1]) (fun v1 v2 => ret ⟨[.int .i64 v1], [.sl 26 .pt v2]⟩) := rfl
theorem laws_markPointS_l2_ev {α : Type} (n : Nat) (a_0 : List (Int × Int)) (k_1 : Int) (i : Int) (a1 : List (Int × Int)) (brk : Nat → List P1 → Option α) (ret : Res → Option α) : ev ((laws_markPointS_X n).env Try.prog Try.f47 2 [(true, 0, .rows 1 26 .pt a_0)]) (findLoop (loopsIn (Try.f47.body.getD .skip)) 2) ((laws_markPointS_t2.build [.int k_1, .int i, .rows .pt a1]).getD ⟨[], []⟩) (roundK (2 * 64) laws_markPointS_t2 (fun q => laws_markPointS_u2 n q brk ret) brk ret) = laws_markPointS_u2 (n + 1) [.int k_1, .int i, .rows .pt a1] brk ret := (laws_markPointS_l2_gen laws_markPointS_l2 n a_0 k_1 i a1 brk ret).trans ((laws_markPointS_l2_eq n k_1 i a1 (fun k_1 i a1 => brk 0 [.int k_1, .int i, .rows .pt a1]) (fun v1 v2 => ret ⟨[.int .i64 v1], [.sl 26 .pt v2]⟩)).trans ((laws_markPointS_u2.eq_1 (n + 1) [.int k_1, .int i, .rows .pt a1] brk ret).trans (laws_markPointS_l2_rn laws_markPointS_l2 (n + 1) k_1 i a1 brk ret)).symm)
def laws_markPointS_body {α : Type}  (G2 : Nat → Int → Int → (List (Int × Int)) → (Int → Int → (List (Int × Int)) → Option α) → (Int → (List (Int × Int)) → Option α) → Option α) (k : Nat) (a : List (Int × Int)) (k_ : Int) (r0 : Int → (List (Int × Int)) → Option α) : Option α :=
  G2 k k_ 0 a
    (fun k_2 i1 a2 =>
      r0 k_2 a2)
    r0
theorem laws_markPointS_gen {α : Type}  (G2 : Nat → Int → Int → (List (Int × Int)) → (Int → Int → (List (Int × Int)) → Option α) → (Int → (List (Int × Int)) → Option α) → Option α) (n : Nat) (a : List (Int × Int)) (k_ : Int) (κ : Res → Option α) : evFn Try.prog (laws_markPointS_XG G2 n) Try.f47 (((buildDs laws_markPointS_sh [.rows .pt a, .int k_]).map Prod.fst).getD []) κ = laws_markPointS_body G2 n a k_ (fun v1 v2 => κ ⟨[.int .i64 v1], [.sl 26 .pt v2]⟩) := by kernel_rfl
theorem laws_markPointS_eq {α : Type} (n : Nat) (a : List (Int × Int)) (k_ : Int) (r0 : Int → (List (Int × Int)) → Option α) : laws_markPointS_body laws_markPointS_l2 n a k_ r0 = laws_markPointS n a k_ r0 := (laws_markPointS_body.eq_1 laws_markPointS_l2 n a k_ r0).trans (laws_markPointS.eq_1 n a k_ r0).symm
theorem laws_markPointS_rn {α : Type} (F : Nat → (List (Int × Int)) → Int → (Int → (List (Int × Int)) → Option α) → Option α) (n : Nat) (a : List (Int × Int)) (k_ : Int) (κ : Res → Option α) : laws_markPointS_runG F n [.rows .pt a, .int k_] κ = F n a k_ (fun v1 v2 => κ ⟨[.int .i64 v1], [.sl 26 .pt v2]⟩) := rfl
theorem laws_markPointS_ev {α : Type} (n : Nat) (a : List (Int × Int)) (k_ : Int) (κ : Res → Option α) : evFn Try.prog (laws_markPointS_X n) Try.f47 (((buildDs laws_markPointS_sh [.rows .pt a, .int k_]).map Prod.fst).getD []) κ = laws_markPointS_run n [.rows .pt a, .int k_] κ := (laws_markPointS_gen laws_markPointS_l2 n a k_ κ).trans ((laws_markPointS_eq n a k_ (fun v1 v2 => κ ⟨[.int .i64 v1], [.sl 26 .pt v2]⟩)).trans ((laws_markPointS_run.eq_1 n [.rows .pt a, .int k_] κ).trans (laws_markPointS_rn laws_markPointS n a k_ κ)).symm)
theorem laws_markPointS_en (a : List (Int × Int)) (k_ : Int) : (entry 0 (((buildDs laws_markPointS_sh [.rows .pt a, .int k_]).map Prod.fst).getD [])).map (fun x => (x.1.length, x.2.lent)) = some (2, [(true, 0, .rows 1 26 .pt a)]) := by kernel_rfl
theorem laws_markPointS_good {α : Type} : ∀ n, GoodFn (α := α) Try.prog 47 (byShape laws_markPointS_sh (laws_markPointS_run n)) := by
  refine fn_good' Try.func47 (c := (Try.f47.body.getD .skip)) (by kernel_rfl) (by kernel_rfl) (by kernel_rfl) laws_markPointS_C laws_markPointS_M eqs laws_markPointS_lps (fun n => tabC_good (fun _ h => absurd h List.not_mem_nil)) eqs_ok laws_markPointS_Lt ?_ ?_ laws_markPointS_sh laws_markPointS_run ?_
  · refine List.forall_mem_cons.2 ⟨?_, (fun _ h => absurd h List.not_mem_nil)⟩
    · intro p brk ret; show laws_markPointS_u2 0 p brk ret = none; unfold laws_markPointS_u2 laws_markPointS_uG2; split <;> rfl
  · refine List.forall_mem_cons.2 ⟨?_, (fun _ h => absurd h List.not_mem_nil)⟩
    · intro np lent hL n p brk ret st r hb hr
      obtain ⟨rfl, a_0, rfl⟩ := hL
      rw [← tpl_of hb]
      change laws_markPointS_u2 (n + 1) p brk ret = some r at hr
      have hr0 := hr
      unfold laws_markPointS_u2 laws_markPointS_uG2 at hr
      split at hr
      · exact (laws_markPointS_l2_ev n _ _ _ _ brk ret).trans hr0
      · cases hr
  · intro n p κ r ds hd hr
    have hr0 := hr
    unfold laws_markPointS_run laws_markPointS_runG at hr
    split at hr
    · rw [← ds_of hd]
      exact ⟨en_of (laws_markPointS_en _ _) ⟨rfl, _, rfl⟩, (laws_markPointS_ev n _ _ κ).trans hr0⟩
    · cases hr

/-! loop.example/g01297/laws.markPointS -/
def laws_markPointS_0N_sh : List SkD := [.nilsl, .int .i64]
def laws_markPointS_0N_runG {α : Type} (F : Nat → Int → (Int → Option α) → Option α) (n : Nat) (p : List P1) (κ : Res → Option α) : Option α := match p with
  | [.int k_] => F n k_ (fun v1 => κ ⟨[.int .i64 v1], []⟩)
  | _ => none
def laws_markPointS_0N_run {α : Type} (n : Nat) (p : List P1) (κ : Res → Option α) : Option α := laws_markPointS_0N_runG laws_markPointS_0N n p κ
def laws_markPointS_0N_CG {α : Type}  (n : Nat) : FuncId → List D → (Res → Option α) → Option α := tabC []
def laws_markPointS_0N_C {α : Type} (n : Nat) : FuncId → List D → (Res → Option α) → Option α := laws_markPointS_0N_CG n
def laws_markPointS_0N_M : FuncId → List Nat := tabM []
def laws_markPointS_0N_lpsG {α : Type}  : List (LoopT α) := []
def laws_markPointS_0N_lps {α : Type} : List (LoopT α) := laws_markPointS_0N_lpsG
def laws_markPointS_0N_XG {α : Type}   (n : Nat) : Ctx α := ⟨laws_markPointS_0N_CG n, laws_markPointS_0N_M, eqs, lpOf (laws_markPointS_0N_lpsG) n⟩
def laws_markPointS_0N_X {α : Type} (n : Nat) : Ctx α := laws_markPointS_0N_XG n
def laws_markPointS_0N_Lt (np : Nat) (lent : List (Bool × Nat × Blk)) : Prop := np = 2 ∧ lent = []
def laws_markPointS_0N_body {α : Type}   (k : Nat) (k_ : Int) (r0 : Int → Option α) : Option α :=
  r0 k_
theorem laws_markPointS_0N_gen {α : Type}   (n : Nat) (k_ : Int) (κ : Res → Option α) : evFn Try.prog (laws_markPointS_0N_XG n) Try.f47 (((buildDs laws_markPointS_0N_sh [.int k_]).map Prod.fst).getD []) κ = laws_markPointS_0N_body n k_ (fun v1 => κ ⟨[.int .i64 v1], []⟩) := by kernel_rfl
theorem laws_markPointS_0N_eq {α : Type} (n : Nat) (k_ : Int) (r0 : Int → Option α) : laws_markPointS_0N_body n k_ r0 = laws_markPointS_0N n k_ r0 := (laws_markPointS_0N_body.eq_1 n k_ r0).trans (laws_markPointS_0N.eq_1 n k_ r0).symm
theorem laws_markPointS_0N_rn {α : Type} (F : Nat → Int → (Int → Option α) → Option α) (n : Nat) (k_ : Int) (κ : Res → Option α) : laws_markPointS_0N_runG F n [.int k_] κ = F n k_ (fun v1 => κ ⟨[.int .i64 v1], []⟩) := rfl
theorem laws_markPointS_0N_ev {α : Type} (n : Nat) (k_ : Int) (κ : Res → Option α) : evFn Try.prog (laws_markPointS_0N_X n) Try.f47 (((buildDs laws_markPointS_0N_sh [.int k_]).map Prod.fst).getD []) κ = laws_markPointS_0N_run n [.int k_] κ := (laws_markPointS_0N_gen n k_ κ).trans ((laws_markPointS_0N_eq n k_ (fun v1 => κ ⟨[.int .i64 v1], []⟩)).trans ((laws_markPointS_0N_run.eq_1 n [.int k_] κ).trans (laws_markPointS_0N_rn laws_markPointS_0N n k_ κ)).symm)
theorem laws_markPointS_0N_en (k_ : Int) : (entry 0 (((buildDs laws_markPointS_0N_sh [.int k_]).map Prod.fst).getD [])).map (fun x => (x.1.length, x.2.lent)) = some (2, []) := by kernel_rfl
theorem laws_markPointS_0N_good {α : Type} : ∀ n, GoodFn (α := α) Try.prog 47 (byShape laws_markPointS_0N_sh (laws_markPointS_0N_run n)) := by
  refine fn_good' Try.func47 (c := (Try.f47.body.getD .skip)) (by kernel_rfl) (by kernel_rfl) (by kernel_rfl) laws_markPointS_0N_C laws_markPointS_0N_M eqs laws_markPointS_0N_lps (fun n => tabC_good (fun _ h => absurd h List.not_mem_nil)) eqs_ok laws_markPointS_0N_Lt ?_ ?_ laws_markPointS_0N_sh laws_markPointS_0N_run ?_
  · exact (fun _ h => absurd h List.not_mem_nil)
  · exact (fun _ h => absurd h List.not_mem_nil)
  · intro n p κ r ds hd hr
    have hr0 := hr
    unfold laws_markPointS_0N_run laws_markPointS_0N_runG at hr
    split at hr
    · rw [← ds_of hd]
      exact ⟨en_of (laws_markPointS_0N_en _) ⟨rfl, rfl⟩, (laws_markPointS_0N_ev n _ κ).trans hr0⟩
    · cases hr

/-! loop.example/g01297/laws.heldPointS -/
def laws_heldPointS_0N_sh : List SkD := [.nilsl, .int .i64]
def laws_heldPointS_0N_runG {α : Type} (F : Nat → Int → (Int → Option α) → Option α) (n : Nat) (p : List P1) (κ : Res → Option α) : Option α := match p with
  | [.int k_] => F n k_ (fun v1 => κ ⟨[.int .i64 v1], []⟩)
  | _ => none
def laws_heldPointS_0N_run {α : Type} (n : Nat) (p : List P1) (κ : Res → Option α) : Option α := laws_heldPointS_0N_runG laws_heldPointS_0N n p κ
def laws_heldPointS_0N_CG {α : Type}  (n : Nat) : FuncId → List D → (Res → Option α) → Option α := tabC []
def laws_heldPointS_0N_C {α : Type} (n : Nat) : FuncId → List D → (Res → Option α) → Option α := laws_heldPointS_0N_CG n
def laws_heldPointS_0N_M : FuncId → List Nat := tabM []
def laws_heldPointS_0N_lpsG {α : Type}  : List (LoopT α) := []
def laws_heldPointS_0N_lps {α : Type} : List (LoopT α) := laws_heldPointS_0N_lpsG
def laws_heldPointS_0N_XG {α : Type}   (n : Nat) : Ctx α := ⟨laws_heldPointS_0N_CG n, laws_heldPointS_0N_M, eqs, lpOf (laws_heldPointS_0N_lpsG) n⟩
def laws_heldPointS_0N_X {α : Type} (n : Nat) : Ctx α := laws_heldPointS_0N_XG n
def laws_heldPointS_0N_Lt (np : Nat) (lent : List (Bool × Nat × Blk)) : Prop := np = 2 ∧ lent = []
def laws_heldPointS_0N_body {α : Type}   (k : Nat) (k_ : Int) (r0 : Int → Option α) : Option α :=
  r0 k_
theorem laws_heldPointS_0N_gen {α : Type}   (n : Nat) (k_ : Int) (κ : Res → Option α) : evFn Try.prog (laws_heldPointS_0N_XG n) Try.f48 (((buildDs laws_heldPointS_0N_sh [.int k_]).map Prod.fst).getD []) κ = laws_heldPointS_0N_body n k_ (fun v1 => κ ⟨[.int .i64 v1], []⟩) := by kernel_rfl
theorem laws_heldPointS_0N_eq {α : Type} (n : Nat) (k_ : Int) (r0 : Int → Option α) : laws_heldPointS_0N_body n k_ r0 = laws_heldPointS_0N n k_ r0 := (laws_heldPointS_0N_body.eq_1 n k_ r0).trans (laws_heldPointS_0N.eq_1 n k_ r0).symm
theorem laws_heldPointS_0N_rn {α : Type} (F : Nat → Int → (Int → Option α) → Option α) (n : Nat) (k_ : Int) (κ : Res → Option α) : laws_heldPointS_0N_runG F n [.int k_] κ = F n k_ (fun v1 => κ ⟨[.int .i64 v1], []⟩) := rfl
theorem laws_heldPointS_0N_ev {α : Type} (n : Nat) (k_ : Int) (κ : Res → Option α) : evFn Try.prog (laws_heldPointS_0N_X n) Try.f48 (((buildDs laws_heldPointS_0N_sh [.int k_]).map Prod.fst).getD []) κ = laws_heldPointS_0N_run n [.int k_] κ := (laws_heldPointS_0N_gen n k_ κ).trans ((laws_heldPointS_0N_eq n k_ (fun v1 => κ ⟨[.int .i64 v1], []⟩)).trans ((laws_heldPointS_0N_run.eq_1 n [.int k_] κ).trans (laws_heldPointS_0N_rn laws_heldPointS_0N n k_ κ)).symm)
theorem laws_heldPointS_0N_en (k_ : Int) : (entry 0 (((buildDs laws_heldPointS_0N_sh [.int k_]).map Prod.fst).getD [])).map (fun x => (x.1.length, x.2.lent)) = some (2, []) := by kernel_rfl
theorem laws_heldPointS_0N_good {α : Type} : ∀ n, GoodFn (α := α) Try.prog 48 (byShape laws_heldPointS_0N_sh (laws_heldPointS_0N_run n)) := by
  refine fn_good' Try.func48 (c := (Try.f48.body.getD .skip)) (by kernel_rfl) (by kernel_rfl) (by kernel_rfl) laws_heldPointS_0N_C laws_heldPointS_0N_M eqs laws_heldPointS_0N_lps (fun n => tabC_good (fun _ h => absurd h List.not_mem_nil)) eqs_ok laws_heldPointS_0N_Lt ?_ ?_ laws_heldPointS_0N_sh laws_heldPointS_0N_run ?_
  · exact (fun _ h => absurd h List.not_mem_nil)
  · exact (fun _ h => absurd h List.not_mem_nil)
  · intro n p κ r ds hd hr
    have hr0 := hr
    unfold laws_heldPointS_0N_run laws_heldPointS_0N_runG at hr
    split at hr
    · rw [← ds_of hd]
      exact ⟨en_of (laws_heldPointS_0N_en _) ⟨rfl, rfl⟩, (laws_heldPointS_0N_ev n _ κ).trans hr0⟩
    · cases hr

/-! loop.example/g01297/laws.eqPointS -/
def laws_eqPointS_1N_sh : List SkD := [.sl 26 .pt, .nilsl]
def laws_eqPointS_1N_runG {α : Type} (F : Nat → (List (Int × Int)) → (Bool → Option α) → Option α) (n : Nat) (p : List P1) (κ : Res → Option α) : Option α := match p with
  | [.rows .pt a] => F n a (fun v1 => κ ⟨[.bool v1], []⟩)
  | _ => none
def laws_eqPointS_1N_run {α : Type} (n : Nat) (p : List P1) (κ : Res → Option α) : Option α := laws_eqPointS_1N_runG laws_eqPointS_1N n p κ
def laws_eqPointS_1N_CG {α : Type}  (n : Nat) : FuncId → List D → (Res → Option α) → Option α := tabC []
def laws_eqPointS_1N_C {α : Type} (n : Nat) : FuncId → List D → (Res → Option α) → Option α := laws_eqPointS_1N_CG n
def laws_eqPointS_1N_M : FuncId → List Nat := tabM []
def laws_eqPointS_1N_t4 : Tpl := ⟨[.sl 0, .nilsl, .any, .any, .any, .int .i64, .any, .any, .any, .any, .any, .any, .any, .any, .any, .any, .any, .any, .any, .any, .any, .any, .any, .any, .any, .any, .any], [(0, .rows 0 26 .pt)], []⟩
def laws_eqPointS_1N_uG4 {α : Type} (G : Nat → Int → (List (Int × Int)) → (Int → (List (Int × Int)) → Option α) → (Bool → Option α) → Option α) (n : Nat) (p : List P1) (brk : Nat → List P1 → Option α) (ret : Res → Option α) : Option α := match p with
  | [.int i, .rows .pt a1] => G n i a1 (fun i a1 => brk 0 [.int i, .rows .pt a1]) (fun v1 => ret ⟨[.bool v1], []⟩)
  | _ => none
def laws_eqPointS_1N_u4 {α : Type} (n : Nat) (p : List P1) (brk : Nat → List P1 → Option α) (ret : Res → Option α) : Option α := laws_eqPointS_1N_uG4 laws_eqPointS_1N_l4 n p brk ret
def laws_eqPointS_1N_lpsG {α : Type} (G4 : Nat → Int → (List (Int × Int)) → (Int → (List (Int × Int)) → Option α) → (Bool → Option α) → Option α) : List (LoopT α) := [⟨4, laws_eqPointS_1N_t4, laws_eqPointS_1N_uG4 G4⟩]
def laws_eqPointS_1N_lps {α : Type} : List (LoopT α) := laws_eqPointS_1N_lpsG laws_eqPointS_1N_l4
def laws_eqPointS_1N_XG {α : Type}  (G4 : Nat → Int → (List (Int × Int)) → (Int → (List (Int × Int)) → Option α) → (Bool → Option α) → Option α) (n : Nat) : Ctx α := ⟨laws_eqPointS_1N_CG n, laws_eqPointS_1N_M, eqs, lpOf (laws_eqPointS_1N_lpsG G4) n⟩
def laws_eqPointS_1N_X {α : Type} (n : Nat) : Ctx α := laws_eqPointS_1N_XG laws_eqPointS_1N_l4 n
def laws_eqPointS_1N_Lt (np : Nat) (lent : List (Bool × Nat × Blk)) : Prop := np = 2 ∧ lent = []
def laws_eqPointS_1N_lb4 {α : Type}  (G4 : Nat → Int → (List (Int × Int)) → (Int → (List (Int × Int)) → Option α) → (Bool → Option α) → Option α) (k : Nat) (i : Int) (a1 : List (Int × Int)) (b0 : Int → (List (Int × Int)) → Option α) (r0 : Bool → Option α) : Option α :=
  bif decide (i < (((List.length a1) : Nat) : Int)) then
    bif (decide (0 ≤ i) && decide (i < (((List.length a1) : Nat) : Int))) then
      (a1[i.toNat]?).bind fun e_ =>
      none
    else
      none
  else
    b0 i a1
theorem laws_eqPointS_1N_l4_gen {α : Type}  (G4 : Nat → Int → (List (Int × Int)) → (Int → (List (Int × Int)) → Option α) → (Bool → Option α) → Option α) (n : Nat) (i : Int) (a1 : List (Int × Int)) (brk : Nat → List P1 → Option α) (ret : Res → Option α) : ev ((laws_eqPointS_1N_XG G4 n).env Try.prog Try.f46 2 []) (findLoop (loopsIn (Try.f46.body.getD .skip)) 4) ((laws_eqPointS_1N_t4.build [.int i, .rows .pt a1]).getD ⟨[], []⟩) (roundK (2 * 64) laws_eqPointS_1N_t4 (fun q => laws_eqPointS_1N_uG4 G4 n q brk ret) brk ret) = laws_eqPointS_1N_lb4 G4 n i a1 (fun i a1 => brk 0 [.int i, .rows .pt a1]) (fun v1 => ret ⟨[.bool v1], []⟩) := by kernel_rfl
theorem laws_eqPointS_1N_l4_eq {α : Type} (k : Nat) (i : Int) (a1 : List (Int × Int)) (b0 : Int → (List (Int × Int)) → Option α) (r0 : Bool → Option α) : laws_eqPointS_1N_lb4 laws_eqPointS_1N_l4 k i a1 b0 r0 = laws_eqPointS_1N_l4 (k + 1) i a1 b0 r0 := (laws_eqPointS_1N_lb4.eq_1 laws_eqPointS_1N_l4 k i a1 b0 r0).trans (show laws_eqPointS_1N_l4 (k + 1) i a1 b0 r0 = _ from laws_eqPointS_1N_l4.eq_2 _ _ _ _ _ ).symm
theorem laws_eqPointS_1N_l4_rn {α : Type} (G : Nat → Int → (List (Int × Int)) → (Int → (List (Int × Int)) → Option α) → (Bool → Option α) → Option α) (n : Nat) (i : Int) (a1 : List (Int × Int)) (brk : Nat → List P1 → Option α) (ret : Res → Option α) : laws_eqPointS_1N_uG4 G n [.int i, .rows .pt a1] brk ret = G n i a1 (fun i a1 => brk 0 [.int i, .rows .pt a1]) (fun v1 => ret ⟨[.bool v1], []⟩) := rfl
theorem laws_eqPointS_1N_l4_ev {α : Type} (n : Nat) (i : Int) (a1 : List (Int × Int)) (brk : Nat → List P1 → Option α) (ret : Res → Option α) : ev ((laws_eqPointS_1N_X n).env Try.prog Try.f46 2 []) (findLoop (loopsIn (Try.f46.body.getD .skip)) 4) ((laws_eqPointS_1N_t4.build [.int i, .rows .pt a1]).getD ⟨[], []⟩) (roundK (2 * 64) laws_eqPointS_1N_t4 (fun q => laws_eqPointS_1N_u4 n q brk ret) brk ret) = laws_eqPointS_1N_u4 (n + 1) [.int i, .rows .pt a1] brk ret := (laws_eqPointS_1N_l4_gen laws_eqPointS_1N_l4 n i a1 brk ret).trans ((laws_eqPointS_1N_l4_eq n i a1 (fun i a1 => brk 0 [.int i, .rows .pt a1]) (fun v1 => ret ⟨[.bool v1], []⟩)).trans ((laws_eqPointS_1N_u4.eq_1 (n + 1) [.int i, .rows .pt a1] brk ret).trans (laws_eqPointS_1N_l4_rn laws_eqPointS_1N_l4 (n + 1) i a1 brk ret)).symm)
def laws_eqPointS_1N_body {α : Type}  (G4 : Nat → Int → (List (Int × Int)) → (Int → (List (Int × Int)) → Option α) → (Bool → Option α) → Option α) (k : Nat) (a : List (Int × Int)) (r0 : Bool → Option α) : Option α :=
  bif (!decide ((((List.length a) : Nat) : Int) = 0)) then
    r0 false
  else
    G4 k 0 a
      (fun i1 a2 =>
        r0 true)
      r0
theorem laws_eqPointS_1N_gen {α : Type}  (G4 : Nat → Int → (List (Int × Int)) → (Int → (List (Int × Int)) → Option α) → (Bool → Option α) → Option α) (n : Nat) (a : List (Int × Int)) (κ : Res → Option α) : evFn Try.prog (laws_eqPointS_1N_XG G4 n) Try.f46 (((buildDs laws_eqPointS_1N_sh [.rows .pt a]).map Prod.fst).getD []) κ = laws_eqPointS_1N_body G4 n a (fun v1 => κ ⟨[.bool v1], []⟩) := by kernel_rfl
theorem laws_eqPointS_1N_eq {α : Type} (n : Nat) (a : List (Int × Int)) (r0 : Bool → Option α) : laws_eqPointS_1N_body laws_eqPointS_1N_l4 n a r0 = laws_eqPointS_1N n a r0 := (laws_eqPointS_1N_body.eq_1 laws_eqPointS_1N_l4 n a r0).trans (laws_eqPointS_1N.eq_1 n a r0).symm
theorem laws_eqPointS_1N_rn {α : Type} (F : Nat → (List (Int × Int)) → (Bool → Option α) → Option α) (n : Nat) (a : List (Int × Int)) (κ : Res → Option α) : laws_eqPointS_1N_runG F n [.rows .pt a] κ = F n a (fun v1 => κ ⟨[.bool v1], []⟩) := rfl
theorem laws_eqPointS_1N_ev {α : Type} (n : Nat) (a : List (Int × Int)) (κ : Res → Option α) : evFn Try.prog (laws_eqPointS_1N_X n) Try.f46 (((buildDs laws_eqPointS_1N_sh [.rows .pt a]).map Prod.fst).getD []) κ = laws_eqPointS_1N_run n [.rows .pt a] κ := (laws_eqPointS_1N_gen laws_eqPointS_1N_l4 n a κ).trans ((laws_eqPointS_1N_eq n a (fun v1 => κ ⟨[.bool v1], []⟩)).trans ((laws_eqPointS_1N_run.eq_1 n [.rows .pt a] κ).trans (laws_eqPointS_1N_rn laws_eqPointS_1N n a κ)).symm)
theorem laws_eqPointS_1N_en (a : List (Int × Int)) : (entry 0 (((buildDs laws_eqPointS_1N_sh [.rows .pt a]).map Prod.fst).getD [])).map (fun x => (x.1.length, x.2.lent)) = some (2, []) := by kernel_rfl
theorem laws_eqPointS_1N_good {α : Type} : ∀ n, GoodFn (α := α) Try.prog 46 (byShape laws_eqPointS_1N_sh (laws_eqPointS_1N_run n)) := by
  refine fn_good' Try.func46 (c := (Try.f46.body.getD .skip)) (by kernel_rfl) (by kernel_rfl) (by kernel_rfl) laws_eqPointS_1N_C laws_eqPointS_1N_M eqs laws_eqPointS_1N_lps (fun n => tabC_good (fun _ h => absurd h List.not_mem_nil)) eqs_ok laws_eqPointS_1N_Lt ?_ ?_ laws_eqPointS_1N_sh laws_eqPointS_1N_run ?_
  · refine List.forall_mem_cons.2 ⟨?_, (fun _ h => absurd h List.not_mem_nil)⟩
    · intro p brk ret; show laws_eqPointS_1N_u4 0 p brk ret = none; unfold laws_eqPointS_1N_u4 laws_eqPointS_1N_uG4; split <;> rfl
  · refine List.forall_mem_cons.2 ⟨?_, (fun _ h => absurd h List.not_mem_nil)⟩
    · intro np lent hL n p brk ret st r hb hr
      obtain ⟨rfl, rfl⟩ := hL
      rw [← tpl_of hb]
      change laws_eqPointS_1N_u4 (n + 1) p brk ret = some r at hr
      have hr0 := hr
      unfold laws_eqPointS_1N_u4 laws_eqPointS_1N_uG4 at hr
      split at hr
      · exact (laws_eqPointS_1N_l4_ev n _ _ brk ret).trans hr0
      · cases hr
  · intro n p κ r ds hd hr
    have hr0 := hr
    unfold laws_eqPointS_1N_run laws_eqPointS_1N_runG at hr
    split at hr
    · rw [← ds_of hd]
      exact ⟨en_of (laws_eqPointS_1N_en _) ⟨rfl, rfl⟩, (laws_eqPointS_1N_ev n _ κ).trans hr0⟩
    · cases hr

/-! loop.example/g01297/laws.heldPointS -/
def laws_heldPointS_sh : List SkD := [.sl 26 .pt, .int .i64]
def laws_heldPointS_runG {α : Type} (F : Nat → (List (Int × Int)) → Int → (Int → Option α) → Option α) (n : Nat) (p : List P1) (κ : Res → Option α) : Option α := match p with
  | [.rows .pt a, .int k_] => F n a k_ (fun v1 => κ ⟨[.int .i64 v1], []⟩)
  | _ => none
def laws_heldPointS_run {α : Type} (n : Nat) (p : List P1) (κ : Res → Option α) : Option α := laws_heldPointS_runG laws_heldPointS n p κ
def laws_heldPointS_CG {α : Type}  (n : Nat) : FuncId → List D → (Res → Option α) → Option α := tabC []
def laws_heldPointS_C {α : Type} (n : Nat) : FuncId → List D → (Res → Option α) → Option α := laws_heldPointS_CG n
def laws_heldPointS_M : FuncId → List Nat := tabM []
def laws_heldPointS_t2 : Tpl := ⟨[.sl 0, .int .i64, .any, .any, .any, .int .i64, .any, .any, .any, .any, .any, .any, .any, .any, .any, .any, .any, .any, .any, .any, .any, .any, .any, .any, .any, .any, .any, .any], [(0, .rows 0 26 .pt)], []⟩
def laws_heldPointS_uG2 {α : Type} (G : Nat → Int → Int → (List (Int × Int)) → (Int → Int → (List (Int × Int)) → Option α) → (Int → Option α) → Option α) (n : Nat) (p : List P1) (brk : Nat → List P1 → Option α) (ret : Res → Option α) : Option α := match p with
  | [.int k_1, .int i, .rows .pt a1] => G n k_1 i a1 (fun k_1 i a1 => brk 0 [.int k_1, .int i, .rows .pt a1]) (fun v1 => ret ⟨[.int .i64 v1], []⟩)
  | _ => none
def laws_heldPointS_u2 {α : Type} (n : Nat) (p : List P1) (brk : Nat → List P1 → Option α) (ret : Res → Option α) : Option α := laws_heldPointS_uG2 laws_heldPointS_l2 n p brk ret
def laws_heldPointS_lpsG {α : Type} (G2 : Nat → Int → Int → (List (Int × Int)) → (Int → Int → (List (Int × Int)) → Option α) → (Int → Option α) → Option α) : List (LoopT α) := [⟨2, laws_heldPointS_t2, laws_heldPointS_uG2 G2⟩]
def laws_heldPointS_lps {α : Type} : List (LoopT α) := laws_heldPointS_lpsG laws_heldPointS_l2
def laws_heldPointS_XG {α : Type}  (G2 : Nat → Int → Int → (List (Int × Int)) → (Int → Int → (List (Int × Int)) → Option α) → (Int → Option α) → Option α) (n : Nat) : Ctx α := ⟨laws_heldPointS_CG n, laws_heldPointS_M, eqs, lpOf (laws_heldPointS_lpsG G2) n⟩
def laws_heldPointS_X {α : Type} (n : Nat) : Ctx α := laws_heldPointS_XG laws_heldPointS_l2 n
def laws_heldPointS_Lt (np : Nat) (lent : List (Bool × Nat × Blk)) : Prop := np = 2 ∧ lent = []
def laws_heldPointS_lb2 {α : Type}  (G2 : Nat → Int → Int → (List (Int × Int)) → (Int → Int → (List (Int × Int)) → Option α) → (Int → Option α) → Option α) (k : Nat) (k_1 : Int) (i : Int) (a1 : List (Int × Int)) (b0 : Int → Int → (List (Int × Int)) → Option α) (r0 : Int → Option α) : Option α :=
  bif decide (i < (((List.length a1) : Nat) : Int)) then
    bif (decide (0 ≤ i) && decide (i < (((List.length a1) : Nat) : Int))) then
      (a1[i.toNat]?).bind fun e_ =>
      bif (!decide (e_.1 = k_1)) then
        r0 (-1)
      else
      bif (decide (0 ≤ i) && decide (i < (((List.length a1) : Nat) : Int))) then
        (a1[i.toNat]?).bind fun e_1 =>
        bif (!decide (e_1.2 = (w64 (k_1 + 1)))) then
          r0 (-1)
        else
          G2 k (w64 ((w64 (k_1 + 1)) + 1)) (w64 (i + 1)) a1 b0 r0
      else
        none
    else
      none
  else
    b0 k_1 i a1
theorem laws_heldPointS_l2_gen {α : Type}  (G2 : Nat → Int → Int → (List (Int × Int)) → (Int → Int → (List (Int × Int)) → Option α) → (Int → Option α) → Option α) (n : Nat) (k_1 : Int) (i : Int) (a1 : List (Int × Int)) (brk : Nat → List P1 → Option α) (ret : Res → Option α) : ev ((laws_heldPointS_XG G2 n).env Try.prog Try.f48 2 []) (findLoop (loopsIn (Try.f48.body.getD .skip)) 2) ((laws_heldPointS_t2.build [.int k_1, .int i, .rows .pt a1]).getD ⟨[], []⟩) (roundK (2 * 64) laws_heldPointS_t2 (fun q => laws_heldPointS_uG2 G2 n q brk ret) brk ret) = laws_heldPointS_lb2 G2 n k_1 i a1 (fun k_1 i a1 => brk 0 [.int k_1, .int i, .rows .pt a1]) (fun v1 => ret ⟨[.int .i64 v1], []⟩) := by kernel_rfl
theorem laws_heldPointS_l2_eq {α : Type} (k : Nat) (k_1 : Int) (i : Int) (a1 : List (Int × Int)) (b0 : Int → Int → (List (Int × Int)) → Option α) (r0 : Int → Option α) : laws_heldPointS_lb2 laws_heldPointS_l2 k k_1 i a1 b0 r0 = laws_heldPointS_l2 (k + 1) k_1 i a1 b0 r0 := (laws_heldPointS_lb2.eq_1 laws_heldPointS_l2 k k_1 i a1 b0 r0).trans (show laws_heldPointS_l2 (k + 1) k_1 i a1 b0 r0 = _ from laws_heldPointS_l2.eq_2 _ _ _ _ _ _ ).symm
theorem laws_heldPointS_l2_rn {α : Type} (G : Nat → Int → Int → (List (Int × Int)) → (Int → Int → (List (Int × Int)) → Option α) → (Int → Option α) → Option α) (n : Nat) (k_1 : Int) (i : Int) (a1 : List (Int × Int)) (brk : Nat → List P1 → Option α) (ret : Res → Option α) : laws_heldPointS_uG2 G n [.int k_1, .int i, .rows .pt a1] brk ret = G n k_1 i a1 (fun k_1 i a1 => brk 0 [.int k_1, .int i, .rows .pt a1]) (fun v1 => ret ⟨[.int .i64 v1], []⟩) := rfl
theorem laws_heldPointS_l2_ev {α : Type} (n : Nat) (k_1 : Int) (i : Int) (a1 : List (Int × Int)) (brk : Nat → List P1 → Option α) (ret : Res → Option α) : ev ((laws_heldPointS_X n).env Try.prog Try.f48 2 []) (findLoop (loopsIn (Try.f48.body.getD .skip)) 2) ((laws_heldPointS_t2.build [.int k_1, .int i, .rows .pt a1]).getD ⟨[], []⟩) (roundK (2 * 64) laws_heldPointS_t2 (fun q => laws_heldPointS_u2 n q brk ret) brk ret) = laws_heldPointS_u2 (n + 1) [.int k_1, .int i, .rows .pt a1] brk ret := (laws_heldPointS_l2_gen laws_heldPointS_l2 n k_1 i a1 brk ret).trans ((laws_heldPointS_l2_eq n k_1 i a1 (fun k_1 i a1 => brk 0 [.int k_1, .int i, .rows .pt a1]) (fun v1 => ret ⟨[.int .i64 v1], []⟩)).trans ((laws_heldPointS_u2.eq_1 (n + 1) [.int k_1, .int i, .rows .pt a1] brk ret).trans (laws_heldPointS_l2_rn laws_heldPointS_l2 (n + 1) k_1 i a1 brk ret)).symm)
def laws_heldPointS_body {α : Type}  (G2 : Nat → Int → Int → (List (Int × Int)) → (Int → Int → (List (Int × Int)) → Option α) → (Int → Option α) → Option α) (k : Nat) (a : List (Int × Int)) (k_ : Int) (r0 : Int → Option α) : Option α :=
  G2 k k_ 0 a
    (fun k_2 i1 a2 =>
      r0 k_2)
    r0
theorem laws_heldPointS_gen {α : Type}  (G2 : Nat → Int → Int → (List (Int × Int)) → (Int → Int → (List (Int × Int)) → Option α) → (Int → Option α) → Option α) (n : Nat) (a : List (Int × Int)) (k_ : Int) (κ : Res → Option α) : evFn Try.prog (laws_heldPointS_XG G2 n) Try.f48 (((buildDs laws_heldPointS_sh [.rows .pt a, .int k_]).map Prod.fst).getD []) κ = laws_heldPointS_body G2 n a k_ (fun v1 => κ ⟨[.int .i64 v1], []⟩) := by kernel_rfl
theorem laws_heldPointS_eq {α : Type} (n : Nat) (a : List (Int × Int)) (k_ : Int) (r0 : Int → Option α) : laws_heldPointS_body laws_heldPointS_l2 n a k_ r0 = laws_heldPointS n a k_ r0 := (laws_heldPointS_body.eq_1 laws_heldPointS_l2 n a k_ r0).trans (laws_heldPointS.eq_1 n a k_ r0).symm
theorem laws_heldPointS_rn {α : Type} (F : Nat → (List (Int × Int)) → Int → (Int → Option α) → Option α) (n : Nat) (a : List (Int × Int)) (k_ : Int) (κ : Res → Option α) : laws_heldPointS_runG F n [.rows .pt a, .int k_] κ = F n a k_ (fun v1 => κ ⟨[.int .i64 v1], []⟩) := rfl
theorem laws_heldPointS_ev {α : Type} (n : Nat) (a : List (Int × Int)) (k_ : Int) (κ : Res → Option α) : evFn Try.prog (laws_heldPointS_X n) Try.f48 (((buildDs laws_heldPointS_sh [.rows .pt a, .int k_]).map Prod.fst).getD []) κ = laws_heldPointS_run n [.rows .pt a, .int k_] κ := (laws_heldPointS_gen laws_heldPointS_l2 n a k_ κ).trans ((laws_heldPointS_eq n a k_ (fun v1 => κ ⟨[.int .i64 v1], []⟩)).trans ((laws_heldPointS_run.eq_1 n [.rows .pt a, .int k_] κ).trans (laws_heldPointS_rn laws_heldPointS n a k_ κ)).symm)
theorem laws_heldPointS_en (a : List (Int × Int)) (k_ : Int) : (entry 0 (((buildDs laws_heldPointS_sh [.rows .pt a, .int k_]).map Prod.fst).getD [])).map (fun x => (x.1.length, x.2.lent)) = some (2, []) := by kernel_rfl
theorem laws_heldPointS_good {α : Type} : ∀ n, GoodFn (α := α) Try.prog 48 (byShape laws_heldPointS_sh (laws_heldPointS_run n)) := by
  refine fn_good' Try.func48 (c := (Try.f48.body.getD .skip)) (by kernel_rfl) (by kernel_rfl) (by kernel_rfl) laws_heldPointS_C laws_heldPointS_M eqs laws_heldPointS_lps (fun n => tabC_good (fun _ h => absurd h List.not_mem_nil)) eqs_ok laws_heldPointS_Lt ?_ ?_ laws_heldPointS_sh laws_heldPointS_run ?_
  · refine List.forall_mem_cons.2 ⟨?_, (fun _ h => absurd h List.not_mem_nil)⟩
    · intro p brk ret; show laws_heldPointS_u2 0 p brk ret = none; unfold laws_heldPointS_u2 laws_heldPointS_uG2; split <;> rfl
  · refine List.forall_mem_cons.2 ⟨?_, (fun _ h => absurd h List.not_mem_nil)⟩
    · intro np lent hL n p brk ret st r hb hr
      obtain ⟨rfl, rfl⟩ := hL
      rw [← tpl_of hb]
      change laws_heldPointS_u2 (n + 1) p brk ret = some r at hr
      have hr0 := hr
      unfold laws_heldPointS_u2 laws_heldPointS_uG2 at hr
      split at hr
      · exact (laws_heldPointS_l2_ev n _ _ _ brk ret).trans hr0
      · cases hr
  · intro n p κ r ds hd hr
    have hr0 := hr
    unfold laws_heldPointS_run laws_heldPointS_runG at hr
    split at hr
    · rw [← ds_of hd]
      exact ⟨en_of (laws_heldPointS_en _ _) ⟨rfl, rfl⟩, (laws_heldPointS_ev n _ _ κ).trans hr0⟩
    · cases hr

/-! loop.example/g01297/laws.eqPointS -/
def laws_eqPointS_0N_sh : List SkD := [.nilsl, .sl 26 .pt]
def laws_eqPointS_0N_runG {α : Type} (F : Nat → (List (Int × Int)) → (Bool → Option α) → Option α) (n : Nat) (p : List P1) (κ : Res → Option α) : Option α := match p with
  | [.rows .pt b_] => F n b_ (fun v1 => κ ⟨[.bool v1], []⟩)
  | _ => none
def laws_eqPointS_0N_run {α : Type} (n : Nat) (p : List P1) (κ : Res → Option α) : Option α := laws_eqPointS_0N_runG laws_eqPointS_0N n p κ
def laws_eqPointS_0N_CG {α : Type}  (n : Nat) : FuncId → List D → (Res → Option α) → Option α := tabC []
def laws_eqPointS_0N_C {α : Type} (n : Nat) : FuncId → List D → (Res → Option α) → Option α := laws_eqPointS_0N_CG n
def laws_eqPointS_0N_M : FuncId → List Nat := tabM []
def laws_eqPointS_0N_lpsG {α : Type}  : List (LoopT α) := []
def laws_eqPointS_0N_lps {α : Type} : List (LoopT α) := laws_eqPointS_0N_lpsG
def laws_eqPointS_0N_XG {α : Type}   (n : Nat) : Ctx α := ⟨laws_eqPointS_0N_CG n, laws_eqPointS_0N_M, eqs, lpOf (laws_eqPointS_0N_lpsG) n⟩
def laws_eqPointS_0N_X {α : Type} (n : Nat) : Ctx α := laws_eqPointS_0N_XG n
def laws_eqPointS_0N_Lt (np : Nat) (lent : List (Bool × Nat × Blk)) : Prop := np = 2 ∧ lent = []
def laws_eqPointS_0N_body {α : Type}   (k : Nat) (b_ : List (Int × Int)) (r0 : Bool → Option α) : Option α :=
  bif (!decide (0 = (((List.length b_) : Nat) : Int))) then
    r0 false
  else
    r0 true
theorem laws_eqPointS_0N_gen {α : Type}   (n : Nat) (b_ : List (Int × Int)) (κ : Res → Option α) : evFn Try.prog (laws_eqPointS_0N_XG n) Try.f46 (((buildDs laws_eqPointS_0N_sh [.rows .pt b_]).map Prod.fst).getD []) κ = laws_eqPointS_0N_body n b_ (fun v1 => κ ⟨[.bool v1], []⟩) := by kernel_rfl
theorem laws_eqPointS_0N_eq {α : Type} (n : Nat) (b_ : List (Int × Int)) (r0 : Bool → Option α) : laws_eqPointS_0N_body n b_ r0 = laws_eqPointS_0N n b_ r0 := (laws_eqPointS_0N_body.eq_1 n b_ r0).trans (laws_eqPointS_0N.eq_1 n b_ r0).symm
theorem laws_eqPointS_0N_rn {α : Type} (F : Nat → (List (Int × Int)) → (Bool → Option α) → Option α) (n : Nat) (b_ : List (Int × Int)) (κ : Res → Option α) : laws_eqPointS_0N_runG F n [.rows .pt b_] κ = F n b_ (fun v1 => κ ⟨[.bool v1], []⟩) := rfl
theorem laws_eqPointS_0N_ev {α : Type} (n : Nat) (b_ : List (Int × Int)) (κ : Res → Option α) : evFn Try.prog (laws_eqPointS_0N_X n) Try.f46 (((buildDs laws_eqPointS_0N_sh [.rows .pt b_]).map Prod.fst).getD []) κ = laws_eqPointS_0N_run n [.rows .pt b_] κ := (laws_eqPointS_0N_gen n b_ κ).trans ((laws_eqPointS_0N_eq n b_ (fun v1 => κ ⟨[.bool v1], []⟩)).trans ((laws_eqPointS_0N_run.eq_1 n [.rows .pt b_] κ).trans (laws_eqPointS_0N_rn laws_eqPointS_0N n b_ κ)).symm)
theorem laws_eqPointS_0N_en (b_ : List (Int × Int)) : (entry 0 (((buildDs laws_eqPointS_0N_sh [.rows .pt b_]).map Prod.fst).getD [])).map (fun x => (x.1.length, x.2.lent)) = some (2, []) := by kernel_rfl
theorem laws_eqPointS_0N_good {α : Type} : ∀ n, GoodFn (α := α) Try.prog 46 (byShape laws_eqPointS_0N_sh (laws_eqPointS_0N_run n)) := by
  refine fn_good' Try.func46 (c := (Try.f46.body.getD .skip)) (by kernel_rfl) (by kernel_rfl) (by kernel_rfl) laws_eqPointS_0N_C laws_eqPointS_0N_M eqs laws_eqPointS_0N_lps (fun n => tabC_good (fun _ h => absurd h List.not_mem_nil)) eqs_ok laws_eqPointS_0N_Lt ?_ ?_ laws_eqPointS_0N_sh laws_eqPointS_0N_run ?_
  · exact (fun _ h => absurd h List.not_mem_nil)
  · exact (fun _ h => absurd h List.not_mem_nil)
  · intro n p κ r ds hd hr
    have hr0 := hr
    unfold laws_eqPointS_0N_run laws_eqPointS_0N_runG at hr
    split at hr
    · rw [← ds_of hd]
      exact ⟨en_of (laws_eqPointS_0N_en _) ⟨rfl, rfl⟩, (laws_eqPointS_0N_ev n _ κ).trans hr0⟩
    · cases hr

end Go.Proofs.Ytjekmhinmcniaaa
