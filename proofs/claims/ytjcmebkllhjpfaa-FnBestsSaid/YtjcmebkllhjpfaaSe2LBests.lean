/- The program's functions hold to their readings without memory: printed by a program of ours. -/
import Derived.Test.YtjcmebkllhjpfaaSe1LBests
namespace Go.Proofs.Ytjcmebkllhjpfaa
open Go Go.Ev Go.Sh Go.Proofs

/-! loop.example/g01297/impl.records -/
def impl_records_3F_impl_bestOfFirst_1_sh : List SkD := [.int .i64, .int .i64, .int .i64, .fn 44 []]
def impl_records_3F_impl_bestOfFirst_1_runG {α : Type} (F : T12 α) (n : Nat) (p : List P1) (κ : Res → Option α) : Option α := match p with
  | [.int p_, .int q_, .int n_] => F n p_ q_ n_ (fun v1 => κ ⟨[.sl 31 .pt v1], []⟩)
  | _ => none
def impl_records_3F_impl_bestOfFirst_1_run {α : Type} (n : Nat) (p : List P1) (κ : Res → Option α) : Option α := impl_records_3F_impl_bestOfFirst_1_runG impl_records_3F_impl_bestOfFirst_1 n p κ
def impl_records_3F_impl_bestOfFirst_1_CG {α : Type} (F0 : T10 α) (F1 : T11 α) (F2 : T11 α) (n : Nat) : FuncId → List D → (Res → Option α) → Option α := tabC [(40, (byShape impl_floor_sh (impl_floor_runG F0 n))), (41, (byShape impl_size_sh (impl_size_runG F1 n))), (44, (byShape impl_bestOfFirst_1_sh (impl_bestOfFirst_1_runG F2 n)))]
def impl_records_3F_impl_bestOfFirst_1_C {α : Type} (n : Nat) : FuncId → List D → (Res → Option α) → Option α := impl_records_3F_impl_bestOfFirst_1_CG impl_floor impl_size impl_bestOfFirst_1 n
def impl_records_3F_impl_bestOfFirst_1_M : FuncId → List Nat := tabM []
def impl_records_3F_impl_bestOfFirst_1_t3 : Tpl := ⟨[.int .i64, .int .i64, .int .i64, .fn 44 [], .any, .any, .any, .any, .any, .sl 1024, .int .i64, .int .i64, .int .i64, .any, .any, .any, .any, .any, .any, .any, .any, .any, .any, .any, .any, .any, .any, .any, .any, .any, .any, .any, .any, .any, .any, .any, .any, .any, .any, .any, .any, .any, .any, .any, .any, .any, .any, .any, .any, .any, .any, .any, .any, .any, .any, .any, .any, .any, .any, .any, .any, .any, .any, .any, .any, .any, .any, .any, .any, .any, .any, .any], [(1024, .rows 2 31 .pt)], []⟩
def impl_records_3F_impl_bestOfFirst_1_uG3 {α : Type} (G : Nat → Int → Int → Int → Int → Int → Int → (List (Int × Int)) → (Int → Int → Int → Int → Int → Int → (List (Int × Int)) → Option α) → ((List (Int × Int)) → Option α) → Option α) (n : Nat) (p : List P1) (brk : Nat → List P1 → Option α) (ret : Res → Option α) : Option α := match p with
  | [.int p_1, .int q_1, .int n_1, .int best, .int bestBy, .int k_, .rows .pt out] => G n p_1 q_1 n_1 best bestBy k_ out (fun p_1 q_1 n_1 best bestBy k_ out => brk 0 [.int p_1, .int q_1, .int n_1, .int best, .int bestBy, .int k_, .rows .pt out]) (fun v1 => ret ⟨[.sl 31 .pt v1], []⟩)
  | _ => none
def impl_records_3F_impl_bestOfFirst_1_u3 {α : Type} (n : Nat) (p : List P1) (brk : Nat → List P1 → Option α) (ret : Res → Option α) : Option α := impl_records_3F_impl_bestOfFirst_1_uG3 impl_records_3F_impl_bestOfFirst_1_l3 n p brk ret
def impl_records_3F_impl_bestOfFirst_1_lpsG {α : Type} (G3 : Nat → Int → Int → Int → Int → Int → Int → (List (Int × Int)) → (Int → Int → Int → Int → Int → Int → (List (Int × Int)) → Option α) → ((List (Int × Int)) → Option α) → Option α) : List (LoopT α) := [⟨3, impl_records_3F_impl_bestOfFirst_1_t3, impl_records_3F_impl_bestOfFirst_1_uG3 G3⟩]
def impl_records_3F_impl_bestOfFirst_1_lps {α : Type} : List (LoopT α) := impl_records_3F_impl_bestOfFirst_1_lpsG impl_records_3F_impl_bestOfFirst_1_l3
def impl_records_3F_impl_bestOfFirst_1_jt : Nat → Option Tpl := jtOf []
def impl_records_3F_impl_bestOfFirst_1_XG {α : Type} (F0 : T10 α) (F1 : T11 α) (F2 : T11 α) (G3 : Nat → Int → Int → Int → Int → Int → Int → (List (Int × Int)) → (Int → Int → Int → Int → Int → Int → (List (Int × Int)) → Option α) → ((List (Int × Int)) → Option α) → Option α) (n : Nat) : Ctx α := ⟨impl_records_3F_impl_bestOfFirst_1_CG F0 F1 F2 n, impl_records_3F_impl_bestOfFirst_1_M, eqs, lpOf (impl_records_3F_impl_bestOfFirst_1_lpsG G3) n, impl_records_3F_impl_bestOfFirst_1_jt⟩
def impl_records_3F_impl_bestOfFirst_1_X {α : Type} (n : Nat) : Ctx α := impl_records_3F_impl_bestOfFirst_1_XG impl_floor impl_size impl_bestOfFirst_1 impl_records_3F_impl_bestOfFirst_1_l3 n
def impl_records_3F_impl_bestOfFirst_1_Lt (np : Nat) (lent : List (Bool × Nat × Blk)) : Prop := np = 4 ∧ lent = []
def impl_records_3F_impl_bestOfFirst_1_lb3 {α : Type} (F0 : T10 α) (F1 : T11 α) (F2 : T11 α) (G3 : Nat → Int → Int → Int → Int → Int → Int → (List (Int × Int)) → (Int → Int → Int → Int → Int → Int → (List (Int × Int)) → Option α) → ((List (Int × Int)) → Option α) → Option α) (k : Nat) (p_1 : Int) (q_1 : Int) (n_1 : Int) (best : Int) (bestBy : Int) (k_ : Int) (out : List (Int × Int)) (b0 : Int → Int → Int → Int → Int → Int → (List (Int × Int)) → Option α) (r0 : (List (Int × Int)) → Option α) : Option α :=
  bif decide (k_ ≤ n_1) then
    F0 k (w64 (k_ * p_1)) q_1 fun v =>
    bif decide (q_1 < (w64 (2 * (w64 ((w64 (k_ * p_1)) - (w64 (v * q_1))))))) then
      F1 k (w64 ((w64 (k_ * p_1)) - (w64 ((w64 (v + 1)) * q_1)))) fun v1 =>
      bif decide (bestBy = 0) then
        bif decide (((List.length out) + 1) ≤ big) then
          F2 k k_ fun v2 =>
          G3 k p_1 q_1 n_1 v1 v2 (w64 (k_ + 1)) (out ++ [((w64 (v + 1)), k_)]) b0 r0
        else
          none
      else
        F2 k k_ fun v3 =>
        bif decide ((w64 (v1 * bestBy)) < (w64 (best * v3))) then
          bif decide (((List.length out) + 1) ≤ big) then
            F2 k k_ fun v4 =>
            G3 k p_1 q_1 n_1 v1 v4 (w64 (k_ + 1)) (out ++ [((w64 (v + 1)), k_)]) b0 r0
          else
            none
        else
          G3 k p_1 q_1 n_1 best bestBy (w64 (k_ + 1)) out b0 r0
    else
      F1 k (w64 ((w64 (k_ * p_1)) - (w64 (v * q_1)))) fun v5 =>
      bif decide (bestBy = 0) then
        bif decide (((List.length out) + 1) ≤ big) then
          F2 k k_ fun v6 =>
          G3 k p_1 q_1 n_1 v5 v6 (w64 (k_ + 1)) (out ++ [(v, k_)]) b0 r0
        else
          none
      else
        F2 k k_ fun v7 =>
        bif decide ((w64 (v5 * bestBy)) < (w64 (best * v7))) then
          bif decide (((List.length out) + 1) ≤ big) then
            F2 k k_ fun v8 =>
            G3 k p_1 q_1 n_1 v5 v8 (w64 (k_ + 1)) (out ++ [(v, k_)]) b0 r0
          else
            none
        else
          G3 k p_1 q_1 n_1 best bestBy (w64 (k_ + 1)) out b0 r0
  else
    b0 p_1 q_1 n_1 best bestBy k_ out
theorem impl_records_3F_impl_bestOfFirst_1_l3_gen {α : Type} (F0 : T10 α) (F1 : T11 α) (F2 : T11 α) (G3 : Nat → Int → Int → Int → Int → Int → Int → (List (Int × Int)) → (Int → Int → Int → Int → Int → Int → (List (Int × Int)) → Option α) → ((List (Int × Int)) → Option α) → Option α) (n : Nat) (p_1 : Int) (q_1 : Int) (n_1 : Int) (best : Int) (bestBy : Int) (k_ : Int) (out : List (Int × Int)) (brk : Nat → List P1 → Option α) (ret : Res → Option α) : ev ((impl_records_3F_impl_bestOfFirst_1_XG F0 F1 F2 G3 n).env Try.prog Try.f23 4 []) (findLoop (loopsIn (Try.f23.body.getD .skip)) 3) ((impl_records_3F_impl_bestOfFirst_1_t3.build [.int p_1, .int q_1, .int n_1, .int best, .int bestBy, .int k_, .rows .pt out]).getD ⟨[], []⟩) (roundK (4 * 64) impl_records_3F_impl_bestOfFirst_1_t3 (fun q => impl_records_3F_impl_bestOfFirst_1_uG3 G3 n q brk ret) brk ret) = impl_records_3F_impl_bestOfFirst_1_lb3 F0 F1 F2 G3 n p_1 q_1 n_1 best bestBy k_ out (fun p_1 q_1 n_1 best bestBy k_ out => brk 0 [.int p_1, .int q_1, .int n_1, .int best, .int bestBy, .int k_, .rows .pt out]) (fun v1 => ret ⟨[.sl 31 .pt v1], []⟩) := by kernel_rfl
theorem impl_records_3F_impl_bestOfFirst_1_l3_eq {α : Type} (k : Nat) (p_1 : Int) (q_1 : Int) (n_1 : Int) (best : Int) (bestBy : Int) (k_ : Int) (out : List (Int × Int)) (b0 : Int → Int → Int → Int → Int → Int → (List (Int × Int)) → Option α) (r0 : (List (Int × Int)) → Option α) : impl_records_3F_impl_bestOfFirst_1_lb3 impl_floor impl_size impl_bestOfFirst_1 impl_records_3F_impl_bestOfFirst_1_l3 k p_1 q_1 n_1 best bestBy k_ out b0 r0 = impl_records_3F_impl_bestOfFirst_1_l3 (k + 1) p_1 q_1 n_1 best bestBy k_ out b0 r0 := (impl_records_3F_impl_bestOfFirst_1_lb3.eq_1 impl_floor impl_size impl_bestOfFirst_1 impl_records_3F_impl_bestOfFirst_1_l3 k p_1 q_1 n_1 best bestBy k_ out b0 r0).trans (show impl_records_3F_impl_bestOfFirst_1_l3 (k + 1) p_1 q_1 n_1 best bestBy k_ out b0 r0 = _ from impl_records_3F_impl_bestOfFirst_1_l3.eq_2 _ _ _ _ _ _ _ _ _ _ ).symm
theorem impl_records_3F_impl_bestOfFirst_1_l3_rn {α : Type} (G : Nat → Int → Int → Int → Int → Int → Int → (List (Int × Int)) → (Int → Int → Int → Int → Int → Int → (List (Int × Int)) → Option α) → ((List (Int × Int)) → Option α) → Option α) (n : Nat) (p_1 : Int) (q_1 : Int) (n_1 : Int) (best : Int) (bestBy : Int) (k_ : Int) (out : List (Int × Int)) (brk : Nat → List P1 → Option α) (ret : Res → Option α) : impl_records_3F_impl_bestOfFirst_1_uG3 G n [.int p_1, .int q_1, .int n_1, .int best, .int bestBy, .int k_, .rows .pt out] brk ret = G n p_1 q_1 n_1 best bestBy k_ out (fun p_1 q_1 n_1 best bestBy k_ out => brk 0 [.int p_1, .int q_1, .int n_1, .int best, .int bestBy, .int k_, .rows .pt out]) (fun v1 => ret ⟨[.sl 31 .pt v1], []⟩) := rfl
theorem impl_records_3F_impl_bestOfFirst_1_l3_ev {α : Type} (n : Nat) (p_1 : Int) (q_1 : Int) (n_1 : Int) (best : Int) (bestBy : Int) (k_ : Int) (out : List (Int × Int)) (brk : Nat → List P1 → Option α) (ret : Res → Option α) : ev ((impl_records_3F_impl_bestOfFirst_1_X n).env Try.prog Try.f23 4 []) (findLoop (loopsIn (Try.f23.body.getD .skip)) 3) ((impl_records_3F_impl_bestOfFirst_1_t3.build [.int p_1, .int q_1, .int n_1, .int best, .int bestBy, .int k_, .rows .pt out]).getD ⟨[], []⟩) (roundK (4 * 64) impl_records_3F_impl_bestOfFirst_1_t3 (fun q => impl_records_3F_impl_bestOfFirst_1_u3 n q brk ret) brk ret) = impl_records_3F_impl_bestOfFirst_1_u3 (n + 1) [.int p_1, .int q_1, .int n_1, .int best, .int bestBy, .int k_, .rows .pt out] brk ret := (impl_records_3F_impl_bestOfFirst_1_l3_gen impl_floor impl_size impl_bestOfFirst_1 impl_records_3F_impl_bestOfFirst_1_l3 n p_1 q_1 n_1 best bestBy k_ out brk ret).trans ((impl_records_3F_impl_bestOfFirst_1_l3_eq n p_1 q_1 n_1 best bestBy k_ out (fun p_1 q_1 n_1 best bestBy k_ out => brk 0 [.int p_1, .int q_1, .int n_1, .int best, .int bestBy, .int k_, .rows .pt out]) (fun v1 => ret ⟨[.sl 31 .pt v1], []⟩)).trans ((impl_records_3F_impl_bestOfFirst_1_u3.eq_1 (n + 1) [.int p_1, .int q_1, .int n_1, .int best, .int bestBy, .int k_, .rows .pt out] brk ret).trans (impl_records_3F_impl_bestOfFirst_1_l3_rn impl_records_3F_impl_bestOfFirst_1_l3 (n + 1) p_1 q_1 n_1 best bestBy k_ out brk ret)).symm)
def impl_records_3F_impl_bestOfFirst_1_body {α : Type} (F0 : T10 α) (F1 : T11 α) (F2 : T11 α) (G3 : Nat → Int → Int → Int → Int → Int → Int → (List (Int × Int)) → (Int → Int → Int → Int → Int → Int → (List (Int × Int)) → Option α) → ((List (Int × Int)) → Option α) → Option α) (k : Nat) (p_ : Int) (q_ : Int) (n_ : Int) (r0 : (List (Int × Int)) → Option α) : Option α :=
  G3 k p_ q_ n_ 0 0 1 []
    (fun _ _ _ _ _ _ out1 =>
      r0 out1)
    r0
theorem impl_records_3F_impl_bestOfFirst_1_gen {α : Type} (F0 : T10 α) (F1 : T11 α) (F2 : T11 α) (G3 : Nat → Int → Int → Int → Int → Int → Int → (List (Int × Int)) → (Int → Int → Int → Int → Int → Int → (List (Int × Int)) → Option α) → ((List (Int × Int)) → Option α) → Option α) (n : Nat) (p_ : Int) (q_ : Int) (n_ : Int) (κ : Res → Option α) : evFn Try.prog (impl_records_3F_impl_bestOfFirst_1_XG F0 F1 F2 G3 n) Try.f23 (((buildDs impl_records_3F_impl_bestOfFirst_1_sh [.int p_, .int q_, .int n_]).map Prod.fst).getD []) κ = impl_records_3F_impl_bestOfFirst_1_body F0 F1 F2 G3 n p_ q_ n_ (fun v1 => κ ⟨[.sl 31 .pt v1], []⟩) := by kernel_rfl
theorem impl_records_3F_impl_bestOfFirst_1_eq {α : Type} (n : Nat) (p_ : Int) (q_ : Int) (n_ : Int) (r0 : (List (Int × Int)) → Option α) : impl_records_3F_impl_bestOfFirst_1_body impl_floor impl_size impl_bestOfFirst_1 impl_records_3F_impl_bestOfFirst_1_l3 n p_ q_ n_ r0 = impl_records_3F_impl_bestOfFirst_1 n p_ q_ n_ r0 := (impl_records_3F_impl_bestOfFirst_1_body.eq_1 impl_floor impl_size impl_bestOfFirst_1 impl_records_3F_impl_bestOfFirst_1_l3 n p_ q_ n_ r0).trans (impl_records_3F_impl_bestOfFirst_1.eq_1 n p_ q_ n_ r0).symm
theorem impl_records_3F_impl_bestOfFirst_1_rn {α : Type} (F : T12 α) (n : Nat) (p_ : Int) (q_ : Int) (n_ : Int) (κ : Res → Option α) : impl_records_3F_impl_bestOfFirst_1_runG F n [.int p_, .int q_, .int n_] κ = F n p_ q_ n_ (fun v1 => κ ⟨[.sl 31 .pt v1], []⟩) := rfl
theorem impl_records_3F_impl_bestOfFirst_1_ev {α : Type} (n : Nat) (p_ : Int) (q_ : Int) (n_ : Int) (κ : Res → Option α) : evFn Try.prog (impl_records_3F_impl_bestOfFirst_1_X n) Try.f23 (((buildDs impl_records_3F_impl_bestOfFirst_1_sh [.int p_, .int q_, .int n_]).map Prod.fst).getD []) κ = impl_records_3F_impl_bestOfFirst_1_run n [.int p_, .int q_, .int n_] κ := (impl_records_3F_impl_bestOfFirst_1_gen impl_floor impl_size impl_bestOfFirst_1 impl_records_3F_impl_bestOfFirst_1_l3 n p_ q_ n_ κ).trans ((impl_records_3F_impl_bestOfFirst_1_eq n p_ q_ n_ (fun v1 => κ ⟨[.sl 31 .pt v1], []⟩)).trans ((impl_records_3F_impl_bestOfFirst_1_run.eq_1 n [.int p_, .int q_, .int n_] κ).trans (impl_records_3F_impl_bestOfFirst_1_rn impl_records_3F_impl_bestOfFirst_1 n p_ q_ n_ κ)).symm)
theorem impl_records_3F_impl_bestOfFirst_1_en (p_ : Int) (q_ : Int) (n_ : Int) : (entry 0 (((buildDs impl_records_3F_impl_bestOfFirst_1_sh [.int p_, .int q_, .int n_]).map Prod.fst).getD [])).map (fun x => (x.1.length, x.2.lent)) = some (4, []) := by kernel_rfl
theorem impl_records_3F_impl_bestOfFirst_1_good {α : Type} : ∀ n, GoodFn (α := α) Try.prog 23 (byShape impl_records_3F_impl_bestOfFirst_1_sh (impl_records_3F_impl_bestOfFirst_1_run n)) := by
  refine fn_good' Try.func23 (c := (Try.f23.body.getD .skip)) (by kernel_rfl) (by kernel_rfl) (by kernel_rfl) impl_records_3F_impl_bestOfFirst_1_C impl_records_3F_impl_bestOfFirst_1_M eqs impl_records_3F_impl_bestOfFirst_1_lps impl_records_3F_impl_bestOfFirst_1_jt (fun n => tabC_good (List.forall_mem_cons.2 ⟨(impl_floor_good n), (List.forall_mem_cons.2 ⟨(impl_size_good n), (List.forall_mem_cons.2 ⟨(impl_bestOfFirst_1_good n), (fun _ h => absurd h List.not_mem_nil)⟩)⟩)⟩)) eqs_ok impl_records_3F_impl_bestOfFirst_1_Lt ?_ ?_ impl_records_3F_impl_bestOfFirst_1_sh impl_records_3F_impl_bestOfFirst_1_run ?_
  · refine List.forall_mem_cons.2 ⟨?_, (fun _ h => absurd h List.not_mem_nil)⟩
    · intro p brk ret; show impl_records_3F_impl_bestOfFirst_1_u3 0 p brk ret = none; unfold impl_records_3F_impl_bestOfFirst_1_u3 impl_records_3F_impl_bestOfFirst_1_uG3; split <;> rfl
  · refine List.forall_mem_cons.2 ⟨?_, (fun _ h => absurd h List.not_mem_nil)⟩
    · intro np lent hL n p brk ret st r hb hr
      obtain ⟨rfl, rfl⟩ := hL
      rw [← tpl_of hb]
      change impl_records_3F_impl_bestOfFirst_1_u3 (n + 1) p brk ret = some r at hr
      have hr0 := hr
      unfold impl_records_3F_impl_bestOfFirst_1_u3 impl_records_3F_impl_bestOfFirst_1_uG3 at hr
      split at hr
      · exact (impl_records_3F_impl_bestOfFirst_1_l3_ev n _ _ _ _ _ _ _ brk ret).trans hr0
      · cases hr
  · intro n p κ r ds hd hr
    have hr0 := hr
    unfold impl_records_3F_impl_bestOfFirst_1_run impl_records_3F_impl_bestOfFirst_1_runG at hr
    split at hr
    · rw [← ds_of hd]
      exact ⟨en_of (impl_records_3F_impl_bestOfFirst_1_en _ _ _) ⟨rfl, rfl⟩, (impl_records_3F_impl_bestOfFirst_1_ev n _ _ _ κ).trans hr0⟩
    · cases hr

/-! loop.example/g01297/impl.bestOfFirst -/
def impl_bestOfFirst_sh : List SkD := [.int .i64, .int .i64, .int .i64]
def impl_bestOfFirst_runG {α : Type} (F : T12 α) (n : Nat) (p : List P1) (κ : Res → Option α) : Option α := match p with
  | [.int p_, .int q_, .int n_] => F n p_ q_ n_ (fun v1 => κ ⟨[.sl 31 .pt v1], []⟩)
  | _ => none
def impl_bestOfFirst_run {α : Type} (n : Nat) (p : List P1) (κ : Res → Option α) : Option α := impl_bestOfFirst_runG impl_bestOfFirst n p κ
def impl_bestOfFirst_CG {α : Type} (F0 : T12 α) (n : Nat) : FuncId → List D → (Res → Option α) → Option α := tabC [(23, (byShape impl_records_3F_impl_bestOfFirst_1_sh (impl_records_3F_impl_bestOfFirst_1_runG F0 n)))]
def impl_bestOfFirst_C {α : Type} (n : Nat) : FuncId → List D → (Res → Option α) → Option α := impl_bestOfFirst_CG impl_records_3F_impl_bestOfFirst_1 n
def impl_bestOfFirst_M : FuncId → List Nat := tabM []
def impl_bestOfFirst_lpsG {α : Type}  : List (LoopT α) := []
def impl_bestOfFirst_lps {α : Type} : List (LoopT α) := impl_bestOfFirst_lpsG
def impl_bestOfFirst_jt : Nat → Option Tpl := jtOf []
def impl_bestOfFirst_XG {α : Type} (F0 : T12 α)  (n : Nat) : Ctx α := ⟨impl_bestOfFirst_CG F0 n, impl_bestOfFirst_M, eqs, lpOf (impl_bestOfFirst_lpsG) n, impl_bestOfFirst_jt⟩
def impl_bestOfFirst_X {α : Type} (n : Nat) : Ctx α := impl_bestOfFirst_XG impl_records_3F_impl_bestOfFirst_1 n
def impl_bestOfFirst_Lt (np : Nat) (lent : List (Bool × Nat × Blk)) : Prop := np = 3 ∧ lent = []
def impl_bestOfFirst_body {α : Type} (F0 : T12 α)  (k : Nat) (p_ : Int) (q_ : Int) (n_ : Int) (r0 : (List (Int × Int)) → Option α) : Option α :=
  F0 k p_ q_ n_ fun v =>
  r0 v
theorem impl_bestOfFirst_gen {α : Type} (F0 : T12 α)  (n : Nat) (p_ : Int) (q_ : Int) (n_ : Int) (κ : Res → Option α) : evFn Try.prog (impl_bestOfFirst_XG F0 n) Try.f28 (((buildDs impl_bestOfFirst_sh [.int p_, .int q_, .int n_]).map Prod.fst).getD []) κ = impl_bestOfFirst_body F0 n p_ q_ n_ (fun v1 => κ ⟨[.sl 31 .pt v1], []⟩) := by kernel_rfl
theorem impl_bestOfFirst_eq {α : Type} (n : Nat) (p_ : Int) (q_ : Int) (n_ : Int) (r0 : (List (Int × Int)) → Option α) : impl_bestOfFirst_body impl_records_3F_impl_bestOfFirst_1 n p_ q_ n_ r0 = impl_bestOfFirst n p_ q_ n_ r0 := (impl_bestOfFirst_body.eq_1 impl_records_3F_impl_bestOfFirst_1 n p_ q_ n_ r0).trans (impl_bestOfFirst.eq_1 n p_ q_ n_ r0).symm
theorem impl_bestOfFirst_rn {α : Type} (F : T12 α) (n : Nat) (p_ : Int) (q_ : Int) (n_ : Int) (κ : Res → Option α) : impl_bestOfFirst_runG F n [.int p_, .int q_, .int n_] κ = F n p_ q_ n_ (fun v1 => κ ⟨[.sl 31 .pt v1], []⟩) := rfl
theorem impl_bestOfFirst_ev {α : Type} (n : Nat) (p_ : Int) (q_ : Int) (n_ : Int) (κ : Res → Option α) : evFn Try.prog (impl_bestOfFirst_X n) Try.f28 (((buildDs impl_bestOfFirst_sh [.int p_, .int q_, .int n_]).map Prod.fst).getD []) κ = impl_bestOfFirst_run n [.int p_, .int q_, .int n_] κ := (impl_bestOfFirst_gen impl_records_3F_impl_bestOfFirst_1 n p_ q_ n_ κ).trans ((impl_bestOfFirst_eq n p_ q_ n_ (fun v1 => κ ⟨[.sl 31 .pt v1], []⟩)).trans ((impl_bestOfFirst_run.eq_1 n [.int p_, .int q_, .int n_] κ).trans (impl_bestOfFirst_rn impl_bestOfFirst n p_ q_ n_ κ)).symm)
theorem impl_bestOfFirst_en (p_ : Int) (q_ : Int) (n_ : Int) : (entry 0 (((buildDs impl_bestOfFirst_sh [.int p_, .int q_, .int n_]).map Prod.fst).getD [])).map (fun x => (x.1.length, x.2.lent)) = some (3, []) := by kernel_rfl
theorem impl_bestOfFirst_good {α : Type} : ∀ n, GoodFn (α := α) Try.prog 28 (byShape impl_bestOfFirst_sh (impl_bestOfFirst_run n)) := by
  refine fn_good' Try.func28 (c := (Try.f28.body.getD .skip)) (by kernel_rfl) (by kernel_rfl) (by kernel_rfl) impl_bestOfFirst_C impl_bestOfFirst_M eqs impl_bestOfFirst_lps impl_bestOfFirst_jt (fun n => tabC_good (List.forall_mem_cons.2 ⟨(impl_records_3F_impl_bestOfFirst_1_good n), (fun _ h => absurd h List.not_mem_nil)⟩)) eqs_ok impl_bestOfFirst_Lt ?_ ?_ impl_bestOfFirst_sh impl_bestOfFirst_run ?_
  · exact (fun _ h => absurd h List.not_mem_nil)
  · exact (fun _ h => absurd h List.not_mem_nil)
  · intro n p κ r ds hd hr
    have hr0 := hr
    unfold impl_bestOfFirst_run impl_bestOfFirst_runG at hr
    split at hr
    · rw [← ds_of hd]
      exact ⟨en_of (impl_bestOfFirst_en _ _ _) ⟨rfl, rfl⟩, (impl_bestOfFirst_ev n _ _ _ κ).trans hr0⟩
    · cases hr

/-! loop.example/g01297/impl.BestOfFirst -/
def impl_BestOfFirst_sh : List SkD := [.int .i64, .int .i64, .int .i64]
def impl_BestOfFirst_runG {α : Type} (F : T13 α) (n : Nat) (p : List P1) (κ : Res → Option α) : Option α := match p with
  | [.int p_, .int q_, .int n_] => F n p_ q_ n_ (fun v1 => κ ⟨[.nilsl, .int .i64 v1], []⟩) (fun v1 v2 => κ ⟨[.sl 31 .pt v1, .int .i64 v2], []⟩)
  | _ => none
def impl_BestOfFirst_run {α : Type} (n : Nat) (p : List P1) (κ : Res → Option α) : Option α := impl_BestOfFirst_runG impl_BestOfFirst n p κ
def impl_BestOfFirst_CG {α : Type} (F0 : T7 α) (F1 : T12 α) (n : Nat) : FuncId → List D → (Res → Option α) → Option α := tabC [(22, (byShape impl_bestOk_sh (impl_bestOk_runG F0 n))), (28, (byShape impl_bestOfFirst_sh (impl_bestOfFirst_runG F1 n)))]
def impl_BestOfFirst_C {α : Type} (n : Nat) : FuncId → List D → (Res → Option α) → Option α := impl_BestOfFirst_CG impl_bestOk impl_bestOfFirst n
def impl_BestOfFirst_M : FuncId → List Nat := tabM []
def impl_BestOfFirst_lpsG {α : Type}  : List (LoopT α) := []
def impl_BestOfFirst_lps {α : Type} : List (LoopT α) := impl_BestOfFirst_lpsG
def impl_BestOfFirst_jt : Nat → Option Tpl := jtOf []
def impl_BestOfFirst_XG {α : Type} (F0 : T7 α) (F1 : T12 α)  (n : Nat) : Ctx α := ⟨impl_BestOfFirst_CG F0 F1 n, impl_BestOfFirst_M, eqs, lpOf (impl_BestOfFirst_lpsG) n, impl_BestOfFirst_jt⟩
def impl_BestOfFirst_X {α : Type} (n : Nat) : Ctx α := impl_BestOfFirst_XG impl_bestOk impl_bestOfFirst n
def impl_BestOfFirst_Lt (np : Nat) (lent : List (Bool × Nat × Blk)) : Prop := np = 3 ∧ lent = []
def impl_BestOfFirst_body {α : Type} (F0 : T7 α) (F1 : T12 α)  (k : Nat) (p_ : Int) (q_ : Int) (n_ : Int) (r0 : Int → Option α) (r1 : (List (Int × Int)) → Int → Option α) : Option α :=
  F0 k p_ q_ n_ fun v =>
  bif (!v) then
    r0 2
  else
    F1 k p_ q_ n_ fun v1 =>
    r1 v1 0
theorem impl_BestOfFirst_gen {α : Type} (F0 : T7 α) (F1 : T12 α)  (n : Nat) (p_ : Int) (q_ : Int) (n_ : Int) (κ : Res → Option α) : evFn Try.prog (impl_BestOfFirst_XG F0 F1 n) Try.f10 (((buildDs impl_BestOfFirst_sh [.int p_, .int q_, .int n_]).map Prod.fst).getD []) κ = impl_BestOfFirst_body F0 F1 n p_ q_ n_ (fun v1 => κ ⟨[.nilsl, .int .i64 v1], []⟩) (fun v1 v2 => κ ⟨[.sl 31 .pt v1, .int .i64 v2], []⟩) := by kernel_rfl
theorem impl_BestOfFirst_eq {α : Type} (n : Nat) (p_ : Int) (q_ : Int) (n_ : Int) (r0 : Int → Option α) (r1 : (List (Int × Int)) → Int → Option α) : impl_BestOfFirst_body impl_bestOk impl_bestOfFirst n p_ q_ n_ r0 r1 = impl_BestOfFirst n p_ q_ n_ r0 r1 := (impl_BestOfFirst_body.eq_1 impl_bestOk impl_bestOfFirst n p_ q_ n_ r0 r1).trans (impl_BestOfFirst.eq_1 n p_ q_ n_ r0 r1).symm
theorem impl_BestOfFirst_rn {α : Type} (F : T13 α) (n : Nat) (p_ : Int) (q_ : Int) (n_ : Int) (κ : Res → Option α) : impl_BestOfFirst_runG F n [.int p_, .int q_, .int n_] κ = F n p_ q_ n_ (fun v1 => κ ⟨[.nilsl, .int .i64 v1], []⟩) (fun v1 v2 => κ ⟨[.sl 31 .pt v1, .int .i64 v2], []⟩) := rfl
theorem impl_BestOfFirst_ev {α : Type} (n : Nat) (p_ : Int) (q_ : Int) (n_ : Int) (κ : Res → Option α) : evFn Try.prog (impl_BestOfFirst_X n) Try.f10 (((buildDs impl_BestOfFirst_sh [.int p_, .int q_, .int n_]).map Prod.fst).getD []) κ = impl_BestOfFirst_run n [.int p_, .int q_, .int n_] κ := (impl_BestOfFirst_gen impl_bestOk impl_bestOfFirst n p_ q_ n_ κ).trans ((impl_BestOfFirst_eq n p_ q_ n_ (fun v1 => κ ⟨[.nilsl, .int .i64 v1], []⟩) (fun v1 v2 => κ ⟨[.sl 31 .pt v1, .int .i64 v2], []⟩)).trans ((impl_BestOfFirst_run.eq_1 n [.int p_, .int q_, .int n_] κ).trans (impl_BestOfFirst_rn impl_BestOfFirst n p_ q_ n_ κ)).symm)
theorem impl_BestOfFirst_en (p_ : Int) (q_ : Int) (n_ : Int) : (entry 0 (((buildDs impl_BestOfFirst_sh [.int p_, .int q_, .int n_]).map Prod.fst).getD [])).map (fun x => (x.1.length, x.2.lent)) = some (3, []) := by kernel_rfl
theorem impl_BestOfFirst_good {α : Type} : ∀ n, GoodFn (α := α) Try.prog 10 (byShape impl_BestOfFirst_sh (impl_BestOfFirst_run n)) := by
  refine fn_good' Try.func10 (c := (Try.f10.body.getD .skip)) (by kernel_rfl) (by kernel_rfl) (by kernel_rfl) impl_BestOfFirst_C impl_BestOfFirst_M eqs impl_BestOfFirst_lps impl_BestOfFirst_jt (fun n => tabC_good (List.forall_mem_cons.2 ⟨(impl_bestOk_good n), (List.forall_mem_cons.2 ⟨(impl_bestOfFirst_good n), (fun _ h => absurd h List.not_mem_nil)⟩)⟩)) eqs_ok impl_BestOfFirst_Lt ?_ ?_ impl_BestOfFirst_sh impl_BestOfFirst_run ?_
  · exact (fun _ h => absurd h List.not_mem_nil)
  · exact (fun _ h => absurd h List.not_mem_nil)
  · intro n p κ r ds hd hr
    have hr0 := hr
    unfold impl_BestOfFirst_run impl_BestOfFirst_runG at hr
    split at hr
    · rw [← ds_of hd]
      exact ⟨en_of (impl_BestOfFirst_en _ _ _) ⟨rfl, rfl⟩, (impl_BestOfFirst_ev n _ _ _ κ).trans hr0⟩
    · cases hr

/-! loop.example/g01297/spec.BestOfFirst -/
def spec_BestOfFirst_sh : List SkD := [.int .i64, .int .i64, .int .i64]
def spec_BestOfFirst_runG {α : Type} (F : T13 α) (n : Nat) (p : List P1) (κ : Res → Option α) : Option α := match p with
  | [.int p_, .int q_, .int n_] => F n p_ q_ n_ (fun v1 => κ ⟨[.nilsl, .int .i64 v1], []⟩) (fun v1 v2 => κ ⟨[.sl 31 .pt v1, .int .i64 v2], []⟩)
  | _ => none
def spec_BestOfFirst_run {α : Type} (n : Nat) (p : List P1) (κ : Res → Option α) : Option α := spec_BestOfFirst_runG spec_BestOfFirst n p κ
def spec_BestOfFirst_CG {α : Type} (F0 : T7 α) (F1 : T7 α) (F2 : T15 α) (n : Nat) : FuncId → List D → (Res → Option α) → Option α := tabC [(25, (byShape spec_l10Ratio_sh (spec_l10Ratio_runG F0 n))), (26, (byShape spec_l01In_sh (spec_l01In_runG F1 n))), (27, (byShape spec_l10Best_sh (spec_l10Best_runG F2 n)))]
def spec_BestOfFirst_C {α : Type} (n : Nat) : FuncId → List D → (Res → Option α) → Option α := spec_BestOfFirst_CG spec_l10Ratio spec_l01In spec_l10Best n
def spec_BestOfFirst_M : FuncId → List Nat := tabM []
def spec_BestOfFirst_lpsG {α : Type}  : List (LoopT α) := []
def spec_BestOfFirst_lps {α : Type} : List (LoopT α) := spec_BestOfFirst_lpsG
def spec_BestOfFirst_jt : Nat → Option Tpl := jtOf []
def spec_BestOfFirst_XG {α : Type} (F0 : T7 α) (F1 : T7 α) (F2 : T15 α)  (n : Nat) : Ctx α := ⟨spec_BestOfFirst_CG F0 F1 F2 n, spec_BestOfFirst_M, eqs, lpOf (spec_BestOfFirst_lpsG) n, spec_BestOfFirst_jt⟩
def spec_BestOfFirst_X {α : Type} (n : Nat) : Ctx α := spec_BestOfFirst_XG spec_l10Ratio spec_l01In spec_l10Best n
def spec_BestOfFirst_Lt (np : Nat) (lent : List (Bool × Nat × Blk)) : Prop := np = 3 ∧ lent = []
def spec_BestOfFirst_body {α : Type} (F0 : T7 α) (F1 : T7 α) (F2 : T15 α)  (k : Nat) (p_ : Int) (q_ : Int) (n_ : Int) (r0 : Int → Option α) (r1 : (List (Int × Int)) → Int → Option α) : Option α :=
  F0 k p_ q_ 1 fun v =>
  bif (!v) then
    r0 2
  else
    F1 k n_ 1 100000 fun v1 =>
    bif (!v1) then
      r0 2
    else
      F2 k p_ q_ n_ false fun v2 =>
      r1 v2 0
theorem spec_BestOfFirst_gen {α : Type} (F0 : T7 α) (F1 : T7 α) (F2 : T15 α)  (n : Nat) (p_ : Int) (q_ : Int) (n_ : Int) (κ : Res → Option α) : evFn Try.prog (spec_BestOfFirst_XG F0 F1 F2 n) Try.f11 (((buildDs spec_BestOfFirst_sh [.int p_, .int q_, .int n_]).map Prod.fst).getD []) κ = spec_BestOfFirst_body F0 F1 F2 n p_ q_ n_ (fun v1 => κ ⟨[.nilsl, .int .i64 v1], []⟩) (fun v1 v2 => κ ⟨[.sl 31 .pt v1, .int .i64 v2], []⟩) := by kernel_rfl
theorem spec_BestOfFirst_eq {α : Type} (n : Nat) (p_ : Int) (q_ : Int) (n_ : Int) (r0 : Int → Option α) (r1 : (List (Int × Int)) → Int → Option α) : spec_BestOfFirst_body spec_l10Ratio spec_l01In spec_l10Best n p_ q_ n_ r0 r1 = spec_BestOfFirst n p_ q_ n_ r0 r1 := (spec_BestOfFirst_body.eq_1 spec_l10Ratio spec_l01In spec_l10Best n p_ q_ n_ r0 r1).trans (spec_BestOfFirst.eq_1 n p_ q_ n_ r0 r1).symm
theorem spec_BestOfFirst_rn {α : Type} (F : T13 α) (n : Nat) (p_ : Int) (q_ : Int) (n_ : Int) (κ : Res → Option α) : spec_BestOfFirst_runG F n [.int p_, .int q_, .int n_] κ = F n p_ q_ n_ (fun v1 => κ ⟨[.nilsl, .int .i64 v1], []⟩) (fun v1 v2 => κ ⟨[.sl 31 .pt v1, .int .i64 v2], []⟩) := rfl
theorem spec_BestOfFirst_ev {α : Type} (n : Nat) (p_ : Int) (q_ : Int) (n_ : Int) (κ : Res → Option α) : evFn Try.prog (spec_BestOfFirst_X n) Try.f11 (((buildDs spec_BestOfFirst_sh [.int p_, .int q_, .int n_]).map Prod.fst).getD []) κ = spec_BestOfFirst_run n [.int p_, .int q_, .int n_] κ := (spec_BestOfFirst_gen spec_l10Ratio spec_l01In spec_l10Best n p_ q_ n_ κ).trans ((spec_BestOfFirst_eq n p_ q_ n_ (fun v1 => κ ⟨[.nilsl, .int .i64 v1], []⟩) (fun v1 v2 => κ ⟨[.sl 31 .pt v1, .int .i64 v2], []⟩)).trans ((spec_BestOfFirst_run.eq_1 n [.int p_, .int q_, .int n_] κ).trans (spec_BestOfFirst_rn spec_BestOfFirst n p_ q_ n_ κ)).symm)
theorem spec_BestOfFirst_en (p_ : Int) (q_ : Int) (n_ : Int) : (entry 0 (((buildDs spec_BestOfFirst_sh [.int p_, .int q_, .int n_]).map Prod.fst).getD [])).map (fun x => (x.1.length, x.2.lent)) = some (3, []) := by kernel_rfl
theorem spec_BestOfFirst_good {α : Type} : ∀ n, GoodFn (α := α) Try.prog 11 (byShape spec_BestOfFirst_sh (spec_BestOfFirst_run n)) := by
  refine fn_good' Try.func11 (c := (Try.f11.body.getD .skip)) (by kernel_rfl) (by kernel_rfl) (by kernel_rfl) spec_BestOfFirst_C spec_BestOfFirst_M eqs spec_BestOfFirst_lps spec_BestOfFirst_jt (fun n => tabC_good (List.forall_mem_cons.2 ⟨(spec_l10Ratio_good n), (List.forall_mem_cons.2 ⟨(spec_l01In_good n), (List.forall_mem_cons.2 ⟨(spec_l10Best_good n), (fun _ h => absurd h List.not_mem_nil)⟩)⟩)⟩)) eqs_ok spec_BestOfFirst_Lt ?_ ?_ spec_BestOfFirst_sh spec_BestOfFirst_run ?_
  · exact (fun _ h => absurd h List.not_mem_nil)
  · exact (fun _ h => absurd h List.not_mem_nil)
  · intro n p κ r ds hd hr
    have hr0 := hr
    unfold spec_BestOfFirst_run spec_BestOfFirst_runG at hr
    split at hr
    · rw [← ds_of hd]
      exact ⟨en_of (spec_BestOfFirst_en _ _ _) ⟨rfl, rfl⟩, (spec_BestOfFirst_ev n _ _ _ κ).trans hr0⟩
    · cases hr

/-! loop.example/g01297/spec.DrawNearestFraction -/
def spec_DrawNearestFraction_sh : List SkD := [.sl 5 (.int .u8)]
def spec_DrawNearestFraction_runG {α : Type} (F : T6 α) (n : Nat) (p : List P1) (κ : Res → Option α) : Option α := match p with
  | [.rows (.int .u8) code] => F n code (fun v1 v2 v3 => κ ⟨[.int .i64 v1, .int .i64 v2, .int .i64 v3], []⟩)
  | _ => none
def spec_DrawNearestFraction_run {α : Type} (n : Nat) (p : List P1) (κ : Res → Option α) : Option α := spec_DrawNearestFraction_runG spec_DrawNearestFraction n p κ
def spec_DrawNearestFraction_CG {α : Type} (F0 : T5 α) (n : Nat) : FuncId → List D → (Res → Option α) → Option α := tabC [(21, (byShape spec_l10With_sh (spec_l10With_runG F0 n)))]
def spec_DrawNearestFraction_C {α : Type} (n : Nat) : FuncId → List D → (Res → Option α) → Option α := spec_DrawNearestFraction_CG spec_l10With n
def spec_DrawNearestFraction_M : FuncId → List Nat := tabM []
def spec_DrawNearestFraction_lpsG {α : Type}  : List (LoopT α) := []
def spec_DrawNearestFraction_lps {α : Type} : List (LoopT α) := spec_DrawNearestFraction_lpsG
def spec_DrawNearestFraction_jt : Nat → Option Tpl := jtOf []
def spec_DrawNearestFraction_XG {α : Type} (F0 : T5 α)  (n : Nat) : Ctx α := ⟨spec_DrawNearestFraction_CG F0 n, spec_DrawNearestFraction_M, eqs, lpOf (spec_DrawNearestFraction_lpsG) n, spec_DrawNearestFraction_jt⟩
def spec_DrawNearestFraction_X {α : Type} (n : Nat) : Ctx α := spec_DrawNearestFraction_XG spec_l10With n
def spec_DrawNearestFraction_Lt (np : Nat) (lent : List (Bool × Nat × Blk)) : Prop := np = 1 ∧ lent = []
def spec_DrawNearestFraction_body {α : Type} (F0 : T5 α)  (k : Nat) (code : List Int) (r0 : Int → Int → Int → Option α) : Option α :=
  F0 k code 100000 fun v v1 v2 =>
  r0 v v1 v2
theorem spec_DrawNearestFraction_gen {α : Type} (F0 : T5 α)  (n : Nat) (code : List Int) (κ : Res → Option α) : evFn Try.prog (spec_DrawNearestFraction_XG F0 n) Try.f12 (((buildDs spec_DrawNearestFraction_sh [.rows (.int .u8) code]).map Prod.fst).getD []) κ = spec_DrawNearestFraction_body F0 n code (fun v1 v2 v3 => κ ⟨[.int .i64 v1, .int .i64 v2, .int .i64 v3], []⟩) := by kernel_rfl
theorem spec_DrawNearestFraction_eq {α : Type} (n : Nat) (code : List Int) (r0 : Int → Int → Int → Option α) : spec_DrawNearestFraction_body spec_l10With n code r0 = spec_DrawNearestFraction n code r0 := (spec_DrawNearestFraction_body.eq_1 spec_l10With n code r0).trans (spec_DrawNearestFraction.eq_1 n code r0).symm
theorem spec_DrawNearestFraction_rn {α : Type} (F : T6 α) (n : Nat) (code : List Int) (κ : Res → Option α) : spec_DrawNearestFraction_runG F n [.rows (.int .u8) code] κ = F n code (fun v1 v2 v3 => κ ⟨[.int .i64 v1, .int .i64 v2, .int .i64 v3], []⟩) := rfl
theorem spec_DrawNearestFraction_ev {α : Type} (n : Nat) (code : List Int) (κ : Res → Option α) : evFn Try.prog (spec_DrawNearestFraction_X n) Try.f12 (((buildDs spec_DrawNearestFraction_sh [.rows (.int .u8) code]).map Prod.fst).getD []) κ = spec_DrawNearestFraction_run n [.rows (.int .u8) code] κ := (spec_DrawNearestFraction_gen spec_l10With n code κ).trans ((spec_DrawNearestFraction_eq n code (fun v1 v2 v3 => κ ⟨[.int .i64 v1, .int .i64 v2, .int .i64 v3], []⟩)).trans ((spec_DrawNearestFraction_run.eq_1 n [.rows (.int .u8) code] κ).trans (spec_DrawNearestFraction_rn spec_DrawNearestFraction n code κ)).symm)
theorem spec_DrawNearestFraction_en (code : List Int) : (entry 0 (((buildDs spec_DrawNearestFraction_sh [.rows (.int .u8) code]).map Prod.fst).getD [])).map (fun x => (x.1.length, x.2.lent)) = some (1, []) := by kernel_rfl
theorem spec_DrawNearestFraction_good {α : Type} : ∀ n, GoodFn (α := α) Try.prog 12 (byShape spec_DrawNearestFraction_sh (spec_DrawNearestFraction_run n)) := by
  refine fn_good' Try.func12 (c := (Try.f12.body.getD .skip)) (by kernel_rfl) (by kernel_rfl) (by kernel_rfl) spec_DrawNearestFraction_C spec_DrawNearestFraction_M eqs spec_DrawNearestFraction_lps spec_DrawNearestFraction_jt (fun n => tabC_good (List.forall_mem_cons.2 ⟨(spec_l10With_good n), (fun _ h => absurd h List.not_mem_nil)⟩)) eqs_ok spec_DrawNearestFraction_Lt ?_ ?_ spec_DrawNearestFraction_sh spec_DrawNearestFraction_run ?_
  · exact (fun _ h => absurd h List.not_mem_nil)
  · exact (fun _ h => absurd h List.not_mem_nil)
  · intro n p κ r ds hd hr
    have hr0 := hr
    unfold spec_DrawNearestFraction_run spec_DrawNearestFraction_runG at hr
    split at hr
    · rw [← ds_of hd]
      exact ⟨en_of (spec_DrawNearestFraction_en _) ⟨rfl, rfl⟩, (spec_DrawNearestFraction_ev n _ κ).trans hr0⟩
    · cases hr

/-! loop.example/g01297/impl.NearestFraction -/
def impl_NearestFraction_sh : List SkD := [.int .i64, .int .i64, .int .i64]
def impl_NearestFraction_runG {α : Type} (F : T17 α) (n : Nat) (p : List P1) (κ : Res → Option α) : Option α := match p with
  | [.int p_, .int q_, .int n_] => F n p_ q_ n_ (fun v1 v2 v3 => κ ⟨[.agg [.int .i64 v1, .int .i64 v2], .int .i64 v3], []⟩)
  | _ => none
def impl_NearestFraction_run {α : Type} (n : Nat) (p : List P1) (κ : Res → Option α) : Option α := impl_NearestFraction_runG impl_NearestFraction n p κ
def impl_NearestFraction_CG {α : Type} (F0 : T7 α) (F1 : T12 α) (n : Nat) : FuncId → List D → (Res → Option α) → Option α := tabC [(22, (byShape impl_bestOk_sh (impl_bestOk_runG F0 n))), (28, (byShape impl_bestOfFirst_sh (impl_bestOfFirst_runG F1 n)))]
def impl_NearestFraction_C {α : Type} (n : Nat) : FuncId → List D → (Res → Option α) → Option α := impl_NearestFraction_CG impl_bestOk impl_bestOfFirst n
def impl_NearestFraction_M : FuncId → List Nat := tabM []
def impl_NearestFraction_lpsG {α : Type}  : List (LoopT α) := []
def impl_NearestFraction_lps {α : Type} : List (LoopT α) := impl_NearestFraction_lpsG
def impl_NearestFraction_jt : Nat → Option Tpl := jtOf []
def impl_NearestFraction_XG {α : Type} (F0 : T7 α) (F1 : T12 α)  (n : Nat) : Ctx α := ⟨impl_NearestFraction_CG F0 F1 n, impl_NearestFraction_M, eqs, lpOf (impl_NearestFraction_lpsG) n, impl_NearestFraction_jt⟩
def impl_NearestFraction_X {α : Type} (n : Nat) : Ctx α := impl_NearestFraction_XG impl_bestOk impl_bestOfFirst n
def impl_NearestFraction_Lt (np : Nat) (lent : List (Bool × Nat × Blk)) : Prop := np = 3 ∧ lent = []
def impl_NearestFraction_body {α : Type} (F0 : T7 α) (F1 : T12 α)  (k : Nat) (p_ : Int) (q_ : Int) (n_ : Int) (r0 : Int → Int → Int → Option α) : Option α :=
  F0 k p_ q_ n_ fun v =>
  bif (!v) then
    r0 0 0 2
  else
    F1 k p_ q_ n_ fun v1 =>
    bif (decide (0 ≤ (w64 ((((List.length v1) : Nat) : Int) - 1))) && decide ((w64 ((((List.length v1) : Nat) : Int) - 1)) < (((List.length v1) : Nat) : Int))) then
      (v1[(w64 ((((List.length v1) : Nat) : Int) - 1)).toNat]?).bind fun e_ =>
      r0 e_.1 e_.2 0
    else
      none
theorem impl_NearestFraction_gen {α : Type} (F0 : T7 α) (F1 : T12 α)  (n : Nat) (p_ : Int) (q_ : Int) (n_ : Int) (κ : Res → Option α) : evFn Try.prog (impl_NearestFraction_XG F0 F1 n) Try.f13 (((buildDs impl_NearestFraction_sh [.int p_, .int q_, .int n_]).map Prod.fst).getD []) κ = impl_NearestFraction_body F0 F1 n p_ q_ n_ (fun v1 v2 v3 => κ ⟨[.agg [.int .i64 v1, .int .i64 v2], .int .i64 v3], []⟩) := by kernel_rfl
theorem impl_NearestFraction_eq {α : Type} (n : Nat) (p_ : Int) (q_ : Int) (n_ : Int) (r0 : Int → Int → Int → Option α) : impl_NearestFraction_body impl_bestOk impl_bestOfFirst n p_ q_ n_ r0 = impl_NearestFraction n p_ q_ n_ r0 := (impl_NearestFraction_body.eq_1 impl_bestOk impl_bestOfFirst n p_ q_ n_ r0).trans (impl_NearestFraction.eq_1 n p_ q_ n_ r0).symm
theorem impl_NearestFraction_rn {α : Type} (F : T17 α) (n : Nat) (p_ : Int) (q_ : Int) (n_ : Int) (κ : Res → Option α) : impl_NearestFraction_runG F n [.int p_, .int q_, .int n_] κ = F n p_ q_ n_ (fun v1 v2 v3 => κ ⟨[.agg [.int .i64 v1, .int .i64 v2], .int .i64 v3], []⟩) := rfl
theorem impl_NearestFraction_ev {α : Type} (n : Nat) (p_ : Int) (q_ : Int) (n_ : Int) (κ : Res → Option α) : evFn Try.prog (impl_NearestFraction_X n) Try.f13 (((buildDs impl_NearestFraction_sh [.int p_, .int q_, .int n_]).map Prod.fst).getD []) κ = impl_NearestFraction_run n [.int p_, .int q_, .int n_] κ := (impl_NearestFraction_gen impl_bestOk impl_bestOfFirst n p_ q_ n_ κ).trans ((impl_NearestFraction_eq n p_ q_ n_ (fun v1 v2 v3 => κ ⟨[.agg [.int .i64 v1, .int .i64 v2], .int .i64 v3], []⟩)).trans ((impl_NearestFraction_run.eq_1 n [.int p_, .int q_, .int n_] κ).trans (impl_NearestFraction_rn impl_NearestFraction n p_ q_ n_ κ)).symm)
theorem impl_NearestFraction_en (p_ : Int) (q_ : Int) (n_ : Int) : (entry 0 (((buildDs impl_NearestFraction_sh [.int p_, .int q_, .int n_]).map Prod.fst).getD [])).map (fun x => (x.1.length, x.2.lent)) = some (3, []) := by kernel_rfl
theorem impl_NearestFraction_good {α : Type} : ∀ n, GoodFn (α := α) Try.prog 13 (byShape impl_NearestFraction_sh (impl_NearestFraction_run n)) := by
  refine fn_good' Try.func13 (c := (Try.f13.body.getD .skip)) (by kernel_rfl) (by kernel_rfl) (by kernel_rfl) impl_NearestFraction_C impl_NearestFraction_M eqs impl_NearestFraction_lps impl_NearestFraction_jt (fun n => tabC_good (List.forall_mem_cons.2 ⟨(impl_bestOk_good n), (List.forall_mem_cons.2 ⟨(impl_bestOfFirst_good n), (fun _ h => absurd h List.not_mem_nil)⟩)⟩)) eqs_ok impl_NearestFraction_Lt ?_ ?_ impl_NearestFraction_sh impl_NearestFraction_run ?_
  · exact (fun _ h => absurd h List.not_mem_nil)
  · exact (fun _ h => absurd h List.not_mem_nil)
  · intro n p κ r ds hd hr
    have hr0 := hr
    unfold impl_NearestFraction_run impl_NearestFraction_runG at hr
    split at hr
    · rw [← ds_of hd]
      exact ⟨en_of (impl_NearestFraction_en _ _ _) ⟨rfl, rfl⟩, (impl_NearestFraction_ev n _ _ _ κ).trans hr0⟩
    · cases hr

/-! loop.example/g01297/spec.NearestFraction -/
def spec_NearestFraction_sh : List SkD := [.int .i64, .int .i64, .int .i64]
def spec_NearestFraction_runG {α : Type} (F : T17 α) (n : Nat) (p : List P1) (κ : Res → Option α) : Option α := match p with
  | [.int p_, .int q_, .int n_] => F n p_ q_ n_ (fun v1 v2 v3 => κ ⟨[.agg [.int .i64 v1, .int .i64 v2], .int .i64 v3], []⟩)
  | _ => none
def spec_NearestFraction_run {α : Type} (n : Nat) (p : List P1) (κ : Res → Option α) : Option α := spec_NearestFraction_runG spec_NearestFraction n p κ
def spec_NearestFraction_CG {α : Type} (F0 : T7 α) (F1 : T7 α) (F2 : T15 α) (n : Nat) : FuncId → List D → (Res → Option α) → Option α := tabC [(25, (byShape spec_l10Ratio_sh (spec_l10Ratio_runG F0 n))), (26, (byShape spec_l01In_sh (spec_l01In_runG F1 n))), (27, (byShape spec_l10Best_sh (spec_l10Best_runG F2 n)))]
def spec_NearestFraction_C {α : Type} (n : Nat) : FuncId → List D → (Res → Option α) → Option α := spec_NearestFraction_CG spec_l10Ratio spec_l01In spec_l10Best n
def spec_NearestFraction_M : FuncId → List Nat := tabM []
def spec_NearestFraction_lpsG {α : Type}  : List (LoopT α) := []
def spec_NearestFraction_lps {α : Type} : List (LoopT α) := spec_NearestFraction_lpsG
def spec_NearestFraction_jt : Nat → Option Tpl := jtOf []
def spec_NearestFraction_XG {α : Type} (F0 : T7 α) (F1 : T7 α) (F2 : T15 α)  (n : Nat) : Ctx α := ⟨spec_NearestFraction_CG F0 F1 F2 n, spec_NearestFraction_M, eqs, lpOf (spec_NearestFraction_lpsG) n, spec_NearestFraction_jt⟩
def spec_NearestFraction_X {α : Type} (n : Nat) : Ctx α := spec_NearestFraction_XG spec_l10Ratio spec_l01In spec_l10Best n
def spec_NearestFraction_Lt (np : Nat) (lent : List (Bool × Nat × Blk)) : Prop := np = 3 ∧ lent = []
def spec_NearestFraction_body {α : Type} (F0 : T7 α) (F1 : T7 α) (F2 : T15 α)  (k : Nat) (p_ : Int) (q_ : Int) (n_ : Int) (r0 : Int → Int → Int → Option α) : Option α :=
  F0 k p_ q_ 1 fun v =>
  bif (!v) then
    r0 0 0 2
  else
    F1 k n_ 1 100000 fun v1 =>
    bif (!v1) then
      r0 0 0 2
    else
      F2 k p_ q_ n_ false fun v2 =>
      bif (decide (0 ≤ (w64 ((((List.length v2) : Nat) : Int) - 1))) && decide ((w64 ((((List.length v2) : Nat) : Int) - 1)) < (((List.length v2) : Nat) : Int))) then
        (v2[(w64 ((((List.length v2) : Nat) : Int) - 1)).toNat]?).bind fun e_ =>
        r0 e_.1 e_.2 0
      else
        none
theorem spec_NearestFraction_gen {α : Type} (F0 : T7 α) (F1 : T7 α) (F2 : T15 α)  (n : Nat) (p_ : Int) (q_ : Int) (n_ : Int) (κ : Res → Option α) : evFn Try.prog (spec_NearestFraction_XG F0 F1 F2 n) Try.f14 (((buildDs spec_NearestFraction_sh [.int p_, .int q_, .int n_]).map Prod.fst).getD []) κ = spec_NearestFraction_body F0 F1 F2 n p_ q_ n_ (fun v1 v2 v3 => κ ⟨[.agg [.int .i64 v1, .int .i64 v2], .int .i64 v3], []⟩) := by kernel_rfl
theorem spec_NearestFraction_eq {α : Type} (n : Nat) (p_ : Int) (q_ : Int) (n_ : Int) (r0 : Int → Int → Int → Option α) : spec_NearestFraction_body spec_l10Ratio spec_l01In spec_l10Best n p_ q_ n_ r0 = spec_NearestFraction n p_ q_ n_ r0 := (spec_NearestFraction_body.eq_1 spec_l10Ratio spec_l01In spec_l10Best n p_ q_ n_ r0).trans (spec_NearestFraction.eq_1 n p_ q_ n_ r0).symm
theorem spec_NearestFraction_rn {α : Type} (F : T17 α) (n : Nat) (p_ : Int) (q_ : Int) (n_ : Int) (κ : Res → Option α) : spec_NearestFraction_runG F n [.int p_, .int q_, .int n_] κ = F n p_ q_ n_ (fun v1 v2 v3 => κ ⟨[.agg [.int .i64 v1, .int .i64 v2], .int .i64 v3], []⟩) := rfl
theorem spec_NearestFraction_ev {α : Type} (n : Nat) (p_ : Int) (q_ : Int) (n_ : Int) (κ : Res → Option α) : evFn Try.prog (spec_NearestFraction_X n) Try.f14 (((buildDs spec_NearestFraction_sh [.int p_, .int q_, .int n_]).map Prod.fst).getD []) κ = spec_NearestFraction_run n [.int p_, .int q_, .int n_] κ := (spec_NearestFraction_gen spec_l10Ratio spec_l01In spec_l10Best n p_ q_ n_ κ).trans ((spec_NearestFraction_eq n p_ q_ n_ (fun v1 v2 v3 => κ ⟨[.agg [.int .i64 v1, .int .i64 v2], .int .i64 v3], []⟩)).trans ((spec_NearestFraction_run.eq_1 n [.int p_, .int q_, .int n_] κ).trans (spec_NearestFraction_rn spec_NearestFraction n p_ q_ n_ κ)).symm)
theorem spec_NearestFraction_en (p_ : Int) (q_ : Int) (n_ : Int) : (entry 0 (((buildDs spec_NearestFraction_sh [.int p_, .int q_, .int n_]).map Prod.fst).getD [])).map (fun x => (x.1.length, x.2.lent)) = some (3, []) := by kernel_rfl
theorem spec_NearestFraction_good {α : Type} : ∀ n, GoodFn (α := α) Try.prog 14 (byShape spec_NearestFraction_sh (spec_NearestFraction_run n)) := by
  refine fn_good' Try.func14 (c := (Try.f14.body.getD .skip)) (by kernel_rfl) (by kernel_rfl) (by kernel_rfl) spec_NearestFraction_C spec_NearestFraction_M eqs spec_NearestFraction_lps spec_NearestFraction_jt (fun n => tabC_good (List.forall_mem_cons.2 ⟨(spec_l10Ratio_good n), (List.forall_mem_cons.2 ⟨(spec_l01In_good n), (List.forall_mem_cons.2 ⟨(spec_l10Best_good n), (fun _ h => absurd h List.not_mem_nil)⟩)⟩)⟩)) eqs_ok spec_NearestFraction_Lt ?_ ?_ spec_NearestFraction_sh spec_NearestFraction_run ?_
  · exact (fun _ h => absurd h List.not_mem_nil)
  · exact (fun _ h => absurd h List.not_mem_nil)
  · intro n p κ r ds hd hr
    have hr0 := hr
    unfold spec_NearestFraction_run spec_NearestFraction_runG at hr
    split at hr
    · rw [← ds_of hd]
      exact ⟨en_of (spec_NearestFraction_en _ _ _) ⟨rfl, rfl⟩, (spec_NearestFraction_ev n _ _ _ κ).trans hr0⟩
    · cases hr

/-! loop.example/g01297/spec.l01Expand -/
def spec_l01Expand_sh : List SkD := [.int .i64, .int .i64]
def spec_l01Expand_runG {α : Type} (F : T18 α) (n : Nat) (p : List P1) (κ : Res → Option α) : Option α := match p with
  | [.int p_, .int q_] => F n p_ q_ (fun v1 => κ ⟨[.sl 2 (.int .i64) v1], []⟩)
  | _ => none
def spec_l01Expand_run {α : Type} (n : Nat) (p : List P1) (κ : Res → Option α) : Option α := spec_l01Expand_runG spec_l01Expand n p κ
def spec_l01Expand_CG {α : Type} (F0 : T10 α) (n : Nat) : FuncId → List D → (Res → Option α) → Option α := tabC [(52, (byShape spec_l01Floor_sh (spec_l01Floor_runG F0 n)))]
def spec_l01Expand_C {α : Type} (n : Nat) : FuncId → List D → (Res → Option α) → Option α := spec_l01Expand_CG spec_l01Floor n
def spec_l01Expand_M : FuncId → List Nat := tabM []
def spec_l01Expand_t2 : Tpl := ⟨[.int .i64, .int .i64, .any, .any, .any, .sl 512, .any, .any, .any, .any, .any, .any, .any, .any, .any, .any, .any, .any, .any, .any, .any, .any, .any, .any, .any, .any], [(512, .rows 2 2 (.int .i64))], []⟩
def spec_l01Expand_uG2 {α : Type} (G : Nat → Int → Int → List Int → (Int → Int → List Int → Option α) → (List Int → Option α) → Option α) (n : Nat) (p : List P1) (brk : Nat → List P1 → Option α) (ret : Res → Option α) : Option α := match p with
  | [.int p_1, .int q_1, .rows (.int .i64) out] => G n p_1 q_1 out (fun p_1 q_1 out => brk 0 [.int p_1, .int q_1, .rows (.int .i64) out]) (fun v1 => ret ⟨[.sl 2 (.int .i64) v1], []⟩)
  | _ => none
def spec_l01Expand_u2 {α : Type} (n : Nat) (p : List P1) (brk : Nat → List P1 → Option α) (ret : Res → Option α) : Option α := spec_l01Expand_uG2 spec_l01Expand_l2 n p brk ret
def spec_l01Expand_lpsG {α : Type} (G2 : Nat → Int → Int → List Int → (Int → Int → List Int → Option α) → (List Int → Option α) → Option α) : List (LoopT α) := [⟨2, spec_l01Expand_t2, spec_l01Expand_uG2 G2⟩]
def spec_l01Expand_lps {α : Type} : List (LoopT α) := spec_l01Expand_lpsG spec_l01Expand_l2
def spec_l01Expand_jt : Nat → Option Tpl := jtOf []
def spec_l01Expand_XG {α : Type} (F0 : T10 α) (G2 : Nat → Int → Int → List Int → (Int → Int → List Int → Option α) → (List Int → Option α) → Option α) (n : Nat) : Ctx α := ⟨spec_l01Expand_CG F0 n, spec_l01Expand_M, eqs, lpOf (spec_l01Expand_lpsG G2) n, spec_l01Expand_jt⟩
def spec_l01Expand_X {α : Type} (n : Nat) : Ctx α := spec_l01Expand_XG spec_l01Floor spec_l01Expand_l2 n
def spec_l01Expand_Lt (np : Nat) (lent : List (Bool × Nat × Blk)) : Prop := np = 2 ∧ lent = []
def spec_l01Expand_lb2 {α : Type} (F0 : T10 α) (G2 : Nat → Int → Int → List Int → (Int → Int → List Int → Option α) → (List Int → Option α) → Option α) (k : Nat) (p_1 : Int) (q_1 : Int) (out : List Int) (b0 : Int → Int → List Int → Option α) (r0 : List Int → Option α) : Option α :=
  bif (!decide (q_1 = 0)) then
    F0 k p_1 q_1 fun v =>
    bif decide (((List.length out) + 1) ≤ big) then
      G2 k q_1 (w64 (p_1 - (w64 (v * q_1)))) (out ++ [v]) b0 r0
    else
      none
  else
    b0 p_1 q_1 out
theorem spec_l01Expand_l2_gen {α : Type} (F0 : T10 α) (G2 : Nat → Int → Int → List Int → (Int → Int → List Int → Option α) → (List Int → Option α) → Option α) (n : Nat) (p_1 : Int) (q_1 : Int) (out : List Int) (brk : Nat → List P1 → Option α) (ret : Res → Option α) : ev ((spec_l01Expand_XG F0 G2 n).env Try.prog Try.f45 2 []) (findLoop (loopsIn (Try.f45.body.getD .skip)) 2) ((spec_l01Expand_t2.build [.int p_1, .int q_1, .rows (.int .i64) out]).getD ⟨[], []⟩) (roundK (2 * 64) spec_l01Expand_t2 (fun q => spec_l01Expand_uG2 G2 n q brk ret) brk ret) = spec_l01Expand_lb2 F0 G2 n p_1 q_1 out (fun p_1 q_1 out => brk 0 [.int p_1, .int q_1, .rows (.int .i64) out]) (fun v1 => ret ⟨[.sl 2 (.int .i64) v1], []⟩) := by kernel_rfl
theorem spec_l01Expand_l2_eq {α : Type} (k : Nat) (p_1 : Int) (q_1 : Int) (out : List Int) (b0 : Int → Int → List Int → Option α) (r0 : List Int → Option α) : spec_l01Expand_lb2 spec_l01Floor spec_l01Expand_l2 k p_1 q_1 out b0 r0 = spec_l01Expand_l2 (k + 1) p_1 q_1 out b0 r0 := (spec_l01Expand_lb2.eq_1 spec_l01Floor spec_l01Expand_l2 k p_1 q_1 out b0 r0).trans (show spec_l01Expand_l2 (k + 1) p_1 q_1 out b0 r0 = _ from spec_l01Expand_l2.eq_2 _ _ _ _ _ _ ).symm
theorem spec_l01Expand_l2_rn {α : Type} (G : Nat → Int → Int → List Int → (Int → Int → List Int → Option α) → (List Int → Option α) → Option α) (n : Nat) (p_1 : Int) (q_1 : Int) (out : List Int) (brk : Nat → List P1 → Option α) (ret : Res → Option α) : spec_l01Expand_uG2 G n [.int p_1, .int q_1, .rows (.int .i64) out] brk ret = G n p_1 q_1 out (fun p_1 q_1 out => brk 0 [.int p_1, .int q_1, .rows (.int .i64) out]) (fun v1 => ret ⟨[.sl 2 (.int .i64) v1], []⟩) := rfl
theorem spec_l01Expand_l2_ev {α : Type} (n : Nat) (p_1 : Int) (q_1 : Int) (out : List Int) (brk : Nat → List P1 → Option α) (ret : Res → Option α) : ev ((spec_l01Expand_X n).env Try.prog Try.f45 2 []) (findLoop (loopsIn (Try.f45.body.getD .skip)) 2) ((spec_l01Expand_t2.build [.int p_1, .int q_1, .rows (.int .i64) out]).getD ⟨[], []⟩) (roundK (2 * 64) spec_l01Expand_t2 (fun q => spec_l01Expand_u2 n q brk ret) brk ret) = spec_l01Expand_u2 (n + 1) [.int p_1, .int q_1, .rows (.int .i64) out] brk ret := (spec_l01Expand_l2_gen spec_l01Floor spec_l01Expand_l2 n p_1 q_1 out brk ret).trans ((spec_l01Expand_l2_eq n p_1 q_1 out (fun p_1 q_1 out => brk 0 [.int p_1, .int q_1, .rows (.int .i64) out]) (fun v1 => ret ⟨[.sl 2 (.int .i64) v1], []⟩)).trans ((spec_l01Expand_u2.eq_1 (n + 1) [.int p_1, .int q_1, .rows (.int .i64) out] brk ret).trans (spec_l01Expand_l2_rn spec_l01Expand_l2 (n + 1) p_1 q_1 out brk ret)).symm)
def spec_l01Expand_body {α : Type} (F0 : T10 α) (G2 : Nat → Int → Int → List Int → (Int → Int → List Int → Option α) → (List Int → Option α) → Option α) (k : Nat) (p_ : Int) (q_ : Int) (r0 : List Int → Option α) : Option α :=
  G2 k p_ q_ []
    (fun _ _ out1 =>
      r0 out1)
    r0
theorem spec_l01Expand_gen {α : Type} (F0 : T10 α) (G2 : Nat → Int → Int → List Int → (Int → Int → List Int → Option α) → (List Int → Option α) → Option α) (n : Nat) (p_ : Int) (q_ : Int) (κ : Res → Option α) : evFn Try.prog (spec_l01Expand_XG F0 G2 n) Try.f45 (((buildDs spec_l01Expand_sh [.int p_, .int q_]).map Prod.fst).getD []) κ = spec_l01Expand_body F0 G2 n p_ q_ (fun v1 => κ ⟨[.sl 2 (.int .i64) v1], []⟩) := by kernel_rfl
theorem spec_l01Expand_eq {α : Type} (n : Nat) (p_ : Int) (q_ : Int) (r0 : List Int → Option α) : spec_l01Expand_body spec_l01Floor spec_l01Expand_l2 n p_ q_ r0 = spec_l01Expand n p_ q_ r0 := (spec_l01Expand_body.eq_1 spec_l01Floor spec_l01Expand_l2 n p_ q_ r0).trans (spec_l01Expand.eq_1 n p_ q_ r0).symm
theorem spec_l01Expand_rn {α : Type} (F : T18 α) (n : Nat) (p_ : Int) (q_ : Int) (κ : Res → Option α) : spec_l01Expand_runG F n [.int p_, .int q_] κ = F n p_ q_ (fun v1 => κ ⟨[.sl 2 (.int .i64) v1], []⟩) := rfl
theorem spec_l01Expand_ev {α : Type} (n : Nat) (p_ : Int) (q_ : Int) (κ : Res → Option α) : evFn Try.prog (spec_l01Expand_X n) Try.f45 (((buildDs spec_l01Expand_sh [.int p_, .int q_]).map Prod.fst).getD []) κ = spec_l01Expand_run n [.int p_, .int q_] κ := (spec_l01Expand_gen spec_l01Floor spec_l01Expand_l2 n p_ q_ κ).trans ((spec_l01Expand_eq n p_ q_ (fun v1 => κ ⟨[.sl 2 (.int .i64) v1], []⟩)).trans ((spec_l01Expand_run.eq_1 n [.int p_, .int q_] κ).trans (spec_l01Expand_rn spec_l01Expand n p_ q_ κ)).symm)
theorem spec_l01Expand_en (p_ : Int) (q_ : Int) : (entry 0 (((buildDs spec_l01Expand_sh [.int p_, .int q_]).map Prod.fst).getD [])).map (fun x => (x.1.length, x.2.lent)) = some (2, []) := by kernel_rfl
theorem spec_l01Expand_good {α : Type} : ∀ n, GoodFn (α := α) Try.prog 45 (byShape spec_l01Expand_sh (spec_l01Expand_run n)) := by
  refine fn_good' Try.func45 (c := (Try.f45.body.getD .skip)) (by kernel_rfl) (by kernel_rfl) (by kernel_rfl) spec_l01Expand_C spec_l01Expand_M eqs spec_l01Expand_lps spec_l01Expand_jt (fun n => tabC_good (List.forall_mem_cons.2 ⟨(spec_l01Floor_good n), (fun _ h => absurd h List.not_mem_nil)⟩)) eqs_ok spec_l01Expand_Lt ?_ ?_ spec_l01Expand_sh spec_l01Expand_run ?_
  · refine List.forall_mem_cons.2 ⟨?_, (fun _ h => absurd h List.not_mem_nil)⟩
    · intro p brk ret; show spec_l01Expand_u2 0 p brk ret = none; unfold spec_l01Expand_u2 spec_l01Expand_uG2; split <;> rfl
  · refine List.forall_mem_cons.2 ⟨?_, (fun _ h => absurd h List.not_mem_nil)⟩
    · intro np lent hL n p brk ret st r hb hr
      obtain ⟨rfl, rfl⟩ := hL
      rw [← tpl_of hb]
      change spec_l01Expand_u2 (n + 1) p brk ret = some r at hr
      have hr0 := hr
      unfold spec_l01Expand_u2 spec_l01Expand_uG2 at hr
      split at hr
      · exact (spec_l01Expand_l2_ev n _ _ _ brk ret).trans hr0
      · cases hr
  · intro n p κ r ds hd hr
    have hr0 := hr
    unfold spec_l01Expand_run spec_l01Expand_runG at hr
    split at hr
    · rw [← ds_of hd]
      exact ⟨en_of (spec_l01Expand_en _ _) ⟨rfl, rfl⟩, (spec_l01Expand_ev n _ _ κ).trans hr0⟩
    · cases hr

/-! loop.example/g01297/spec.l01Fold -/
def spec_l01Fold_sh : List SkD := [.sl 2 (.int .i64)]
def spec_l01Fold_runG {α : Type} (F : T19 α) (n : Nat) (p : List P1) (κ : Res → Option α) : Option α := match p with
  | [.rows (.int .i64) list] => F n list (fun v1 v2 v3 => κ ⟨[.int .i64 v1, .int .i64 v2, .bool v3], []⟩)
  | _ => none
def spec_l01Fold_run {α : Type} (n : Nat) (p : List P1) (κ : Res → Option α) : Option α := spec_l01Fold_runG spec_l01Fold n p κ
def spec_l01Fold_CG {α : Type} (F0 : T8 α) (n : Nat) : FuncId → List D → (Res → Option α) → Option α := tabC [(42, (byShape spec_l01Fits_sh (spec_l01Fits_runG F0 n)))]
def spec_l01Fold_C {α : Type} (n : Nat) : FuncId → List D → (Res → Option α) → Option α := spec_l01Fold_CG spec_l01Fits n
def spec_l01Fold_M : FuncId → List Nat := tabM []
def spec_l01Fold_t3 : Tpl := ⟨[.sl 0, .any, .any, .any, .any, .int .i64, .int .i64, .int .i64, .any, .any, .any, .any, .any, .any, .any, .any, .any, .any, .any, .any, .any, .any, .any, .any, .any, .any, .any, .any, .any, .any, .any, .any, .any, .any, .any, .any, .any, .any, .any, .any, .any, .any], [(0, .rows 0 2 (.int .i64))], []⟩
def spec_l01Fold_uG3 {α : Type} (G : Nat → Int → Int → Int → List Int → (Int → Int → Int → List Int → Option α) → (Int → Int → Bool → Option α) → Option α) (n : Nat) (p : List P1) (brk : Nat → List P1 → Option α) (ret : Res → Option α) : Option α := match p with
  | [.int p_, .int q_, .int i, .rows (.int .i64) list1] => G n p_ q_ i list1 (fun p_ q_ i list1 => brk 0 [.int p_, .int q_, .int i, .rows (.int .i64) list1]) (fun v1 v2 v3 => ret ⟨[.int .i64 v1, .int .i64 v2, .bool v3], []⟩)
  | _ => none
def spec_l01Fold_u3 {α : Type} (n : Nat) (p : List P1) (brk : Nat → List P1 → Option α) (ret : Res → Option α) : Option α := spec_l01Fold_uG3 spec_l01Fold_l3 n p brk ret
def spec_l01Fold_lpsG {α : Type} (G3 : Nat → Int → Int → Int → List Int → (Int → Int → Int → List Int → Option α) → (Int → Int → Bool → Option α) → Option α) : List (LoopT α) := [⟨3, spec_l01Fold_t3, spec_l01Fold_uG3 G3⟩]
def spec_l01Fold_lps {α : Type} : List (LoopT α) := spec_l01Fold_lpsG spec_l01Fold_l3
def spec_l01Fold_jt : Nat → Option Tpl := jtOf []
def spec_l01Fold_XG {α : Type} (F0 : T8 α) (G3 : Nat → Int → Int → Int → List Int → (Int → Int → Int → List Int → Option α) → (Int → Int → Bool → Option α) → Option α) (n : Nat) : Ctx α := ⟨spec_l01Fold_CG F0 n, spec_l01Fold_M, eqs, lpOf (spec_l01Fold_lpsG G3) n, spec_l01Fold_jt⟩
def spec_l01Fold_X {α : Type} (n : Nat) : Ctx α := spec_l01Fold_XG spec_l01Fits spec_l01Fold_l3 n
def spec_l01Fold_Lt (np : Nat) (lent : List (Bool × Nat × Blk)) : Prop := np = 1 ∧ lent = []
def spec_l01Fold_lb3 {α : Type} (F0 : T8 α) (G3 : Nat → Int → Int → Int → List Int → (Int → Int → Int → List Int → Option α) → (Int → Int → Bool → Option α) → Option α) (k : Nat) (p_ : Int) (q_ : Int) (i : Int) (list1 : List Int) (b0 : Int → Int → Int → List Int → Option α) (r0 : Int → Int → Bool → Option α) : Option α :=
  bif decide (0 ≤ i) then
    bif (decide (0 ≤ i) && decide (i < (((List.length list1) : Nat) : Int))) then
      (list1[i.toNat]?).bind fun e_1 =>
      F0 k (w64 ((w64 (e_1 * p_)) + q_)) fun v =>
      bif (!v) then
        r0 0 0 false
      else
        F0 k p_ fun v1 =>
        bif (!v1) then
          r0 0 0 false
        else
          G3 k (w64 ((w64 (e_1 * p_)) + q_)) p_ (w64 (i - 1)) list1 b0 r0
    else
      none
  else
    b0 p_ q_ i list1
theorem spec_l01Fold_l3_gen {α : Type} (F0 : T8 α) (G3 : Nat → Int → Int → Int → List Int → (Int → Int → Int → List Int → Option α) → (Int → Int → Bool → Option α) → Option α) (n : Nat) (p_ : Int) (q_ : Int) (i : Int) (list1 : List Int) (brk : Nat → List P1 → Option α) (ret : Res → Option α) : ev ((spec_l01Fold_XG F0 G3 n).env Try.prog Try.f46 1 []) (findLoop (loopsIn (Try.f46.body.getD .skip)) 3) ((spec_l01Fold_t3.build [.int p_, .int q_, .int i, .rows (.int .i64) list1]).getD ⟨[], []⟩) (roundK (1 * 64) spec_l01Fold_t3 (fun q => spec_l01Fold_uG3 G3 n q brk ret) brk ret) = spec_l01Fold_lb3 F0 G3 n p_ q_ i list1 (fun p_ q_ i list1 => brk 0 [.int p_, .int q_, .int i, .rows (.int .i64) list1]) (fun v1 v2 v3 => ret ⟨[.int .i64 v1, .int .i64 v2, .bool v3], []⟩) := by kernel_rfl
theorem spec_l01Fold_l3_eq {α : Type} (k : Nat) (p_ : Int) (q_ : Int) (i : Int) (list1 : List Int) (b0 : Int → Int → Int → List Int → Option α) (r0 : Int → Int → Bool → Option α) : spec_l01Fold_lb3 spec_l01Fits spec_l01Fold_l3 k p_ q_ i list1 b0 r0 = spec_l01Fold_l3 (k + 1) p_ q_ i list1 b0 r0 := (spec_l01Fold_lb3.eq_1 spec_l01Fits spec_l01Fold_l3 k p_ q_ i list1 b0 r0).trans (show spec_l01Fold_l3 (k + 1) p_ q_ i list1 b0 r0 = _ from spec_l01Fold_l3.eq_2 _ _ _ _ _ _ _ ).symm
theorem spec_l01Fold_l3_rn {α : Type} (G : Nat → Int → Int → Int → List Int → (Int → Int → Int → List Int → Option α) → (Int → Int → Bool → Option α) → Option α) (n : Nat) (p_ : Int) (q_ : Int) (i : Int) (list1 : List Int) (brk : Nat → List P1 → Option α) (ret : Res → Option α) : spec_l01Fold_uG3 G n [.int p_, .int q_, .int i, .rows (.int .i64) list1] brk ret = G n p_ q_ i list1 (fun p_ q_ i list1 => brk 0 [.int p_, .int q_, .int i, .rows (.int .i64) list1]) (fun v1 v2 v3 => ret ⟨[.int .i64 v1, .int .i64 v2, .bool v3], []⟩) := rfl
theorem spec_l01Fold_l3_ev {α : Type} (n : Nat) (p_ : Int) (q_ : Int) (i : Int) (list1 : List Int) (brk : Nat → List P1 → Option α) (ret : Res → Option α) : ev ((spec_l01Fold_X n).env Try.prog Try.f46 1 []) (findLoop (loopsIn (Try.f46.body.getD .skip)) 3) ((spec_l01Fold_t3.build [.int p_, .int q_, .int i, .rows (.int .i64) list1]).getD ⟨[], []⟩) (roundK (1 * 64) spec_l01Fold_t3 (fun q => spec_l01Fold_u3 n q brk ret) brk ret) = spec_l01Fold_u3 (n + 1) [.int p_, .int q_, .int i, .rows (.int .i64) list1] brk ret := (spec_l01Fold_l3_gen spec_l01Fits spec_l01Fold_l3 n p_ q_ i list1 brk ret).trans ((spec_l01Fold_l3_eq n p_ q_ i list1 (fun p_ q_ i list1 => brk 0 [.int p_, .int q_, .int i, .rows (.int .i64) list1]) (fun v1 v2 v3 => ret ⟨[.int .i64 v1, .int .i64 v2, .bool v3], []⟩)).trans ((spec_l01Fold_u3.eq_1 (n + 1) [.int p_, .int q_, .int i, .rows (.int .i64) list1] brk ret).trans (spec_l01Fold_l3_rn spec_l01Fold_l3 (n + 1) p_ q_ i list1 brk ret)).symm)
def spec_l01Fold_body {α : Type} (F0 : T8 α) (G3 : Nat → Int → Int → Int → List Int → (Int → Int → Int → List Int → Option α) → (Int → Int → Bool → Option α) → Option α) (k : Nat) (list : List Int) (r0 : Int → Int → Bool → Option α) : Option α :=
  bif (decide (0 ≤ (w64 ((((List.length list) : Nat) : Int) - 1))) && decide ((w64 ((((List.length list) : Nat) : Int) - 1)) < (((List.length list) : Nat) : Int))) then
    (list[(w64 ((((List.length list) : Nat) : Int) - 1)).toNat]?).bind fun e_ =>
    G3 k e_ 1 (w64 ((((List.length list) : Nat) : Int) - 2)) list
      (fun p_1 q_1 _ _ =>
        r0 p_1 q_1 true)
      r0
  else
    none
theorem spec_l01Fold_gen {α : Type} (F0 : T8 α) (G3 : Nat → Int → Int → Int → List Int → (Int → Int → Int → List Int → Option α) → (Int → Int → Bool → Option α) → Option α) (n : Nat) (list : List Int) (κ : Res → Option α) : evFn Try.prog (spec_l01Fold_XG F0 G3 n) Try.f46 (((buildDs spec_l01Fold_sh [.rows (.int .i64) list]).map Prod.fst).getD []) κ = spec_l01Fold_body F0 G3 n list (fun v1 v2 v3 => κ ⟨[.int .i64 v1, .int .i64 v2, .bool v3], []⟩) := by kernel_rfl
theorem spec_l01Fold_eq {α : Type} (n : Nat) (list : List Int) (r0 : Int → Int → Bool → Option α) : spec_l01Fold_body spec_l01Fits spec_l01Fold_l3 n list r0 = spec_l01Fold n list r0 := (spec_l01Fold_body.eq_1 spec_l01Fits spec_l01Fold_l3 n list r0).trans (spec_l01Fold.eq_1 n list r0).symm
theorem spec_l01Fold_rn {α : Type} (F : T19 α) (n : Nat) (list : List Int) (κ : Res → Option α) : spec_l01Fold_runG F n [.rows (.int .i64) list] κ = F n list (fun v1 v2 v3 => κ ⟨[.int .i64 v1, .int .i64 v2, .bool v3], []⟩) := rfl
theorem spec_l01Fold_ev {α : Type} (n : Nat) (list : List Int) (κ : Res → Option α) : evFn Try.prog (spec_l01Fold_X n) Try.f46 (((buildDs spec_l01Fold_sh [.rows (.int .i64) list]).map Prod.fst).getD []) κ = spec_l01Fold_run n [.rows (.int .i64) list] κ := (spec_l01Fold_gen spec_l01Fits spec_l01Fold_l3 n list κ).trans ((spec_l01Fold_eq n list (fun v1 v2 v3 => κ ⟨[.int .i64 v1, .int .i64 v2, .bool v3], []⟩)).trans ((spec_l01Fold_run.eq_1 n [.rows (.int .i64) list] κ).trans (spec_l01Fold_rn spec_l01Fold n list κ)).symm)
theorem spec_l01Fold_en (list : List Int) : (entry 0 (((buildDs spec_l01Fold_sh [.rows (.int .i64) list]).map Prod.fst).getD [])).map (fun x => (x.1.length, x.2.lent)) = some (1, []) := by kernel_rfl
theorem spec_l01Fold_good {α : Type} : ∀ n, GoodFn (α := α) Try.prog 46 (byShape spec_l01Fold_sh (spec_l01Fold_run n)) := by
  refine fn_good' Try.func46 (c := (Try.f46.body.getD .skip)) (by kernel_rfl) (by kernel_rfl) (by kernel_rfl) spec_l01Fold_C spec_l01Fold_M eqs spec_l01Fold_lps spec_l01Fold_jt (fun n => tabC_good (List.forall_mem_cons.2 ⟨(spec_l01Fits_good n), (fun _ h => absurd h List.not_mem_nil)⟩)) eqs_ok spec_l01Fold_Lt ?_ ?_ spec_l01Fold_sh spec_l01Fold_run ?_
  · refine List.forall_mem_cons.2 ⟨?_, (fun _ h => absurd h List.not_mem_nil)⟩
    · intro p brk ret; show spec_l01Fold_u3 0 p brk ret = none; unfold spec_l01Fold_u3 spec_l01Fold_uG3; split <;> rfl
  · refine List.forall_mem_cons.2 ⟨?_, (fun _ h => absurd h List.not_mem_nil)⟩
    · intro np lent hL n p brk ret st r hb hr
      obtain ⟨rfl, rfl⟩ := hL
      rw [← tpl_of hb]
      change spec_l01Fold_u3 (n + 1) p brk ret = some r at hr
      have hr0 := hr
      unfold spec_l01Fold_u3 spec_l01Fold_uG3 at hr
      split at hr
      · exact (spec_l01Fold_l3_ev n _ _ _ _ brk ret).trans hr0
      · cases hr
  · intro n p κ r ds hd hr
    have hr0 := hr
    unfold spec_l01Fold_run spec_l01Fold_runG at hr
    split at hr
    · rw [← ds_of hd]
      exact ⟨en_of (spec_l01Fold_en _) ⟨rfl, rfl⟩, (spec_l01Fold_ev n _ κ).trans hr0⟩
    · cases hr

/-! loop.example/g01297/spec.ConvergentsOf -/
def spec_ConvergentsOf_sh : List SkD := [.int .i64, .int .i64]
def spec_ConvergentsOf_runG {α : Type} (F : T20 α) (n : Nat) (p : List P1) (κ : Res → Option α) : Option α := match p with
  | [.int p_, .int q_] => F n p_ q_ (fun v1 => κ ⟨[.nilsl, .int .i64 v1], []⟩) (fun v1 v2 => κ ⟨[.sl 31 .pt v1, .int .i64 v2], []⟩)
  | _ => none
def spec_ConvergentsOf_run {α : Type} (n : Nat) (p : List P1) (κ : Res → Option α) : Option α := spec_ConvergentsOf_runG spec_ConvergentsOf n p κ
def spec_ConvergentsOf_CG {α : Type} (F0 : T8 α) (F1 : T7 α) (F2 : T18 α) (F3 : T19 α) (n : Nat) : FuncId → List D → (Res → Option α) → Option α := tabC [(42, (byShape spec_l01Fits_sh (spec_l01Fits_runG F0 n))), (26, (byShape spec_l01In_sh (spec_l01In_runG F1 n))), (45, (byShape spec_l01Expand_sh (spec_l01Expand_runG F2 n))), (46, (byShape spec_l01Fold_sh (spec_l01Fold_runG F3 n)))]
def spec_ConvergentsOf_C {α : Type} (n : Nat) : FuncId → List D → (Res → Option α) → Option α := spec_ConvergentsOf_CG spec_l01Fits spec_l01In spec_l01Expand spec_l01Fold n
def spec_ConvergentsOf_M : FuncId → List Nat := tabM []
def spec_ConvergentsOf_t5 : Tpl := ⟨[.any, .any, .any, .any, .any, .any, .sl 1408, .sl 1472, .int .i64, .any, .any, .any, .any, .any, .any, .any, .any, .any, .any, .any, .any, .any, .any, .any, .any, .any, .any, .any, .any, .any, .any, .any, .any, .any, .any, .any, .any, .any, .any, .any, .any, .any, .any, .any, .any], [(1408, .rows 2 2 (.int .i64)), (1472, .rows 2 31 .pt)], []⟩
def spec_ConvergentsOf_uG5 {α : Type} (G : Nat → Int → List Int → (List (Int × Int)) → (Int → List Int → (List (Int × Int)) → Option α) → (Int → Option α) → ((List (Int × Int)) → Int → Option α) → Option α) (n : Nat) (p : List P1) (brk : Nat → List P1 → Option α) (ret : Res → Option α) : Option α := match p with
  | [.int n_, .rows (.int .i64) list, .rows .pt out] => G n n_ list out (fun n_ list out => brk 0 [.int n_, .rows (.int .i64) list, .rows .pt out]) (fun v1 => ret ⟨[.nilsl, .int .i64 v1], []⟩) (fun v1 v2 => ret ⟨[.sl 31 .pt v1, .int .i64 v2], []⟩)
  | _ => none
def spec_ConvergentsOf_u5 {α : Type} (n : Nat) (p : List P1) (brk : Nat → List P1 → Option α) (ret : Res → Option α) : Option α := spec_ConvergentsOf_uG5 spec_ConvergentsOf_l5 n p brk ret
def spec_ConvergentsOf_lpsG {α : Type} (G5 : Nat → Int → List Int → (List (Int × Int)) → (Int → List Int → (List (Int × Int)) → Option α) → (Int → Option α) → ((List (Int × Int)) → Int → Option α) → Option α) : List (LoopT α) := [⟨5, spec_ConvergentsOf_t5, spec_ConvergentsOf_uG5 G5⟩]
def spec_ConvergentsOf_lps {α : Type} : List (LoopT α) := spec_ConvergentsOf_lpsG spec_ConvergentsOf_l5
def spec_ConvergentsOf_jt : Nat → Option Tpl := jtOf []
def spec_ConvergentsOf_XG {α : Type} (F0 : T8 α) (F1 : T7 α) (F2 : T18 α) (F3 : T19 α) (G5 : Nat → Int → List Int → (List (Int × Int)) → (Int → List Int → (List (Int × Int)) → Option α) → (Int → Option α) → ((List (Int × Int)) → Int → Option α) → Option α) (n : Nat) : Ctx α := ⟨spec_ConvergentsOf_CG F0 F1 F2 F3 n, spec_ConvergentsOf_M, eqs, lpOf (spec_ConvergentsOf_lpsG G5) n, spec_ConvergentsOf_jt⟩
def spec_ConvergentsOf_X {α : Type} (n : Nat) : Ctx α := spec_ConvergentsOf_XG spec_l01Fits spec_l01In spec_l01Expand spec_l01Fold spec_ConvergentsOf_l5 n
def spec_ConvergentsOf_Lt (np : Nat) (lent : List (Bool × Nat × Blk)) : Prop := np = 2 ∧ lent = []
def spec_ConvergentsOf_lb5 {α : Type} (F0 : T8 α) (F1 : T7 α) (F2 : T18 α) (F3 : T19 α) (G5 : Nat → Int → List Int → (List (Int × Int)) → (Int → List Int → (List (Int × Int)) → Option α) → (Int → Option α) → ((List (Int × Int)) → Int → Option α) → Option α) (k : Nat) (n_ : Int) (list : List Int) (out : List (Int × Int)) (b0 : Int → List Int → (List (Int × Int)) → Option α) (r0 : Int → Option α) (r1 : (List (Int × Int)) → Int → Option α) : Option α :=
  bif decide (n_ ≤ (((List.length list) : Nat) : Int)) then
    bif (decide (0 ≤ n_) && decide (n_ ≤ (((List.length list) : Nat) : Int))) then
      F3 k (List.take (n_.toNat - 0) (List.drop 0 list)) fun v3 v4 _ =>
      bif decide (((List.length out) + 1) ≤ big) then
        G5 k (w64 (n_ + 1)) list (out ++ [(v3, v4)]) b0 r0 r1
      else
        none
    else
      none
  else
    b0 n_ list out
theorem spec_ConvergentsOf_l5_gen {α : Type} (F0 : T8 α) (F1 : T7 α) (F2 : T18 α) (F3 : T19 α) (G5 : Nat → Int → List Int → (List (Int × Int)) → (Int → List Int → (List (Int × Int)) → Option α) → (Int → Option α) → ((List (Int × Int)) → Int → Option α) → Option α) (n : Nat) (n_ : Int) (list : List Int) (out : List (Int × Int)) (brk : Nat → List P1 → Option α) (ret : Res → Option α) : ev ((spec_ConvergentsOf_XG F0 F1 F2 F3 G5 n).env Try.prog Try.f31 2 []) (findLoop (loopsIn (Try.f31.body.getD .skip)) 5) ((spec_ConvergentsOf_t5.build [.int n_, .rows (.int .i64) list, .rows .pt out]).getD ⟨[], []⟩) (roundK (2 * 64) spec_ConvergentsOf_t5 (fun q => spec_ConvergentsOf_uG5 G5 n q brk ret) brk ret) = spec_ConvergentsOf_lb5 F0 F1 F2 F3 G5 n n_ list out (fun n_ list out => brk 0 [.int n_, .rows (.int .i64) list, .rows .pt out]) (fun v1 => ret ⟨[.nilsl, .int .i64 v1], []⟩) (fun v1 v2 => ret ⟨[.sl 31 .pt v1, .int .i64 v2], []⟩) := by kernel_rfl
theorem spec_ConvergentsOf_l5_eq {α : Type} (k : Nat) (n_ : Int) (list : List Int) (out : List (Int × Int)) (b0 : Int → List Int → (List (Int × Int)) → Option α) (r0 : Int → Option α) (r1 : (List (Int × Int)) → Int → Option α) : spec_ConvergentsOf_lb5 spec_l01Fits spec_l01In spec_l01Expand spec_l01Fold spec_ConvergentsOf_l5 k n_ list out b0 r0 r1 = spec_ConvergentsOf_l5 (k + 1) n_ list out b0 r0 r1 := (spec_ConvergentsOf_lb5.eq_1 spec_l01Fits spec_l01In spec_l01Expand spec_l01Fold spec_ConvergentsOf_l5 k n_ list out b0 r0 r1).trans (show spec_ConvergentsOf_l5 (k + 1) n_ list out b0 r0 r1 = _ from spec_ConvergentsOf_l5.eq_2 _ _ _ _ _ _ _ ).symm
theorem spec_ConvergentsOf_l5_rn {α : Type} (G : Nat → Int → List Int → (List (Int × Int)) → (Int → List Int → (List (Int × Int)) → Option α) → (Int → Option α) → ((List (Int × Int)) → Int → Option α) → Option α) (n : Nat) (n_ : Int) (list : List Int) (out : List (Int × Int)) (brk : Nat → List P1 → Option α) (ret : Res → Option α) : spec_ConvergentsOf_uG5 G n [.int n_, .rows (.int .i64) list, .rows .pt out] brk ret = G n n_ list out (fun n_ list out => brk 0 [.int n_, .rows (.int .i64) list, .rows .pt out]) (fun v1 => ret ⟨[.nilsl, .int .i64 v1], []⟩) (fun v1 v2 => ret ⟨[.sl 31 .pt v1, .int .i64 v2], []⟩) := rfl
theorem spec_ConvergentsOf_l5_ev {α : Type} (n : Nat) (n_ : Int) (list : List Int) (out : List (Int × Int)) (brk : Nat → List P1 → Option α) (ret : Res → Option α) : ev ((spec_ConvergentsOf_X n).env Try.prog Try.f31 2 []) (findLoop (loopsIn (Try.f31.body.getD .skip)) 5) ((spec_ConvergentsOf_t5.build [.int n_, .rows (.int .i64) list, .rows .pt out]).getD ⟨[], []⟩) (roundK (2 * 64) spec_ConvergentsOf_t5 (fun q => spec_ConvergentsOf_u5 n q brk ret) brk ret) = spec_ConvergentsOf_u5 (n + 1) [.int n_, .rows (.int .i64) list, .rows .pt out] brk ret := (spec_ConvergentsOf_l5_gen spec_l01Fits spec_l01In spec_l01Expand spec_l01Fold spec_ConvergentsOf_l5 n n_ list out brk ret).trans ((spec_ConvergentsOf_l5_eq n n_ list out (fun n_ list out => brk 0 [.int n_, .rows (.int .i64) list, .rows .pt out]) (fun v1 => ret ⟨[.nilsl, .int .i64 v1], []⟩) (fun v1 v2 => ret ⟨[.sl 31 .pt v1, .int .i64 v2], []⟩)).trans ((spec_ConvergentsOf_u5.eq_1 (n + 1) [.int n_, .rows (.int .i64) list, .rows .pt out] brk ret).trans (spec_ConvergentsOf_l5_rn spec_ConvergentsOf_l5 (n + 1) n_ list out brk ret)).symm)
def spec_ConvergentsOf_body {α : Type} (F0 : T8 α) (F1 : T7 α) (F2 : T18 α) (F3 : T19 α) (G5 : Nat → Int → List Int → (List (Int × Int)) → (Int → List Int → (List (Int × Int)) → Option α) → (Int → Option α) → ((List (Int × Int)) → Int → Option α) → Option α) (k : Nat) (p_ : Int) (q_ : Int) (r0 : Int → Option α) (r1 : (List (Int × Int)) → Int → Option α) : Option α :=
  F0 k p_ fun v =>
  bif (!v) then
    r0 2
  else
    F1 k q_ 1 1000000 fun v1 =>
    bif (!v1) then
      r0 2
    else
      F2 k p_ q_ fun v2 =>
      G5 k 1 v2 []
        (fun _ _ out1 =>
          r1 out1 0)
        r0 r1
theorem spec_ConvergentsOf_gen {α : Type} (F0 : T8 α) (F1 : T7 α) (F2 : T18 α) (F3 : T19 α) (G5 : Nat → Int → List Int → (List (Int × Int)) → (Int → List Int → (List (Int × Int)) → Option α) → (Int → Option α) → ((List (Int × Int)) → Int → Option α) → Option α) (n : Nat) (p_ : Int) (q_ : Int) (κ : Res → Option α) : evFn Try.prog (spec_ConvergentsOf_XG F0 F1 F2 F3 G5 n) Try.f31 (((buildDs spec_ConvergentsOf_sh [.int p_, .int q_]).map Prod.fst).getD []) κ = spec_ConvergentsOf_body F0 F1 F2 F3 G5 n p_ q_ (fun v1 => κ ⟨[.nilsl, .int .i64 v1], []⟩) (fun v1 v2 => κ ⟨[.sl 31 .pt v1, .int .i64 v2], []⟩) := by kernel_rfl
theorem spec_ConvergentsOf_eq {α : Type} (n : Nat) (p_ : Int) (q_ : Int) (r0 : Int → Option α) (r1 : (List (Int × Int)) → Int → Option α) : spec_ConvergentsOf_body spec_l01Fits spec_l01In spec_l01Expand spec_l01Fold spec_ConvergentsOf_l5 n p_ q_ r0 r1 = spec_ConvergentsOf n p_ q_ r0 r1 := (spec_ConvergentsOf_body.eq_1 spec_l01Fits spec_l01In spec_l01Expand spec_l01Fold spec_ConvergentsOf_l5 n p_ q_ r0 r1).trans (spec_ConvergentsOf.eq_1 n p_ q_ r0 r1).symm
theorem spec_ConvergentsOf_rn {α : Type} (F : T20 α) (n : Nat) (p_ : Int) (q_ : Int) (κ : Res → Option α) : spec_ConvergentsOf_runG F n [.int p_, .int q_] κ = F n p_ q_ (fun v1 => κ ⟨[.nilsl, .int .i64 v1], []⟩) (fun v1 v2 => κ ⟨[.sl 31 .pt v1, .int .i64 v2], []⟩) := rfl
theorem spec_ConvergentsOf_ev {α : Type} (n : Nat) (p_ : Int) (q_ : Int) (κ : Res → Option α) : evFn Try.prog (spec_ConvergentsOf_X n) Try.f31 (((buildDs spec_ConvergentsOf_sh [.int p_, .int q_]).map Prod.fst).getD []) κ = spec_ConvergentsOf_run n [.int p_, .int q_] κ := (spec_ConvergentsOf_gen spec_l01Fits spec_l01In spec_l01Expand spec_l01Fold spec_ConvergentsOf_l5 n p_ q_ κ).trans ((spec_ConvergentsOf_eq n p_ q_ (fun v1 => κ ⟨[.nilsl, .int .i64 v1], []⟩) (fun v1 v2 => κ ⟨[.sl 31 .pt v1, .int .i64 v2], []⟩)).trans ((spec_ConvergentsOf_run.eq_1 n [.int p_, .int q_] κ).trans (spec_ConvergentsOf_rn spec_ConvergentsOf n p_ q_ κ)).symm)
theorem spec_ConvergentsOf_en (p_ : Int) (q_ : Int) : (entry 0 (((buildDs spec_ConvergentsOf_sh [.int p_, .int q_]).map Prod.fst).getD [])).map (fun x => (x.1.length, x.2.lent)) = some (2, []) := by kernel_rfl
theorem spec_ConvergentsOf_good {α : Type} : ∀ n, GoodFn (α := α) Try.prog 31 (byShape spec_ConvergentsOf_sh (spec_ConvergentsOf_run n)) := by
  refine fn_good' Try.func31 (c := (Try.f31.body.getD .skip)) (by kernel_rfl) (by kernel_rfl) (by kernel_rfl) spec_ConvergentsOf_C spec_ConvergentsOf_M eqs spec_ConvergentsOf_lps spec_ConvergentsOf_jt (fun n => tabC_good (List.forall_mem_cons.2 ⟨(spec_l01Fits_good n), (List.forall_mem_cons.2 ⟨(spec_l01In_good n), (List.forall_mem_cons.2 ⟨(spec_l01Expand_good n), (List.forall_mem_cons.2 ⟨(spec_l01Fold_good n), (fun _ h => absurd h List.not_mem_nil)⟩)⟩)⟩)⟩)) eqs_ok spec_ConvergentsOf_Lt ?_ ?_ spec_ConvergentsOf_sh spec_ConvergentsOf_run ?_
  · refine List.forall_mem_cons.2 ⟨?_, (fun _ h => absurd h List.not_mem_nil)⟩
    · intro p brk ret; show spec_ConvergentsOf_u5 0 p brk ret = none; unfold spec_ConvergentsOf_u5 spec_ConvergentsOf_uG5; split <;> rfl
  · refine List.forall_mem_cons.2 ⟨?_, (fun _ h => absurd h List.not_mem_nil)⟩
    · intro np lent hL n p brk ret st r hb hr
      obtain ⟨rfl, rfl⟩ := hL
      rw [← tpl_of hb]
      change spec_ConvergentsOf_u5 (n + 1) p brk ret = some r at hr
      have hr0 := hr
      unfold spec_ConvergentsOf_u5 spec_ConvergentsOf_uG5 at hr
      split at hr
      · exact (spec_ConvergentsOf_l5_ev n _ _ _ brk ret).trans hr0
      · cases hr
  · intro n p κ r ds hd hr
    have hr0 := hr
    unfold spec_ConvergentsOf_run spec_ConvergentsOf_runG at hr
    split at hr
    · rw [← ds_of hd]
      exact ⟨en_of (spec_ConvergentsOf_en _ _) ⟨rfl, rfl⟩, (spec_ConvergentsOf_ev n _ _ κ).trans hr0⟩
    · cases hr

/-! loop.example/g01297/spec.DrawIsConvergent -/
def spec_DrawIsConvergent_sh : List SkD := [.sl 5 (.int .u8)]
def spec_DrawIsConvergent_runG {α : Type} (F : T21 α) (n : Nat) (p : List P1) (κ : Res → Option α) : Option α := match p with
  | [.rows (.int .u8) code] => F n code (fun v1 v2 v3 v4 => κ ⟨[.int .i64 v1, .int .i64 v2, .int .i64 v3, .int .i64 v4], []⟩)
  | _ => none
def spec_DrawIsConvergent_run {α : Type} (n : Nat) (p : List P1) (κ : Res → Option α) : Option α := spec_DrawIsConvergent_runG spec_DrawIsConvergent n p κ
def spec_DrawIsConvergent_CG {α : Type} (F0 : T1 α) (F1 : T4 α) (F2 : T20 α) (F3 : T2 α) (n : Nat) : FuncId → List D → (Res → Option α) → Option α := tabC [(29, (byShape spec_l01From_sh (spec_l01From_runG F0 n))), (30, (byShape spec_l10Draw_sh (spec_l10Draw_runG F1 n))), (31, (byShape spec_ConvergentsOf_sh (spec_ConvergentsOf_runG F2 n))), (32, (byShape spec_l01Next_sh (spec_l01Next_runG F3 n)))]
def spec_DrawIsConvergent_C {α : Type} (n : Nat) : FuncId → List D → (Res → Option α) → Option α := spec_DrawIsConvergent_CG spec_l01From spec_l10Draw spec_ConvergentsOf spec_l01Next n
def spec_DrawIsConvergent_M : FuncId → List Nat := tabM [(30, [1]), (32, [1])]
def spec_DrawIsConvergent_lpsG {α : Type}  : List (LoopT α) := []
def spec_DrawIsConvergent_lps {α : Type} : List (LoopT α) := spec_DrawIsConvergent_lpsG
def spec_DrawIsConvergent_jt : Nat → Option Tpl := jtOf []
def spec_DrawIsConvergent_XG {α : Type} (F0 : T1 α) (F1 : T4 α) (F2 : T20 α) (F3 : T2 α)  (n : Nat) : Ctx α := ⟨spec_DrawIsConvergent_CG F0 F1 F2 F3 n, spec_DrawIsConvergent_M, eqs, lpOf (spec_DrawIsConvergent_lpsG) n, spec_DrawIsConvergent_jt⟩
def spec_DrawIsConvergent_X {α : Type} (n : Nat) : Ctx α := spec_DrawIsConvergent_XG spec_l01From spec_l10Draw spec_ConvergentsOf spec_l01Next n
def spec_DrawIsConvergent_Lt (np : Nat) (lent : List (Bool × Nat × Blk)) : Prop := np = 1 ∧ lent = []
def spec_DrawIsConvergent_body {α : Type} (F0 : T1 α) (F1 : T4 α) (F2 : T20 α) (F3 : T2 α)  (k : Nat) (code : List Int) (r0 : Int → Int → Int → Int → Option α) : Option α :=
  F0 k code fun v v1 =>
  F1 k code v v1 fun v2 v3 v4 v5 =>
  F2 k v2 v3
    (fun v6 =>
      bif decide (v6 = 0) then
        F3 k code v4 v5 3 fun v7 v8 v9 =>
        bif decide (0 < v7) then
          F3 k code v8 v9 0 fun _ _ _ =>
          none
        else
          F1 k code v8 v9 fun v13 v14 _ _ =>
          r0 v2 v3 v13 v14
      else
        F1 k code v4 v5 fun v17 v18 _ _ =>
        r0 v2 v3 v17 v18)
    (fun v21 v22 =>
      bif decide (v22 = 0) then
        F3 k code v4 v5 3 fun v23 v24 v25 =>
        bif decide (0 < v23) then
          F3 k code v24 v25 (((List.length v21) : Nat) : Int) fun v26 _ _ =>
          bif (decide (0 ≤ v26) && decide (v26 < (((List.length v21) : Nat) : Int))) then
            (v21[v26.toNat]?).bind fun e_ =>
            r0 v2 v3 e_.1 e_.2
          else
            none
        else
          F1 k code v24 v25 fun v29 v30 _ _ =>
          r0 v2 v3 v29 v30
      else
        F1 k code v4 v5 fun v33 v34 _ _ =>
        r0 v2 v3 v33 v34)
theorem spec_DrawIsConvergent_gen {α : Type} (F0 : T1 α) (F1 : T4 α) (F2 : T20 α) (F3 : T2 α)  (n : Nat) (code : List Int) (κ : Res → Option α) : evFn Try.prog (spec_DrawIsConvergent_XG F0 F1 F2 F3 n) Try.f15 (((buildDs spec_DrawIsConvergent_sh [.rows (.int .u8) code]).map Prod.fst).getD []) κ = spec_DrawIsConvergent_body F0 F1 F2 F3 n code (fun v1 v2 v3 v4 => κ ⟨[.int .i64 v1, .int .i64 v2, .int .i64 v3, .int .i64 v4], []⟩) := by kernel_rfl
theorem spec_DrawIsConvergent_eq {α : Type} (n : Nat) (code : List Int) (r0 : Int → Int → Int → Int → Option α) : spec_DrawIsConvergent_body spec_l01From spec_l10Draw spec_ConvergentsOf spec_l01Next n code r0 = spec_DrawIsConvergent n code r0 := (spec_DrawIsConvergent_body.eq_1 spec_l01From spec_l10Draw spec_ConvergentsOf spec_l01Next n code r0).trans (spec_DrawIsConvergent.eq_1 n code r0).symm
theorem spec_DrawIsConvergent_rn {α : Type} (F : T21 α) (n : Nat) (code : List Int) (κ : Res → Option α) : spec_DrawIsConvergent_runG F n [.rows (.int .u8) code] κ = F n code (fun v1 v2 v3 v4 => κ ⟨[.int .i64 v1, .int .i64 v2, .int .i64 v3, .int .i64 v4], []⟩) := rfl
theorem spec_DrawIsConvergent_ev {α : Type} (n : Nat) (code : List Int) (κ : Res → Option α) : evFn Try.prog (spec_DrawIsConvergent_X n) Try.f15 (((buildDs spec_DrawIsConvergent_sh [.rows (.int .u8) code]).map Prod.fst).getD []) κ = spec_DrawIsConvergent_run n [.rows (.int .u8) code] κ := (spec_DrawIsConvergent_gen spec_l01From spec_l10Draw spec_ConvergentsOf spec_l01Next n code κ).trans ((spec_DrawIsConvergent_eq n code (fun v1 v2 v3 v4 => κ ⟨[.int .i64 v1, .int .i64 v2, .int .i64 v3, .int .i64 v4], []⟩)).trans ((spec_DrawIsConvergent_run.eq_1 n [.rows (.int .u8) code] κ).trans (spec_DrawIsConvergent_rn spec_DrawIsConvergent n code κ)).symm)
theorem spec_DrawIsConvergent_en (code : List Int) : (entry 0 (((buildDs spec_DrawIsConvergent_sh [.rows (.int .u8) code]).map Prod.fst).getD [])).map (fun x => (x.1.length, x.2.lent)) = some (1, []) := by kernel_rfl
theorem spec_DrawIsConvergent_good {α : Type} : ∀ n, GoodFn (α := α) Try.prog 15 (byShape spec_DrawIsConvergent_sh (spec_DrawIsConvergent_run n)) := by
  refine fn_good' Try.func15 (c := (Try.f15.body.getD .skip)) (by kernel_rfl) (by kernel_rfl) (by kernel_rfl) spec_DrawIsConvergent_C spec_DrawIsConvergent_M eqs spec_DrawIsConvergent_lps spec_DrawIsConvergent_jt (fun n => tabC_good (List.forall_mem_cons.2 ⟨(spec_l01From_good n), (List.forall_mem_cons.2 ⟨(spec_l10Draw_good n), (List.forall_mem_cons.2 ⟨(spec_ConvergentsOf_good n), (List.forall_mem_cons.2 ⟨(spec_l01Next_good n), (fun _ h => absurd h List.not_mem_nil)⟩)⟩)⟩)⟩)) eqs_ok spec_DrawIsConvergent_Lt ?_ ?_ spec_DrawIsConvergent_sh spec_DrawIsConvergent_run ?_
  · exact (fun _ h => absurd h List.not_mem_nil)
  · exact (fun _ h => absurd h List.not_mem_nil)
  · intro n p κ r ds hd hr
    have hr0 := hr
    unfold spec_DrawIsConvergent_run spec_DrawIsConvergent_runG at hr
    split at hr
    · rw [← ds_of hd]
      exact ⟨en_of (spec_DrawIsConvergent_en _) ⟨rfl, rfl⟩, (spec_DrawIsConvergent_ev n _ κ).trans hr0⟩
    · cases hr

/-! loop.example/g01297/impl.expand -/
def impl_expand_sh : List SkD := [.int .i64, .int .i64]
def impl_expand_runG {α : Type} (F : T18 α) (n : Nat) (p : List P1) (κ : Res → Option α) : Option α := match p with
  | [.int p_, .int q_] => F n p_ q_ (fun v1 => κ ⟨[.sl 2 (.int .i64) v1], []⟩)
  | _ => none
def impl_expand_run {α : Type} (n : Nat) (p : List P1) (κ : Res → Option α) : Option α := impl_expand_runG impl_expand n p κ
def impl_expand_CG {α : Type} (F0 : T10 α) (n : Nat) : FuncId → List D → (Res → Option α) → Option α := tabC [(40, (byShape impl_floor_sh (impl_floor_runG F0 n)))]
def impl_expand_C {α : Type} (n : Nat) : FuncId → List D → (Res → Option α) → Option α := impl_expand_CG impl_floor n
def impl_expand_M : FuncId → List Nat := tabM []
def impl_expand_t2 : Tpl := ⟨[.int .i64, .int .i64, .any, .any, .any, .sl 448, .any, .any, .any, .any, .any, .any, .any, .any, .any, .any, .any, .any, .any, .any, .any, .any, .any, .any], [(448, .rows 2 2 (.int .i64))], []⟩
def impl_expand_uG2 {α : Type} (G : Nat → Int → Int → List Int → (Int → Int → List Int → Option α) → (List Int → Option α) → Option α) (n : Nat) (p : List P1) (brk : Nat → List P1 → Option α) (ret : Res → Option α) : Option α := match p with
  | [.int p_1, .int q_1, .rows (.int .i64) out] => G n p_1 q_1 out (fun p_1 q_1 out => brk 0 [.int p_1, .int q_1, .rows (.int .i64) out]) (fun v1 => ret ⟨[.sl 2 (.int .i64) v1], []⟩)
  | _ => none
def impl_expand_u2 {α : Type} (n : Nat) (p : List P1) (brk : Nat → List P1 → Option α) (ret : Res → Option α) : Option α := impl_expand_uG2 impl_expand_l2 n p brk ret
def impl_expand_lpsG {α : Type} (G2 : Nat → Int → Int → List Int → (Int → Int → List Int → Option α) → (List Int → Option α) → Option α) : List (LoopT α) := [⟨2, impl_expand_t2, impl_expand_uG2 G2⟩]
def impl_expand_lps {α : Type} : List (LoopT α) := impl_expand_lpsG impl_expand_l2
def impl_expand_jt : Nat → Option Tpl := jtOf []
def impl_expand_XG {α : Type} (F0 : T10 α) (G2 : Nat → Int → Int → List Int → (Int → Int → List Int → Option α) → (List Int → Option α) → Option α) (n : Nat) : Ctx α := ⟨impl_expand_CG F0 n, impl_expand_M, eqs, lpOf (impl_expand_lpsG G2) n, impl_expand_jt⟩
def impl_expand_X {α : Type} (n : Nat) : Ctx α := impl_expand_XG impl_floor impl_expand_l2 n
def impl_expand_Lt (np : Nat) (lent : List (Bool × Nat × Blk)) : Prop := np = 2 ∧ lent = []
def impl_expand_lb2 {α : Type} (F0 : T10 α) (G2 : Nat → Int → Int → List Int → (Int → Int → List Int → Option α) → (List Int → Option α) → Option α) (k : Nat) (p_1 : Int) (q_1 : Int) (out : List Int) (b0 : Int → Int → List Int → Option α) (r0 : List Int → Option α) : Option α :=
  bif (!decide (q_1 = 0)) then
    F0 k p_1 q_1 fun v =>
    bif decide (((List.length out) + 1) ≤ big) then
      G2 k q_1 (w64 (p_1 - (w64 (v * q_1)))) (out ++ [v]) b0 r0
    else
      none
  else
    b0 p_1 q_1 out
theorem impl_expand_l2_gen {α : Type} (F0 : T10 α) (G2 : Nat → Int → Int → List Int → (Int → Int → List Int → Option α) → (List Int → Option α) → Option α) (n : Nat) (p_1 : Int) (q_1 : Int) (out : List Int) (brk : Nat → List P1 → Option α) (ret : Res → Option α) : ev ((impl_expand_XG F0 G2 n).env Try.prog Try.f49 2 []) (findLoop (loopsIn (Try.f49.body.getD .skip)) 2) ((impl_expand_t2.build [.int p_1, .int q_1, .rows (.int .i64) out]).getD ⟨[], []⟩) (roundK (2 * 64) impl_expand_t2 (fun q => impl_expand_uG2 G2 n q brk ret) brk ret) = impl_expand_lb2 F0 G2 n p_1 q_1 out (fun p_1 q_1 out => brk 0 [.int p_1, .int q_1, .rows (.int .i64) out]) (fun v1 => ret ⟨[.sl 2 (.int .i64) v1], []⟩) := by kernel_rfl
theorem impl_expand_l2_eq {α : Type} (k : Nat) (p_1 : Int) (q_1 : Int) (out : List Int) (b0 : Int → Int → List Int → Option α) (r0 : List Int → Option α) : impl_expand_lb2 impl_floor impl_expand_l2 k p_1 q_1 out b0 r0 = impl_expand_l2 (k + 1) p_1 q_1 out b0 r0 := (impl_expand_lb2.eq_1 impl_floor impl_expand_l2 k p_1 q_1 out b0 r0).trans (show impl_expand_l2 (k + 1) p_1 q_1 out b0 r0 = _ from impl_expand_l2.eq_2 _ _ _ _ _ _ ).symm
theorem impl_expand_l2_rn {α : Type} (G : Nat → Int → Int → List Int → (Int → Int → List Int → Option α) → (List Int → Option α) → Option α) (n : Nat) (p_1 : Int) (q_1 : Int) (out : List Int) (brk : Nat → List P1 → Option α) (ret : Res → Option α) : impl_expand_uG2 G n [.int p_1, .int q_1, .rows (.int .i64) out] brk ret = G n p_1 q_1 out (fun p_1 q_1 out => brk 0 [.int p_1, .int q_1, .rows (.int .i64) out]) (fun v1 => ret ⟨[.sl 2 (.int .i64) v1], []⟩) := rfl
theorem impl_expand_l2_ev {α : Type} (n : Nat) (p_1 : Int) (q_1 : Int) (out : List Int) (brk : Nat → List P1 → Option α) (ret : Res → Option α) : ev ((impl_expand_X n).env Try.prog Try.f49 2 []) (findLoop (loopsIn (Try.f49.body.getD .skip)) 2) ((impl_expand_t2.build [.int p_1, .int q_1, .rows (.int .i64) out]).getD ⟨[], []⟩) (roundK (2 * 64) impl_expand_t2 (fun q => impl_expand_u2 n q brk ret) brk ret) = impl_expand_u2 (n + 1) [.int p_1, .int q_1, .rows (.int .i64) out] brk ret := (impl_expand_l2_gen impl_floor impl_expand_l2 n p_1 q_1 out brk ret).trans ((impl_expand_l2_eq n p_1 q_1 out (fun p_1 q_1 out => brk 0 [.int p_1, .int q_1, .rows (.int .i64) out]) (fun v1 => ret ⟨[.sl 2 (.int .i64) v1], []⟩)).trans ((impl_expand_u2.eq_1 (n + 1) [.int p_1, .int q_1, .rows (.int .i64) out] brk ret).trans (impl_expand_l2_rn impl_expand_l2 (n + 1) p_1 q_1 out brk ret)).symm)
def impl_expand_body {α : Type} (F0 : T10 α) (G2 : Nat → Int → Int → List Int → (Int → Int → List Int → Option α) → (List Int → Option α) → Option α) (k : Nat) (p_ : Int) (q_ : Int) (r0 : List Int → Option α) : Option α :=
  G2 k p_ q_ []
    (fun _ _ out1 =>
      r0 out1)
    r0
theorem impl_expand_gen {α : Type} (F0 : T10 α) (G2 : Nat → Int → Int → List Int → (Int → Int → List Int → Option α) → (List Int → Option α) → Option α) (n : Nat) (p_ : Int) (q_ : Int) (κ : Res → Option α) : evFn Try.prog (impl_expand_XG F0 G2 n) Try.f49 (((buildDs impl_expand_sh [.int p_, .int q_]).map Prod.fst).getD []) κ = impl_expand_body F0 G2 n p_ q_ (fun v1 => κ ⟨[.sl 2 (.int .i64) v1], []⟩) := by kernel_rfl
theorem impl_expand_eq {α : Type} (n : Nat) (p_ : Int) (q_ : Int) (r0 : List Int → Option α) : impl_expand_body impl_floor impl_expand_l2 n p_ q_ r0 = impl_expand n p_ q_ r0 := (impl_expand_body.eq_1 impl_floor impl_expand_l2 n p_ q_ r0).trans (impl_expand.eq_1 n p_ q_ r0).symm
theorem impl_expand_rn {α : Type} (F : T18 α) (n : Nat) (p_ : Int) (q_ : Int) (κ : Res → Option α) : impl_expand_runG F n [.int p_, .int q_] κ = F n p_ q_ (fun v1 => κ ⟨[.sl 2 (.int .i64) v1], []⟩) := rfl
theorem impl_expand_ev {α : Type} (n : Nat) (p_ : Int) (q_ : Int) (κ : Res → Option α) : evFn Try.prog (impl_expand_X n) Try.f49 (((buildDs impl_expand_sh [.int p_, .int q_]).map Prod.fst).getD []) κ = impl_expand_run n [.int p_, .int q_] κ := (impl_expand_gen impl_floor impl_expand_l2 n p_ q_ κ).trans ((impl_expand_eq n p_ q_ (fun v1 => κ ⟨[.sl 2 (.int .i64) v1], []⟩)).trans ((impl_expand_run.eq_1 n [.int p_, .int q_] κ).trans (impl_expand_rn impl_expand n p_ q_ κ)).symm)
theorem impl_expand_en (p_ : Int) (q_ : Int) : (entry 0 (((buildDs impl_expand_sh [.int p_, .int q_]).map Prod.fst).getD [])).map (fun x => (x.1.length, x.2.lent)) = some (2, []) := by kernel_rfl
theorem impl_expand_good {α : Type} : ∀ n, GoodFn (α := α) Try.prog 49 (byShape impl_expand_sh (impl_expand_run n)) := by
  refine fn_good' Try.func49 (c := (Try.f49.body.getD .skip)) (by kernel_rfl) (by kernel_rfl) (by kernel_rfl) impl_expand_C impl_expand_M eqs impl_expand_lps impl_expand_jt (fun n => tabC_good (List.forall_mem_cons.2 ⟨(impl_floor_good n), (fun _ h => absurd h List.not_mem_nil)⟩)) eqs_ok impl_expand_Lt ?_ ?_ impl_expand_sh impl_expand_run ?_
  · refine List.forall_mem_cons.2 ⟨?_, (fun _ h => absurd h List.not_mem_nil)⟩
    · intro p brk ret; show impl_expand_u2 0 p brk ret = none; unfold impl_expand_u2 impl_expand_uG2; split <;> rfl
  · refine List.forall_mem_cons.2 ⟨?_, (fun _ h => absurd h List.not_mem_nil)⟩
    · intro np lent hL n p brk ret st r hb hr
      obtain ⟨rfl, rfl⟩ := hL
      rw [← tpl_of hb]
      change impl_expand_u2 (n + 1) p brk ret = some r at hr
      have hr0 := hr
      unfold impl_expand_u2 impl_expand_uG2 at hr
      split at hr
      · exact (impl_expand_l2_ev n _ _ _ brk ret).trans hr0
      · cases hr
  · intro n p κ r ds hd hr
    have hr0 := hr
    unfold impl_expand_run impl_expand_runG at hr
    split at hr
    · rw [← ds_of hd]
      exact ⟨en_of (impl_expand_en _ _) ⟨rfl, rfl⟩, (impl_expand_ev n _ _ κ).trans hr0⟩
    · cases hr

/-! (loop.example/g01297/impl.Point).plus -/
def impl_Point_plus_sh : List SkD := [.agg [.int .i64, .int .i64], .agg [.int .i64, .int .i64], .int .i64]
def impl_Point_plus_runG {α : Type} (F : T22 α) (n : Nat) (p : List P1) (κ : Res → Option α) : Option α := match p with
  | [.int a, .int a1, .int b_, .int b_1, .int k_] => F n a a1 b_ b_1 k_ (fun v1 v2 => κ ⟨[.agg [.int .i64 v1, .int .i64 v2]], []⟩)
  | _ => none
def impl_Point_plus_run {α : Type} (n : Nat) (p : List P1) (κ : Res → Option α) : Option α := impl_Point_plus_runG impl_Point_plus n p κ
def impl_Point_plus_CG {α : Type}  (n : Nat) : FuncId → List D → (Res → Option α) → Option α := tabC []
def impl_Point_plus_C {α : Type} (n : Nat) : FuncId → List D → (Res → Option α) → Option α := impl_Point_plus_CG n
def impl_Point_plus_M : FuncId → List Nat := tabM []
def impl_Point_plus_lpsG {α : Type}  : List (LoopT α) := []
def impl_Point_plus_lps {α : Type} : List (LoopT α) := impl_Point_plus_lpsG
def impl_Point_plus_jt : Nat → Option Tpl := jtOf []
def impl_Point_plus_XG {α : Type}   (n : Nat) : Ctx α := ⟨impl_Point_plus_CG n, impl_Point_plus_M, eqs, lpOf (impl_Point_plus_lpsG) n, impl_Point_plus_jt⟩
def impl_Point_plus_X {α : Type} (n : Nat) : Ctx α := impl_Point_plus_XG n
def impl_Point_plus_Lt (np : Nat) (lent : List (Bool × Nat × Blk)) : Prop := np = 3 ∧ lent = []
def impl_Point_plus_body {α : Type}   (k : Nat) (a : Int) (a1 : Int) (b_ : Int) (b_1 : Int) (k_ : Int) (r0 : Int → Int → Option α) : Option α :=
  r0 (w64 (a + (w64 (k_ * b_)))) (w64 (a1 + (w64 (k_ * b_1))))
theorem impl_Point_plus_gen {α : Type}   (n : Nat) (a : Int) (a1 : Int) (b_ : Int) (b_1 : Int) (k_ : Int) (κ : Res → Option α) : evFn Try.prog (impl_Point_plus_XG n) Try.f50 (((buildDs impl_Point_plus_sh [.int a, .int a1, .int b_, .int b_1, .int k_]).map Prod.fst).getD []) κ = impl_Point_plus_body n a a1 b_ b_1 k_ (fun v1 v2 => κ ⟨[.agg [.int .i64 v1, .int .i64 v2]], []⟩) := by kernel_rfl
theorem impl_Point_plus_eq {α : Type} (n : Nat) (a : Int) (a1 : Int) (b_ : Int) (b_1 : Int) (k_ : Int) (r0 : Int → Int → Option α) : impl_Point_plus_body n a a1 b_ b_1 k_ r0 = impl_Point_plus n a a1 b_ b_1 k_ r0 := (impl_Point_plus_body.eq_1 n a a1 b_ b_1 k_ r0).trans (impl_Point_plus.eq_1 n a a1 b_ b_1 k_ r0).symm
theorem impl_Point_plus_rn {α : Type} (F : T22 α) (n : Nat) (a : Int) (a1 : Int) (b_ : Int) (b_1 : Int) (k_ : Int) (κ : Res → Option α) : impl_Point_plus_runG F n [.int a, .int a1, .int b_, .int b_1, .int k_] κ = F n a a1 b_ b_1 k_ (fun v1 v2 => κ ⟨[.agg [.int .i64 v1, .int .i64 v2]], []⟩) := rfl
theorem impl_Point_plus_ev {α : Type} (n : Nat) (a : Int) (a1 : Int) (b_ : Int) (b_1 : Int) (k_ : Int) (κ : Res → Option α) : evFn Try.prog (impl_Point_plus_X n) Try.f50 (((buildDs impl_Point_plus_sh [.int a, .int a1, .int b_, .int b_1, .int k_]).map Prod.fst).getD []) κ = impl_Point_plus_run n [.int a, .int a1, .int b_, .int b_1, .int k_] κ := (impl_Point_plus_gen n a a1 b_ b_1 k_ κ).trans ((impl_Point_plus_eq n a a1 b_ b_1 k_ (fun v1 v2 => κ ⟨[.agg [.int .i64 v1, .int .i64 v2]], []⟩)).trans ((impl_Point_plus_run.eq_1 n [.int a, .int a1, .int b_, .int b_1, .int k_] κ).trans (impl_Point_plus_rn impl_Point_plus n a a1 b_ b_1 k_ κ)).symm)
theorem impl_Point_plus_en (a : Int) (a1 : Int) (b_ : Int) (b_1 : Int) (k_ : Int) : (entry 0 (((buildDs impl_Point_plus_sh [.int a, .int a1, .int b_, .int b_1, .int k_]).map Prod.fst).getD [])).map (fun x => (x.1.length, x.2.lent)) = some (3, []) := by kernel_rfl
theorem impl_Point_plus_good {α : Type} : ∀ n, GoodFn (α := α) Try.prog 50 (byShape impl_Point_plus_sh (impl_Point_plus_run n)) := by
  refine fn_good' Try.func50 (c := (Try.f50.body.getD .skip)) (by kernel_rfl) (by kernel_rfl) (by kernel_rfl) impl_Point_plus_C impl_Point_plus_M eqs impl_Point_plus_lps impl_Point_plus_jt (fun n => tabC_good (fun _ h => absurd h List.not_mem_nil)) eqs_ok impl_Point_plus_Lt ?_ ?_ impl_Point_plus_sh impl_Point_plus_run ?_
  · exact (fun _ h => absurd h List.not_mem_nil)
  · exact (fun _ h => absurd h List.not_mem_nil)
  · intro n p κ r ds hd hr
    have hr0 := hr
    unfold impl_Point_plus_run impl_Point_plus_runG at hr
    split at hr
    · rw [← ds_of hd]
      exact ⟨en_of (impl_Point_plus_en _ _ _ _ _) ⟨rfl, rfl⟩, (impl_Point_plus_ev n _ _ _ _ _ κ).trans hr0⟩
    · cases hr

/-! loop.example/g01297/impl.convergents -/
def impl_convergents_sh : List SkD := [.int .i64, .int .i64]
def impl_convergents_runG {α : Type} (F : T23 α) (n : Nat) (p : List P1) (κ : Res → Option α) : Option α := match p with
  | [.int p_, .int q_] => F n p_ q_ (fun v1 => κ ⟨[.sl 31 .pt v1], []⟩)
  | _ => none
def impl_convergents_run {α : Type} (n : Nat) (p : List P1) (κ : Res → Option α) : Option α := impl_convergents_runG impl_convergents n p κ
def impl_convergents_CG {α : Type} (F0 : T18 α) (F1 : T22 α) (n : Nat) : FuncId → List D → (Res → Option α) → Option α := tabC [(49, (byShape impl_expand_sh (impl_expand_runG F0 n))), (50, (byShape impl_Point_plus_sh (impl_Point_plus_runG F1 n)))]
def impl_convergents_C {α : Type} (n : Nat) : FuncId → List D → (Res → Option α) → Option α := impl_convergents_CG impl_expand impl_Point_plus n
def impl_convergents_M : FuncId → List Nat := tabM []
def impl_convergents_t3 : Tpl := ⟨[.any, .any, .any, .any, .any, .sl 640, .ptr 384 0 0, .ptr 448 0 0, .any, .any, .any, .any, .any, .any, .any, .sl 960, .int .i64, .int .i64, .any, .any, .any, .any, .any, .any, .any, .any, .any, .any, .any, .any, .any, .any], [(640, .rows 2 31 .pt), (384, .ints 2 31 .i64 2), (448, .ints 2 31 .i64 2), (960, .rows 2 2 (.int .i64))], []⟩
def impl_convergents_uG3 {α : Type} (G : Nat → Int → Int → (List (Int × Int)) → Int → Int → Int → Int → List Int → (Int → Int → (List (Int × Int)) → Int → Int → Int → Int → List Int → Option α) → ((List (Int × Int)) → Option α) → Option α) (n : Nat) (p : List P1) (brk : Nat → List P1 → Option α) (ret : Res → Option α) : Option α := match p with
  | [.int x, .int x1, .rows .pt out, .int now, .int now1, .int before, .int before1, .rows (.int .i64) x2] => G n x x1 out now now1 before before1 x2 (fun x x1 out now now1 before before1 x2 => brk 0 [.int x, .int x1, .rows .pt out, .int now, .int now1, .int before, .int before1, .rows (.int .i64) x2]) (fun v1 => ret ⟨[.sl 31 .pt v1], []⟩)
  | _ => none
def impl_convergents_u3 {α : Type} (n : Nat) (p : List P1) (brk : Nat → List P1 → Option α) (ret : Res → Option α) : Option α := impl_convergents_uG3 impl_convergents_l3 n p brk ret
def impl_convergents_lpsG {α : Type} (G3 : Nat → Int → Int → (List (Int × Int)) → Int → Int → Int → Int → List Int → (Int → Int → (List (Int × Int)) → Int → Int → Int → Int → List Int → Option α) → ((List (Int × Int)) → Option α) → Option α) : List (LoopT α) := [⟨3, impl_convergents_t3, impl_convergents_uG3 G3⟩]
def impl_convergents_lps {α : Type} : List (LoopT α) := impl_convergents_lpsG impl_convergents_l3
def impl_convergents_jt : Nat → Option Tpl := jtOf []
def impl_convergents_XG {α : Type} (F0 : T18 α) (F1 : T22 α) (G3 : Nat → Int → Int → (List (Int × Int)) → Int → Int → Int → Int → List Int → (Int → Int → (List (Int × Int)) → Int → Int → Int → Int → List Int → Option α) → ((List (Int × Int)) → Option α) → Option α) (n : Nat) : Ctx α := ⟨impl_convergents_CG F0 F1 n, impl_convergents_M, eqs, lpOf (impl_convergents_lpsG G3) n, impl_convergents_jt⟩
def impl_convergents_X {α : Type} (n : Nat) : Ctx α := impl_convergents_XG impl_expand impl_Point_plus impl_convergents_l3 n
def impl_convergents_Lt (np : Nat) (lent : List (Bool × Nat × Blk)) : Prop := np = 2 ∧ lent = []
def impl_convergents_lb3 {α : Type} (F0 : T18 α) (F1 : T22 α) (G3 : Nat → Int → Int → (List (Int × Int)) → Int → Int → Int → Int → List Int → (Int → Int → (List (Int × Int)) → Int → Int → Int → Int → List Int → Option α) → ((List (Int × Int)) → Option α) → Option α) (k : Nat) (x : Int) (x1 : Int) (out : List (Int × Int)) (now : Int) (now1 : Int) (before : Int) (before1 : Int) (x2 : List Int) (b0 : Int → Int → (List (Int × Int)) → Int → Int → Int → Int → List Int → Option α) (r0 : (List (Int × Int)) → Option α) : Option α :=
  bif decide (x1 < x) then
    bif (decide (0 ≤ x1) && decide (x1 < (((List.length x2) : Nat) : Int))) then
      (x2[x1.toNat]?).bind fun e_ =>
      F1 k before before1 now now1 e_ fun v1 v2 =>
      bif decide (((List.length out) + 1) ≤ big) then
        G3 k x (w64 (x1 + 1)) (out ++ [(v1, v2)]) v1 v2 now now1 x2 b0 r0
      else
        none
    else
      none
  else
    b0 x x1 out now now1 before before1 x2
theorem impl_convergents_l3_gen {α : Type} (F0 : T18 α) (F1 : T22 α) (G3 : Nat → Int → Int → (List (Int × Int)) → Int → Int → Int → Int → List Int → (Int → Int → (List (Int × Int)) → Int → Int → Int → Int → List Int → Option α) → ((List (Int × Int)) → Option α) → Option α) (n : Nat) (x : Int) (x1 : Int) (out : List (Int × Int)) (now : Int) (now1 : Int) (before : Int) (before1 : Int) (x2 : List Int) (brk : Nat → List P1 → Option α) (ret : Res → Option α) : ev ((impl_convergents_XG F0 F1 G3 n).env Try.prog Try.f35 2 []) (findLoop (loopsIn (Try.f35.body.getD .skip)) 3) ((impl_convergents_t3.build [.int x, .int x1, .rows .pt out, .int now, .int now1, .int before, .int before1, .rows (.int .i64) x2]).getD ⟨[], []⟩) (roundK (2 * 64) impl_convergents_t3 (fun q => impl_convergents_uG3 G3 n q brk ret) brk ret) = impl_convergents_lb3 F0 F1 G3 n x x1 out now now1 before before1 x2 (fun x x1 out now now1 before before1 x2 => brk 0 [.int x, .int x1, .rows .pt out, .int now, .int now1, .int before, .int before1, .rows (.int .i64) x2]) (fun v1 => ret ⟨[.sl 31 .pt v1], []⟩) := by kernel_rfl
theorem impl_convergents_l3_eq {α : Type} (k : Nat) (x : Int) (x1 : Int) (out : List (Int × Int)) (now : Int) (now1 : Int) (before : Int) (before1 : Int) (x2 : List Int) (b0 : Int → Int → (List (Int × Int)) → Int → Int → Int → Int → List Int → Option α) (r0 : (List (Int × Int)) → Option α) : impl_convergents_lb3 impl_expand impl_Point_plus impl_convergents_l3 k x x1 out now now1 before before1 x2 b0 r0 = impl_convergents_l3 (k + 1) x x1 out now now1 before before1 x2 b0 r0 := (impl_convergents_lb3.eq_1 impl_expand impl_Point_plus impl_convergents_l3 k x x1 out now now1 before before1 x2 b0 r0).trans (show impl_convergents_l3 (k + 1) x x1 out now now1 before before1 x2 b0 r0 = _ from impl_convergents_l3.eq_2 _ _ _ _ _ _ _ _ _ _ _ ).symm
theorem impl_convergents_l3_rn {α : Type} (G : Nat → Int → Int → (List (Int × Int)) → Int → Int → Int → Int → List Int → (Int → Int → (List (Int × Int)) → Int → Int → Int → Int → List Int → Option α) → ((List (Int × Int)) → Option α) → Option α) (n : Nat) (x : Int) (x1 : Int) (out : List (Int × Int)) (now : Int) (now1 : Int) (before : Int) (before1 : Int) (x2 : List Int) (brk : Nat → List P1 → Option α) (ret : Res → Option α) : impl_convergents_uG3 G n [.int x, .int x1, .rows .pt out, .int now, .int now1, .int before, .int before1, .rows (.int .i64) x2] brk ret = G n x x1 out now now1 before before1 x2 (fun x x1 out now now1 before before1 x2 => brk 0 [.int x, .int x1, .rows .pt out, .int now, .int now1, .int before, .int before1, .rows (.int .i64) x2]) (fun v1 => ret ⟨[.sl 31 .pt v1], []⟩) := rfl
theorem impl_convergents_l3_ev {α : Type} (n : Nat) (x : Int) (x1 : Int) (out : List (Int × Int)) (now : Int) (now1 : Int) (before : Int) (before1 : Int) (x2 : List Int) (brk : Nat → List P1 → Option α) (ret : Res → Option α) : ev ((impl_convergents_X n).env Try.prog Try.f35 2 []) (findLoop (loopsIn (Try.f35.body.getD .skip)) 3) ((impl_convergents_t3.build [.int x, .int x1, .rows .pt out, .int now, .int now1, .int before, .int before1, .rows (.int .i64) x2]).getD ⟨[], []⟩) (roundK (2 * 64) impl_convergents_t3 (fun q => impl_convergents_u3 n q brk ret) brk ret) = impl_convergents_u3 (n + 1) [.int x, .int x1, .rows .pt out, .int now, .int now1, .int before, .int before1, .rows (.int .i64) x2] brk ret := (impl_convergents_l3_gen impl_expand impl_Point_plus impl_convergents_l3 n x x1 out now now1 before before1 x2 brk ret).trans ((impl_convergents_l3_eq n x x1 out now now1 before before1 x2 (fun x x1 out now now1 before before1 x2 => brk 0 [.int x, .int x1, .rows .pt out, .int now, .int now1, .int before, .int before1, .rows (.int .i64) x2]) (fun v1 => ret ⟨[.sl 31 .pt v1], []⟩)).trans ((impl_convergents_u3.eq_1 (n + 1) [.int x, .int x1, .rows .pt out, .int now, .int now1, .int before, .int before1, .rows (.int .i64) x2] brk ret).trans (impl_convergents_l3_rn impl_convergents_l3 (n + 1) x x1 out now now1 before before1 x2 brk ret)).symm)
def impl_convergents_body {α : Type} (F0 : T18 α) (F1 : T22 α) (G3 : Nat → Int → Int → (List (Int × Int)) → Int → Int → Int → Int → List Int → (Int → Int → (List (Int × Int)) → Int → Int → Int → Int → List Int → Option α) → ((List (Int × Int)) → Option α) → Option α) (k : Nat) (p_ : Int) (q_ : Int) (r0 : (List (Int × Int)) → Option α) : Option α :=
  F0 k p_ q_ fun v =>
  G3 k (((List.length v) : Nat) : Int) 0 [] 1 0 0 1 v
    (fun _ _ out1 _ _ _ _ _ =>
      r0 out1)
    r0
theorem impl_convergents_gen {α : Type} (F0 : T18 α) (F1 : T22 α) (G3 : Nat → Int → Int → (List (Int × Int)) → Int → Int → Int → Int → List Int → (Int → Int → (List (Int × Int)) → Int → Int → Int → Int → List Int → Option α) → ((List (Int × Int)) → Option α) → Option α) (n : Nat) (p_ : Int) (q_ : Int) (κ : Res → Option α) : evFn Try.prog (impl_convergents_XG F0 F1 G3 n) Try.f35 (((buildDs impl_convergents_sh [.int p_, .int q_]).map Prod.fst).getD []) κ = impl_convergents_body F0 F1 G3 n p_ q_ (fun v1 => κ ⟨[.sl 31 .pt v1], []⟩) := by kernel_rfl
theorem impl_convergents_eq {α : Type} (n : Nat) (p_ : Int) (q_ : Int) (r0 : (List (Int × Int)) → Option α) : impl_convergents_body impl_expand impl_Point_plus impl_convergents_l3 n p_ q_ r0 = impl_convergents n p_ q_ r0 := (impl_convergents_body.eq_1 impl_expand impl_Point_plus impl_convergents_l3 n p_ q_ r0).trans (impl_convergents.eq_1 n p_ q_ r0).symm
theorem impl_convergents_rn {α : Type} (F : T23 α) (n : Nat) (p_ : Int) (q_ : Int) (κ : Res → Option α) : impl_convergents_runG F n [.int p_, .int q_] κ = F n p_ q_ (fun v1 => κ ⟨[.sl 31 .pt v1], []⟩) := rfl
theorem impl_convergents_ev {α : Type} (n : Nat) (p_ : Int) (q_ : Int) (κ : Res → Option α) : evFn Try.prog (impl_convergents_X n) Try.f35 (((buildDs impl_convergents_sh [.int p_, .int q_]).map Prod.fst).getD []) κ = impl_convergents_run n [.int p_, .int q_] κ := (impl_convergents_gen impl_expand impl_Point_plus impl_convergents_l3 n p_ q_ κ).trans ((impl_convergents_eq n p_ q_ (fun v1 => κ ⟨[.sl 31 .pt v1], []⟩)).trans ((impl_convergents_run.eq_1 n [.int p_, .int q_] κ).trans (impl_convergents_rn impl_convergents n p_ q_ κ)).symm)
theorem impl_convergents_en (p_ : Int) (q_ : Int) : (entry 0 (((buildDs impl_convergents_sh [.int p_, .int q_]).map Prod.fst).getD [])).map (fun x => (x.1.length, x.2.lent)) = some (2, []) := by kernel_rfl
theorem impl_convergents_good {α : Type} : ∀ n, GoodFn (α := α) Try.prog 35 (byShape impl_convergents_sh (impl_convergents_run n)) := by
  refine fn_good' Try.func35 (c := (Try.f35.body.getD .skip)) (by kernel_rfl) (by kernel_rfl) (by kernel_rfl) impl_convergents_C impl_convergents_M eqs impl_convergents_lps impl_convergents_jt (fun n => tabC_good (List.forall_mem_cons.2 ⟨(impl_expand_good n), (List.forall_mem_cons.2 ⟨(impl_Point_plus_good n), (fun _ h => absurd h List.not_mem_nil)⟩)⟩)) eqs_ok impl_convergents_Lt ?_ ?_ impl_convergents_sh impl_convergents_run ?_
  · refine List.forall_mem_cons.2 ⟨?_, (fun _ h => absurd h List.not_mem_nil)⟩
    · intro p brk ret; show impl_convergents_u3 0 p brk ret = none; unfold impl_convergents_u3 impl_convergents_uG3; split <;> rfl
  · refine List.forall_mem_cons.2 ⟨?_, (fun _ h => absurd h List.not_mem_nil)⟩
    · intro np lent hL n p brk ret st r hb hr
      obtain ⟨rfl, rfl⟩ := hL
      rw [← tpl_of hb]
      change impl_convergents_u3 (n + 1) p brk ret = some r at hr
      have hr0 := hr
      unfold impl_convergents_u3 impl_convergents_uG3 at hr
      split at hr
      · exact (impl_convergents_l3_ev n _ _ _ _ _ _ _ _ brk ret).trans hr0
      · cases hr
  · intro n p κ r ds hd hr
    have hr0 := hr
    unfold impl_convergents_run impl_convergents_runG at hr
    split at hr
    · rw [← ds_of hd]
      exact ⟨en_of (impl_convergents_en _ _) ⟨rfl, rfl⟩, (impl_convergents_ev n _ _ κ).trans hr0⟩
    · cases hr

/-! slices.Index[[]loop.example/g01297/impl.Point,loop.example/g01297/impl.Point] -/
def slices_Index_impl_Point_impl_Point_sh : List SkD := [.sl 31 .pt, .agg [.int .i64, .int .i64]]
def slices_Index_impl_Point_impl_Point_runG {α : Type} (F : T24 α) (n : Nat) (p : List P1) (κ : Res → Option α) : Option α := match p with
  | [.rows .pt s, .int v, .int v1] => F n s v v1 (fun v1 => κ ⟨[.int .i64 v1], []⟩)
  | _ => none
def slices_Index_impl_Point_impl_Point_run {α : Type} (n : Nat) (p : List P1) (κ : Res → Option α) : Option α := slices_Index_impl_Point_impl_Point_runG slices_Index_impl_Point_impl_Point n p κ
def slices_Index_impl_Point_impl_Point_CG {α : Type}  (n : Nat) : FuncId → List D → (Res → Option α) → Option α := tabC []
def slices_Index_impl_Point_impl_Point_C {α : Type} (n : Nat) : FuncId → List D → (Res → Option α) → Option α := slices_Index_impl_Point_impl_Point_CG n
def slices_Index_impl_Point_impl_Point_M : FuncId → List Nat := tabM []
def slices_Index_impl_Point_impl_Point_t2 : Tpl := ⟨[.sl 0, .any, .any, .ptr 192 0 0, .any, .any, .any, .int .i64, .int .i64, .any, .any, .any, .any, .any, .any, .any, .any, .any, .any], [(0, .rows 0 31 .pt), (192, .ints 2 31 .i64 2)], []⟩
def slices_Index_impl_Point_impl_Point_uG2 {α : Type} (G : Nat → Int → Int → (List (Int × Int)) → Int → Int → (Int → Int → (List (Int × Int)) → Int → Int → Option α) → (Int → Option α) → Option α) (n : Nat) (p : List P1) (brk : Nat → List P1 → Option α) (ret : Res → Option α) : Option α := match p with
  | [.int x, .int x1, .rows .pt s1, .int v2, .int v3] => G n x x1 s1 v2 v3 (fun x x1 s1 v2 v3 => brk 0 [.int x, .int x1, .rows .pt s1, .int v2, .int v3]) (fun v1 => ret ⟨[.int .i64 v1], []⟩)
  | _ => none
def slices_Index_impl_Point_impl_Point_u2 {α : Type} (n : Nat) (p : List P1) (brk : Nat → List P1 → Option α) (ret : Res → Option α) : Option α := slices_Index_impl_Point_impl_Point_uG2 slices_Index_impl_Point_impl_Point_l2 n p brk ret
def slices_Index_impl_Point_impl_Point_lpsG {α : Type} (G2 : Nat → Int → Int → (List (Int × Int)) → Int → Int → (Int → Int → (List (Int × Int)) → Int → Int → Option α) → (Int → Option α) → Option α) : List (LoopT α) := [⟨2, slices_Index_impl_Point_impl_Point_t2, slices_Index_impl_Point_impl_Point_uG2 G2⟩]
def slices_Index_impl_Point_impl_Point_lps {α : Type} : List (LoopT α) := slices_Index_impl_Point_impl_Point_lpsG slices_Index_impl_Point_impl_Point_l2
def slices_Index_impl_Point_impl_Point_jt : Nat → Option Tpl := jtOf []
def slices_Index_impl_Point_impl_Point_XG {α : Type}  (G2 : Nat → Int → Int → (List (Int × Int)) → Int → Int → (Int → Int → (List (Int × Int)) → Int → Int → Option α) → (Int → Option α) → Option α) (n : Nat) : Ctx α := ⟨slices_Index_impl_Point_impl_Point_CG n, slices_Index_impl_Point_impl_Point_M, eqs, lpOf (slices_Index_impl_Point_impl_Point_lpsG G2) n, slices_Index_impl_Point_impl_Point_jt⟩
def slices_Index_impl_Point_impl_Point_X {α : Type} (n : Nat) : Ctx α := slices_Index_impl_Point_impl_Point_XG slices_Index_impl_Point_impl_Point_l2 n
def slices_Index_impl_Point_impl_Point_Lt (np : Nat) (lent : List (Bool × Nat × Blk)) : Prop := np = 2 ∧ lent = []
def slices_Index_impl_Point_impl_Point_lb2 {α : Type}  (G2 : Nat → Int → Int → (List (Int × Int)) → Int → Int → (Int → Int → (List (Int × Int)) → Int → Int → Option α) → (Int → Option α) → Option α) (k : Nat) (x : Int) (x1 : Int) (s1 : List (Int × Int)) (v2 : Int) (v3 : Int) (b0 : Int → Int → (List (Int × Int)) → Int → Int → Option α) (r0 : Int → Option α) : Option α :=
  bif decide (x1 < x) then
    bif (decide (0 ≤ x1) && decide (x1 < (((List.length s1) : Nat) : Int))) then
      (s1[x1.toNat]?).bind fun e_ =>
      bif (decide (v2 = e_.1) && decide (v3 = e_.2)) then
        r0 x1
      else
        G2 k x (w64 (x1 + 1)) s1 v2 v3 b0 r0
    else
      none
  else
    b0 x x1 s1 v2 v3
theorem slices_Index_impl_Point_impl_Point_l2_gen {α : Type}  (G2 : Nat → Int → Int → (List (Int × Int)) → Int → Int → (Int → Int → (List (Int × Int)) → Int → Int → Option α) → (Int → Option α) → Option α) (n : Nat) (x : Int) (x1 : Int) (s1 : List (Int × Int)) (v2 : Int) (v3 : Int) (brk : Nat → List P1 → Option α) (ret : Res → Option α) : ev ((slices_Index_impl_Point_impl_Point_XG G2 n).env Try.prog Try.f48 2 []) (findLoop (loopsIn (Try.f48.body.getD .skip)) 2) ((slices_Index_impl_Point_impl_Point_t2.build [.int x, .int x1, .rows .pt s1, .int v2, .int v3]).getD ⟨[], []⟩) (roundK (2 * 64) slices_Index_impl_Point_impl_Point_t2 (fun q => slices_Index_impl_Point_impl_Point_uG2 G2 n q brk ret) brk ret) = slices_Index_impl_Point_impl_Point_lb2 G2 n x x1 s1 v2 v3 (fun x x1 s1 v2 v3 => brk 0 [.int x, .int x1, .rows .pt s1, .int v2, .int v3]) (fun v1 => ret ⟨[.int .i64 v1], []⟩) := by kernel_rfl
theorem slices_Index_impl_Point_impl_Point_l2_eq {α : Type} (k : Nat) (x : Int) (x1 : Int) (s1 : List (Int × Int)) (v2 : Int) (v3 : Int) (b0 : Int → Int → (List (Int × Int)) → Int → Int → Option α) (r0 : Int → Option α) : slices_Index_impl_Point_impl_Point_lb2 slices_Index_impl_Point_impl_Point_l2 k x x1 s1 v2 v3 b0 r0 = slices_Index_impl_Point_impl_Point_l2 (k + 1) x x1 s1 v2 v3 b0 r0 := (slices_Index_impl_Point_impl_Point_lb2.eq_1 slices_Index_impl_Point_impl_Point_l2 k x x1 s1 v2 v3 b0 r0).trans (show slices_Index_impl_Point_impl_Point_l2 (k + 1) x x1 s1 v2 v3 b0 r0 = _ from slices_Index_impl_Point_impl_Point_l2.eq_2 _ _ _ _ _ _ _ _ ).symm
theorem slices_Index_impl_Point_impl_Point_l2_rn {α : Type} (G : Nat → Int → Int → (List (Int × Int)) → Int → Int → (Int → Int → (List (Int × Int)) → Int → Int → Option α) → (Int → Option α) → Option α) (n : Nat) (x : Int) (x1 : Int) (s1 : List (Int × Int)) (v2 : Int) (v3 : Int) (brk : Nat → List P1 → Option α) (ret : Res → Option α) : slices_Index_impl_Point_impl_Point_uG2 G n [.int x, .int x1, .rows .pt s1, .int v2, .int v3] brk ret = G n x x1 s1 v2 v3 (fun x x1 s1 v2 v3 => brk 0 [.int x, .int x1, .rows .pt s1, .int v2, .int v3]) (fun v1 => ret ⟨[.int .i64 v1], []⟩) := rfl
theorem slices_Index_impl_Point_impl_Point_l2_ev {α : Type} (n : Nat) (x : Int) (x1 : Int) (s1 : List (Int × Int)) (v2 : Int) (v3 : Int) (brk : Nat → List P1 → Option α) (ret : Res → Option α) : ev ((slices_Index_impl_Point_impl_Point_X n).env Try.prog Try.f48 2 []) (findLoop (loopsIn (Try.f48.body.getD .skip)) 2) ((slices_Index_impl_Point_impl_Point_t2.build [.int x, .int x1, .rows .pt s1, .int v2, .int v3]).getD ⟨[], []⟩) (roundK (2 * 64) slices_Index_impl_Point_impl_Point_t2 (fun q => slices_Index_impl_Point_impl_Point_u2 n q brk ret) brk ret) = slices_Index_impl_Point_impl_Point_u2 (n + 1) [.int x, .int x1, .rows .pt s1, .int v2, .int v3] brk ret := (slices_Index_impl_Point_impl_Point_l2_gen slices_Index_impl_Point_impl_Point_l2 n x x1 s1 v2 v3 brk ret).trans ((slices_Index_impl_Point_impl_Point_l2_eq n x x1 s1 v2 v3 (fun x x1 s1 v2 v3 => brk 0 [.int x, .int x1, .rows .pt s1, .int v2, .int v3]) (fun v1 => ret ⟨[.int .i64 v1], []⟩)).trans ((slices_Index_impl_Point_impl_Point_u2.eq_1 (n + 1) [.int x, .int x1, .rows .pt s1, .int v2, .int v3] brk ret).trans (slices_Index_impl_Point_impl_Point_l2_rn slices_Index_impl_Point_impl_Point_l2 (n + 1) x x1 s1 v2 v3 brk ret)).symm)
def slices_Index_impl_Point_impl_Point_body {α : Type}  (G2 : Nat → Int → Int → (List (Int × Int)) → Int → Int → (Int → Int → (List (Int × Int)) → Int → Int → Option α) → (Int → Option α) → Option α) (k : Nat) (s : List (Int × Int)) (v : Int) (v1 : Int) (r0 : Int → Option α) : Option α :=
  G2 k (((List.length s) : Nat) : Int) 0 s v v1
    (fun _ _ _ _ _ =>
      r0 (-1))
    r0
theorem slices_Index_impl_Point_impl_Point_gen {α : Type}  (G2 : Nat → Int → Int → (List (Int × Int)) → Int → Int → (Int → Int → (List (Int × Int)) → Int → Int → Option α) → (Int → Option α) → Option α) (n : Nat) (s : List (Int × Int)) (v : Int) (v1 : Int) (κ : Res → Option α) : evFn Try.prog (slices_Index_impl_Point_impl_Point_XG G2 n) Try.f48 (((buildDs slices_Index_impl_Point_impl_Point_sh [.rows .pt s, .int v, .int v1]).map Prod.fst).getD []) κ = slices_Index_impl_Point_impl_Point_body G2 n s v v1 (fun v1 => κ ⟨[.int .i64 v1], []⟩) := by kernel_rfl
theorem slices_Index_impl_Point_impl_Point_eq {α : Type} (n : Nat) (s : List (Int × Int)) (v : Int) (v1 : Int) (r0 : Int → Option α) : slices_Index_impl_Point_impl_Point_body slices_Index_impl_Point_impl_Point_l2 n s v v1 r0 = slices_Index_impl_Point_impl_Point n s v v1 r0 := (slices_Index_impl_Point_impl_Point_body.eq_1 slices_Index_impl_Point_impl_Point_l2 n s v v1 r0).trans (slices_Index_impl_Point_impl_Point.eq_1 n s v v1 r0).symm
theorem slices_Index_impl_Point_impl_Point_rn {α : Type} (F : T24 α) (n : Nat) (s : List (Int × Int)) (v : Int) (v1 : Int) (κ : Res → Option α) : slices_Index_impl_Point_impl_Point_runG F n [.rows .pt s, .int v, .int v1] κ = F n s v v1 (fun v1 => κ ⟨[.int .i64 v1], []⟩) := rfl
theorem slices_Index_impl_Point_impl_Point_ev {α : Type} (n : Nat) (s : List (Int × Int)) (v : Int) (v1 : Int) (κ : Res → Option α) : evFn Try.prog (slices_Index_impl_Point_impl_Point_X n) Try.f48 (((buildDs slices_Index_impl_Point_impl_Point_sh [.rows .pt s, .int v, .int v1]).map Prod.fst).getD []) κ = slices_Index_impl_Point_impl_Point_run n [.rows .pt s, .int v, .int v1] κ := (slices_Index_impl_Point_impl_Point_gen slices_Index_impl_Point_impl_Point_l2 n s v v1 κ).trans ((slices_Index_impl_Point_impl_Point_eq n s v v1 (fun v1 => κ ⟨[.int .i64 v1], []⟩)).trans ((slices_Index_impl_Point_impl_Point_run.eq_1 n [.rows .pt s, .int v, .int v1] κ).trans (slices_Index_impl_Point_impl_Point_rn slices_Index_impl_Point_impl_Point n s v v1 κ)).symm)
theorem slices_Index_impl_Point_impl_Point_en (s : List (Int × Int)) (v : Int) (v1 : Int) : (entry 0 (((buildDs slices_Index_impl_Point_impl_Point_sh [.rows .pt s, .int v, .int v1]).map Prod.fst).getD [])).map (fun x => (x.1.length, x.2.lent)) = some (2, []) := by kernel_rfl
theorem slices_Index_impl_Point_impl_Point_good {α : Type} : ∀ n, GoodFn (α := α) Try.prog 48 (byShape slices_Index_impl_Point_impl_Point_sh (slices_Index_impl_Point_impl_Point_run n)) := by
  refine fn_good' Try.func48 (c := (Try.f48.body.getD .skip)) (by kernel_rfl) (by kernel_rfl) (by kernel_rfl) slices_Index_impl_Point_impl_Point_C slices_Index_impl_Point_impl_Point_M eqs slices_Index_impl_Point_impl_Point_lps slices_Index_impl_Point_impl_Point_jt (fun n => tabC_good (fun _ h => absurd h List.not_mem_nil)) eqs_ok slices_Index_impl_Point_impl_Point_Lt ?_ ?_ slices_Index_impl_Point_impl_Point_sh slices_Index_impl_Point_impl_Point_run ?_
  · refine List.forall_mem_cons.2 ⟨?_, (fun _ h => absurd h List.not_mem_nil)⟩
    · intro p brk ret; show slices_Index_impl_Point_impl_Point_u2 0 p brk ret = none; unfold slices_Index_impl_Point_impl_Point_u2 slices_Index_impl_Point_impl_Point_uG2; split <;> rfl
  · refine List.forall_mem_cons.2 ⟨?_, (fun _ h => absurd h List.not_mem_nil)⟩
    · intro np lent hL n p brk ret st r hb hr
      obtain ⟨rfl, rfl⟩ := hL
      rw [← tpl_of hb]
      change slices_Index_impl_Point_impl_Point_u2 (n + 1) p brk ret = some r at hr
      have hr0 := hr
      unfold slices_Index_impl_Point_impl_Point_u2 slices_Index_impl_Point_impl_Point_uG2 at hr
      split at hr
      · exact (slices_Index_impl_Point_impl_Point_l2_ev n _ _ _ _ _ brk ret).trans hr0
      · cases hr
  · intro n p κ r ds hd hr
    have hr0 := hr
    unfold slices_Index_impl_Point_impl_Point_run slices_Index_impl_Point_impl_Point_runG at hr
    split at hr
    · rw [← ds_of hd]
      exact ⟨en_of (slices_Index_impl_Point_impl_Point_en _ _ _) ⟨rfl, rfl⟩, (slices_Index_impl_Point_impl_Point_ev n _ _ _ κ).trans hr0⟩
    · cases hr

/-! slices.Contains[[]loop.example/g01297/impl.Point,loop.example/g01297/impl.Point] -/
def slices_Contains_impl_Point_impl_Point_sh : List SkD := [.sl 31 .pt, .agg [.int .i64, .int .i64]]
def slices_Contains_impl_Point_impl_Point_runG {α : Type} (F : T25 α) (n : Nat) (p : List P1) (κ : Res → Option α) : Option α := match p with
  | [.rows .pt s, .int v, .int v1] => F n s v v1 (fun v1 => κ ⟨[.bool v1], []⟩)
  | _ => none
def slices_Contains_impl_Point_impl_Point_run {α : Type} (n : Nat) (p : List P1) (κ : Res → Option α) : Option α := slices_Contains_impl_Point_impl_Point_runG slices_Contains_impl_Point_impl_Point n p κ
def slices_Contains_impl_Point_impl_Point_CG {α : Type} (F0 : T24 α) (n : Nat) : FuncId → List D → (Res → Option α) → Option α := tabC [(48, (byShape slices_Index_impl_Point_impl_Point_sh (slices_Index_impl_Point_impl_Point_runG F0 n)))]
def slices_Contains_impl_Point_impl_Point_C {α : Type} (n : Nat) : FuncId → List D → (Res → Option α) → Option α := slices_Contains_impl_Point_impl_Point_CG slices_Index_impl_Point_impl_Point n
def slices_Contains_impl_Point_impl_Point_M : FuncId → List Nat := tabM []
def slices_Contains_impl_Point_impl_Point_lpsG {α : Type}  : List (LoopT α) := []
def slices_Contains_impl_Point_impl_Point_lps {α : Type} : List (LoopT α) := slices_Contains_impl_Point_impl_Point_lpsG
def slices_Contains_impl_Point_impl_Point_jt : Nat → Option Tpl := jtOf []
def slices_Contains_impl_Point_impl_Point_XG {α : Type} (F0 : T24 α)  (n : Nat) : Ctx α := ⟨slices_Contains_impl_Point_impl_Point_CG F0 n, slices_Contains_impl_Point_impl_Point_M, eqs, lpOf (slices_Contains_impl_Point_impl_Point_lpsG) n, slices_Contains_impl_Point_impl_Point_jt⟩
def slices_Contains_impl_Point_impl_Point_X {α : Type} (n : Nat) : Ctx α := slices_Contains_impl_Point_impl_Point_XG slices_Index_impl_Point_impl_Point n
def slices_Contains_impl_Point_impl_Point_Lt (np : Nat) (lent : List (Bool × Nat × Blk)) : Prop := np = 2 ∧ lent = []
def slices_Contains_impl_Point_impl_Point_body {α : Type} (F0 : T24 α)  (k : Nat) (s : List (Int × Int)) (v : Int) (v1 : Int) (r0 : Bool → Option α) : Option α :=
  F0 k s v v1 fun v2 =>
  r0 (decide (0 ≤ v2))
theorem slices_Contains_impl_Point_impl_Point_gen {α : Type} (F0 : T24 α)  (n : Nat) (s : List (Int × Int)) (v : Int) (v1 : Int) (κ : Res → Option α) : evFn Try.prog (slices_Contains_impl_Point_impl_Point_XG F0 n) Try.f34 (((buildDs slices_Contains_impl_Point_impl_Point_sh [.rows .pt s, .int v, .int v1]).map Prod.fst).getD []) κ = slices_Contains_impl_Point_impl_Point_body F0 n s v v1 (fun v1 => κ ⟨[.bool v1], []⟩) := by kernel_rfl
theorem slices_Contains_impl_Point_impl_Point_eq {α : Type} (n : Nat) (s : List (Int × Int)) (v : Int) (v1 : Int) (r0 : Bool → Option α) : slices_Contains_impl_Point_impl_Point_body slices_Index_impl_Point_impl_Point n s v v1 r0 = slices_Contains_impl_Point_impl_Point n s v v1 r0 := (slices_Contains_impl_Point_impl_Point_body.eq_1 slices_Index_impl_Point_impl_Point n s v v1 r0).trans (slices_Contains_impl_Point_impl_Point.eq_1 n s v v1 r0).symm
theorem slices_Contains_impl_Point_impl_Point_rn {α : Type} (F : T25 α) (n : Nat) (s : List (Int × Int)) (v : Int) (v1 : Int) (κ : Res → Option α) : slices_Contains_impl_Point_impl_Point_runG F n [.rows .pt s, .int v, .int v1] κ = F n s v v1 (fun v1 => κ ⟨[.bool v1], []⟩) := rfl
theorem slices_Contains_impl_Point_impl_Point_ev {α : Type} (n : Nat) (s : List (Int × Int)) (v : Int) (v1 : Int) (κ : Res → Option α) : evFn Try.prog (slices_Contains_impl_Point_impl_Point_X n) Try.f34 (((buildDs slices_Contains_impl_Point_impl_Point_sh [.rows .pt s, .int v, .int v1]).map Prod.fst).getD []) κ = slices_Contains_impl_Point_impl_Point_run n [.rows .pt s, .int v, .int v1] κ := (slices_Contains_impl_Point_impl_Point_gen slices_Index_impl_Point_impl_Point n s v v1 κ).trans ((slices_Contains_impl_Point_impl_Point_eq n s v v1 (fun v1 => κ ⟨[.bool v1], []⟩)).trans ((slices_Contains_impl_Point_impl_Point_run.eq_1 n [.rows .pt s, .int v, .int v1] κ).trans (slices_Contains_impl_Point_impl_Point_rn slices_Contains_impl_Point_impl_Point n s v v1 κ)).symm)
theorem slices_Contains_impl_Point_impl_Point_en (s : List (Int × Int)) (v : Int) (v1 : Int) : (entry 0 (((buildDs slices_Contains_impl_Point_impl_Point_sh [.rows .pt s, .int v, .int v1]).map Prod.fst).getD [])).map (fun x => (x.1.length, x.2.lent)) = some (2, []) := by kernel_rfl
theorem slices_Contains_impl_Point_impl_Point_good {α : Type} : ∀ n, GoodFn (α := α) Try.prog 34 (byShape slices_Contains_impl_Point_impl_Point_sh (slices_Contains_impl_Point_impl_Point_run n)) := by
  refine fn_good' Try.func34 (c := (Try.f34.body.getD .skip)) (by kernel_rfl) (by kernel_rfl) (by kernel_rfl) slices_Contains_impl_Point_impl_Point_C slices_Contains_impl_Point_impl_Point_M eqs slices_Contains_impl_Point_impl_Point_lps slices_Contains_impl_Point_impl_Point_jt (fun n => tabC_good (List.forall_mem_cons.2 ⟨(slices_Index_impl_Point_impl_Point_good n), (fun _ h => absurd h List.not_mem_nil)⟩)) eqs_ok slices_Contains_impl_Point_impl_Point_Lt ?_ ?_ slices_Contains_impl_Point_impl_Point_sh slices_Contains_impl_Point_impl_Point_run ?_
  · exact (fun _ h => absurd h List.not_mem_nil)
  · exact (fun _ h => absurd h List.not_mem_nil)
  · intro n p κ r ds hd hr
    have hr0 := hr
    unfold slices_Contains_impl_Point_impl_Point_run slices_Contains_impl_Point_impl_Point_runG at hr
    split at hr
    · rw [← ds_of hd]
      exact ⟨en_of (slices_Contains_impl_Point_impl_Point_en _ _ _) ⟨rfl, rfl⟩, (slices_Contains_impl_Point_impl_Point_ev n _ _ _ κ).trans hr0⟩
    · cases hr

/-! loop.example/g01297/impl.IsConvergent -/
def impl_IsConvergent_sh : List SkD := [.int .i64, .int .i64, .int .i64, .int .i64]
def impl_IsConvergent_runG {α : Type} (F : T26 α) (n : Nat) (p : List P1) (κ : Res → Option α) : Option α := match p with
  | [.int p_, .int q_, .int r_, .int s] => F n p_ q_ r_ s (fun v1 v2 => κ ⟨[.bool v1, .int .i64 v2], []⟩)
  | _ => none
def impl_IsConvergent_run {α : Type} (n : Nat) (p : List P1) (κ : Res → Option α) : Option α := impl_IsConvergent_runG impl_IsConvergent n p κ
def impl_IsConvergent_CG {α : Type} (F0 : T9 α) (F1 : T23 α) (F2 : T25 α) (n : Nat) : FuncId → List D → (Res → Option α) → Option α := tabC [(33, (byShape impl_ratioOk_sh (impl_ratioOk_runG F0 n))), (35, (byShape impl_convergents_sh (impl_convergents_runG F1 n))), (34, (byShape slices_Contains_impl_Point_impl_Point_sh (slices_Contains_impl_Point_impl_Point_runG F2 n)))]
def impl_IsConvergent_C {α : Type} (n : Nat) : FuncId → List D → (Res → Option α) → Option α := impl_IsConvergent_CG impl_ratioOk impl_convergents slices_Contains_impl_Point_impl_Point n
def impl_IsConvergent_M : FuncId → List Nat := tabM []
def impl_IsConvergent_lpsG {α : Type}  : List (LoopT α) := []
def impl_IsConvergent_lps {α : Type} : List (LoopT α) := impl_IsConvergent_lpsG
def impl_IsConvergent_jt : Nat → Option Tpl := jtOf []
def impl_IsConvergent_XG {α : Type} (F0 : T9 α) (F1 : T23 α) (F2 : T25 α)  (n : Nat) : Ctx α := ⟨impl_IsConvergent_CG F0 F1 F2 n, impl_IsConvergent_M, eqs, lpOf (impl_IsConvergent_lpsG) n, impl_IsConvergent_jt⟩
def impl_IsConvergent_X {α : Type} (n : Nat) : Ctx α := impl_IsConvergent_XG impl_ratioOk impl_convergents slices_Contains_impl_Point_impl_Point n
def impl_IsConvergent_Lt (np : Nat) (lent : List (Bool × Nat × Blk)) : Prop := np = 4 ∧ lent = []
def impl_IsConvergent_body {α : Type} (F0 : T9 α) (F1 : T23 α) (F2 : T25 α)  (k : Nat) (p_ : Int) (q_ : Int) (r_ : Int) (s : Int) (r0 : Bool → Int → Option α) : Option α :=
  F0 k p_ q_ fun v =>
  bif (!v) then
    r0 false 2
  else
    F0 k r_ s fun v1 =>
    bif (!v1) then
      r0 false 2
    else
      F1 k p_ q_ fun v2 =>
      F2 k v2 r_ s fun v3 =>
      r0 v3 0
theorem impl_IsConvergent_gen {α : Type} (F0 : T9 α) (F1 : T23 α) (F2 : T25 α)  (n : Nat) (p_ : Int) (q_ : Int) (r_ : Int) (s : Int) (κ : Res → Option α) : evFn Try.prog (impl_IsConvergent_XG F0 F1 F2 n) Try.f16 (((buildDs impl_IsConvergent_sh [.int p_, .int q_, .int r_, .int s]).map Prod.fst).getD []) κ = impl_IsConvergent_body F0 F1 F2 n p_ q_ r_ s (fun v1 v2 => κ ⟨[.bool v1, .int .i64 v2], []⟩) := by kernel_rfl
theorem impl_IsConvergent_eq {α : Type} (n : Nat) (p_ : Int) (q_ : Int) (r_ : Int) (s : Int) (r0 : Bool → Int → Option α) : impl_IsConvergent_body impl_ratioOk impl_convergents slices_Contains_impl_Point_impl_Point n p_ q_ r_ s r0 = impl_IsConvergent n p_ q_ r_ s r0 := (impl_IsConvergent_body.eq_1 impl_ratioOk impl_convergents slices_Contains_impl_Point_impl_Point n p_ q_ r_ s r0).trans (impl_IsConvergent.eq_1 n p_ q_ r_ s r0).symm
theorem impl_IsConvergent_rn {α : Type} (F : T26 α) (n : Nat) (p_ : Int) (q_ : Int) (r_ : Int) (s : Int) (κ : Res → Option α) : impl_IsConvergent_runG F n [.int p_, .int q_, .int r_, .int s] κ = F n p_ q_ r_ s (fun v1 v2 => κ ⟨[.bool v1, .int .i64 v2], []⟩) := rfl
theorem impl_IsConvergent_ev {α : Type} (n : Nat) (p_ : Int) (q_ : Int) (r_ : Int) (s : Int) (κ : Res → Option α) : evFn Try.prog (impl_IsConvergent_X n) Try.f16 (((buildDs impl_IsConvergent_sh [.int p_, .int q_, .int r_, .int s]).map Prod.fst).getD []) κ = impl_IsConvergent_run n [.int p_, .int q_, .int r_, .int s] κ := (impl_IsConvergent_gen impl_ratioOk impl_convergents slices_Contains_impl_Point_impl_Point n p_ q_ r_ s κ).trans ((impl_IsConvergent_eq n p_ q_ r_ s (fun v1 v2 => κ ⟨[.bool v1, .int .i64 v2], []⟩)).trans ((impl_IsConvergent_run.eq_1 n [.int p_, .int q_, .int r_, .int s] κ).trans (impl_IsConvergent_rn impl_IsConvergent n p_ q_ r_ s κ)).symm)
theorem impl_IsConvergent_en (p_ : Int) (q_ : Int) (r_ : Int) (s : Int) : (entry 0 (((buildDs impl_IsConvergent_sh [.int p_, .int q_, .int r_, .int s]).map Prod.fst).getD [])).map (fun x => (x.1.length, x.2.lent)) = some (4, []) := by kernel_rfl
theorem impl_IsConvergent_good {α : Type} : ∀ n, GoodFn (α := α) Try.prog 16 (byShape impl_IsConvergent_sh (impl_IsConvergent_run n)) := by
  refine fn_good' Try.func16 (c := (Try.f16.body.getD .skip)) (by kernel_rfl) (by kernel_rfl) (by kernel_rfl) impl_IsConvergent_C impl_IsConvergent_M eqs impl_IsConvergent_lps impl_IsConvergent_jt (fun n => tabC_good (List.forall_mem_cons.2 ⟨(impl_ratioOk_good n), (List.forall_mem_cons.2 ⟨(impl_convergents_good n), (List.forall_mem_cons.2 ⟨(slices_Contains_impl_Point_impl_Point_good n), (fun _ h => absurd h List.not_mem_nil)⟩)⟩)⟩)) eqs_ok impl_IsConvergent_Lt ?_ ?_ impl_IsConvergent_sh impl_IsConvergent_run ?_
  · exact (fun _ h => absurd h List.not_mem_nil)
  · exact (fun _ h => absurd h List.not_mem_nil)
  · intro n p κ r ds hd hr
    have hr0 := hr
    unfold impl_IsConvergent_run impl_IsConvergent_runG at hr
    split at hr
    · rw [← ds_of hd]
      exact ⟨en_of (impl_IsConvergent_en _ _ _ _) ⟨rfl, rfl⟩, (impl_IsConvergent_ev n _ _ _ _ κ).trans hr0⟩
    · cases hr

/-! loop.example/g01297/spec.IsConvergent -/
def spec_IsConvergent_sh : List SkD := [.int .i64, .int .i64, .int .i64, .int .i64]
def spec_IsConvergent_runG {α : Type} (F : T26 α) (n : Nat) (p : List P1) (κ : Res → Option α) : Option α := match p with
  | [.int p_, .int q_, .int r_, .int s] => F n p_ q_ r_ s (fun v1 v2 => κ ⟨[.bool v1, .int .i64 v2], []⟩)
  | _ => none
def spec_IsConvergent_run {α : Type} (n : Nat) (p : List P1) (κ : Res → Option α) : Option α := spec_IsConvergent_runG spec_IsConvergent n p κ
def spec_IsConvergent_CG {α : Type} (F0 : T7 α) (F1 : T20 α) (n : Nat) : FuncId → List D → (Res → Option α) → Option α := tabC [(25, (byShape spec_l10Ratio_sh (spec_l10Ratio_runG F0 n))), (31, (byShape spec_ConvergentsOf_sh (spec_ConvergentsOf_runG F1 n)))]
def spec_IsConvergent_C {α : Type} (n : Nat) : FuncId → List D → (Res → Option α) → Option α := spec_IsConvergent_CG spec_l10Ratio spec_ConvergentsOf n
def spec_IsConvergent_M : FuncId → List Nat := tabM []
def spec_IsConvergent_t5 : Tpl := ⟨[.any, .any, .int .i64, .int .i64, .any, .any, .any, .any, .any, .any, .sl 1664, .any, .int .i64, .any, .any, .any, .any, .any, .any, .any, .any, .any, .any, .any, .any, .any, .any, .any, .any, .any, .any, .any, .any, .any, .any, .any, .any, .any, .any, .any, .any, .any, .any], [(1664, .rows 2 31 .pt)], [(10, 1664, 31, .pt)]⟩
def spec_IsConvergent_uG5 {α : Type} (G : Nat → Int → Int → Int → (List (Int × Int)) → (Int → Int → Int → (List (Int × Int)) → Option α) → (Bool → Int → Option α) → Option α) (n : Nat) (p : List P1) (brk : Nat → List P1 → Option α) (ret : Res → Option α) : Option α := match p with
  | [.int r_1, .int s1, .int i, .rows .pt list] => G n r_1 s1 i list (fun r_1 s1 i list => brk 0 [.int r_1, .int s1, .int i, .rows .pt list]) (fun v1 v2 => ret ⟨[.bool v1, .int .i64 v2], []⟩)
  | _ => none
def spec_IsConvergent_u5 {α : Type} (n : Nat) (p : List P1) (brk : Nat → List P1 → Option α) (ret : Res → Option α) : Option α := spec_IsConvergent_uG5 spec_IsConvergent_l5 n p brk ret
def spec_IsConvergent_lpsG {α : Type} (G5 : Nat → Int → Int → Int → (List (Int × Int)) → (Int → Int → Int → (List (Int × Int)) → Option α) → (Bool → Int → Option α) → Option α) : List (LoopT α) := [⟨5, spec_IsConvergent_t5, spec_IsConvergent_uG5 G5⟩]
def spec_IsConvergent_lps {α : Type} : List (LoopT α) := spec_IsConvergent_lpsG spec_IsConvergent_l5
def spec_IsConvergent_jt : Nat → Option Tpl := jtOf []
def spec_IsConvergent_XG {α : Type} (F0 : T7 α) (F1 : T20 α) (G5 : Nat → Int → Int → Int → (List (Int × Int)) → (Int → Int → Int → (List (Int × Int)) → Option α) → (Bool → Int → Option α) → Option α) (n : Nat) : Ctx α := ⟨spec_IsConvergent_CG F0 F1 n, spec_IsConvergent_M, eqs, lpOf (spec_IsConvergent_lpsG G5) n, spec_IsConvergent_jt⟩
def spec_IsConvergent_X {α : Type} (n : Nat) : Ctx α := spec_IsConvergent_XG spec_l10Ratio spec_ConvergentsOf spec_IsConvergent_l5 n
def spec_IsConvergent_Lt (np : Nat) (lent : List (Bool × Nat × Blk)) : Prop := np = 4 ∧ lent = []
def spec_IsConvergent_lb5 {α : Type} (F0 : T7 α) (F1 : T20 α) (G5 : Nat → Int → Int → Int → (List (Int × Int)) → (Int → Int → Int → (List (Int × Int)) → Option α) → (Bool → Int → Option α) → Option α) (k : Nat) (r_1 : Int) (s1 : Int) (i : Int) (list : List (Int × Int)) (b0 : Int → Int → Int → (List (Int × Int)) → Option α) (r0 : Bool → Int → Option α) : Option α :=
  bif decide (i < (((List.length list) : Nat) : Int)) then
    bif (decide (0 ≤ i) && decide (i < (((List.length list) : Nat) : Int))) then
      (list[i.toNat]?).bind fun e_ =>
      bif (decide (e_.1 = r_1) && decide (e_.2 = s1)) then
        r0 true 0
      else
        G5 k r_1 s1 (w64 (i + 1)) list b0 r0
    else
      none
  else
    b0 r_1 s1 i list
theorem spec_IsConvergent_l5_gen {α : Type} (F0 : T7 α) (F1 : T20 α) (G5 : Nat → Int → Int → Int → (List (Int × Int)) → (Int → Int → Int → (List (Int × Int)) → Option α) → (Bool → Int → Option α) → Option α) (n : Nat) (r_1 : Int) (s1 : Int) (i : Int) (list : List (Int × Int)) (brk : Nat → List P1 → Option α) (ret : Res → Option α) : ev ((spec_IsConvergent_XG F0 F1 G5 n).env Try.prog Try.f17 4 []) (findLoop (loopsIn (Try.f17.body.getD .skip)) 5) ((spec_IsConvergent_t5.build [.int r_1, .int s1, .int i, .rows .pt list]).getD ⟨[], []⟩) (roundK (4 * 64) spec_IsConvergent_t5 (fun q => spec_IsConvergent_uG5 G5 n q brk ret) brk ret) = spec_IsConvergent_lb5 F0 F1 G5 n r_1 s1 i list (fun r_1 s1 i list => brk 0 [.int r_1, .int s1, .int i, .rows .pt list]) (fun v1 v2 => ret ⟨[.bool v1, .int .i64 v2], []⟩) := by kernel_rfl
theorem spec_IsConvergent_l5_eq {α : Type} (k : Nat) (r_1 : Int) (s1 : Int) (i : Int) (list : List (Int × Int)) (b0 : Int → Int → Int → (List (Int × Int)) → Option α) (r0 : Bool → Int → Option α) : spec_IsConvergent_lb5 spec_l10Ratio spec_ConvergentsOf spec_IsConvergent_l5 k r_1 s1 i list b0 r0 = spec_IsConvergent_l5 (k + 1) r_1 s1 i list b0 r0 := (spec_IsConvergent_lb5.eq_1 spec_l10Ratio spec_ConvergentsOf spec_IsConvergent_l5 k r_1 s1 i list b0 r0).trans (show spec_IsConvergent_l5 (k + 1) r_1 s1 i list b0 r0 = _ from spec_IsConvergent_l5.eq_2 _ _ _ _ _ _ _ ).symm
theorem spec_IsConvergent_l5_rn {α : Type} (G : Nat → Int → Int → Int → (List (Int × Int)) → (Int → Int → Int → (List (Int × Int)) → Option α) → (Bool → Int → Option α) → Option α) (n : Nat) (r_1 : Int) (s1 : Int) (i : Int) (list : List (Int × Int)) (brk : Nat → List P1 → Option α) (ret : Res → Option α) : spec_IsConvergent_uG5 G n [.int r_1, .int s1, .int i, .rows .pt list] brk ret = G n r_1 s1 i list (fun r_1 s1 i list => brk 0 [.int r_1, .int s1, .int i, .rows .pt list]) (fun v1 v2 => ret ⟨[.bool v1, .int .i64 v2], []⟩) := rfl
theorem spec_IsConvergent_l5_ev {α : Type} (n : Nat) (r_1 : Int) (s1 : Int) (i : Int) (list : List (Int × Int)) (brk : Nat → List P1 → Option α) (ret : Res → Option α) : ev ((spec_IsConvergent_X n).env Try.prog Try.f17 4 []) (findLoop (loopsIn (Try.f17.body.getD .skip)) 5) ((spec_IsConvergent_t5.build [.int r_1, .int s1, .int i, .rows .pt list]).getD ⟨[], []⟩) (roundK (4 * 64) spec_IsConvergent_t5 (fun q => spec_IsConvergent_u5 n q brk ret) brk ret) = spec_IsConvergent_u5 (n + 1) [.int r_1, .int s1, .int i, .rows .pt list] brk ret := (spec_IsConvergent_l5_gen spec_l10Ratio spec_ConvergentsOf spec_IsConvergent_l5 n r_1 s1 i list brk ret).trans ((spec_IsConvergent_l5_eq n r_1 s1 i list (fun r_1 s1 i list => brk 0 [.int r_1, .int s1, .int i, .rows .pt list]) (fun v1 v2 => ret ⟨[.bool v1, .int .i64 v2], []⟩)).trans ((spec_IsConvergent_u5.eq_1 (n + 1) [.int r_1, .int s1, .int i, .rows .pt list] brk ret).trans (spec_IsConvergent_l5_rn spec_IsConvergent_l5 (n + 1) r_1 s1 i list brk ret)).symm)
def spec_IsConvergent_body {α : Type} (F0 : T7 α) (F1 : T20 α) (G5 : Nat → Int → Int → Int → (List (Int × Int)) → (Int → Int → Int → (List (Int × Int)) → Option α) → (Bool → Int → Option α) → Option α) (k : Nat) (p_ : Int) (q_ : Int) (r_ : Int) (s : Int) (r0 : Bool → Int → Option α) : Option α :=
  F0 k p_ q_ 1 fun v =>
  bif (!v) then
    r0 false 2
  else
    F0 k r_ s 1 fun v1 =>
    bif (!v1) then
      r0 false 2
    else
      F1 k p_ q_
        (fun _ =>
          G5 k r_ s 0 []
            (fun _ _ _ _ =>
              r0 false 0)
            r0)
        (fun v3 _ =>
          G5 k r_ s 0 v3
            (fun _ _ _ _ =>
              r0 false 0)
            r0)
theorem spec_IsConvergent_gen {α : Type} (F0 : T7 α) (F1 : T20 α) (G5 : Nat → Int → Int → Int → (List (Int × Int)) → (Int → Int → Int → (List (Int × Int)) → Option α) → (Bool → Int → Option α) → Option α) (n : Nat) (p_ : Int) (q_ : Int) (r_ : Int) (s : Int) (κ : Res → Option α) : evFn Try.prog (spec_IsConvergent_XG F0 F1 G5 n) Try.f17 (((buildDs spec_IsConvergent_sh [.int p_, .int q_, .int r_, .int s]).map Prod.fst).getD []) κ = spec_IsConvergent_body F0 F1 G5 n p_ q_ r_ s (fun v1 v2 => κ ⟨[.bool v1, .int .i64 v2], []⟩) := by kernel_rfl
theorem spec_IsConvergent_eq {α : Type} (n : Nat) (p_ : Int) (q_ : Int) (r_ : Int) (s : Int) (r0 : Bool → Int → Option α) : spec_IsConvergent_body spec_l10Ratio spec_ConvergentsOf spec_IsConvergent_l5 n p_ q_ r_ s r0 = spec_IsConvergent n p_ q_ r_ s r0 := (spec_IsConvergent_body.eq_1 spec_l10Ratio spec_ConvergentsOf spec_IsConvergent_l5 n p_ q_ r_ s r0).trans (spec_IsConvergent.eq_1 n p_ q_ r_ s r0).symm
theorem spec_IsConvergent_rn {α : Type} (F : T26 α) (n : Nat) (p_ : Int) (q_ : Int) (r_ : Int) (s : Int) (κ : Res → Option α) : spec_IsConvergent_runG F n [.int p_, .int q_, .int r_, .int s] κ = F n p_ q_ r_ s (fun v1 v2 => κ ⟨[.bool v1, .int .i64 v2], []⟩) := rfl
theorem spec_IsConvergent_ev {α : Type} (n : Nat) (p_ : Int) (q_ : Int) (r_ : Int) (s : Int) (κ : Res → Option α) : evFn Try.prog (spec_IsConvergent_X n) Try.f17 (((buildDs spec_IsConvergent_sh [.int p_, .int q_, .int r_, .int s]).map Prod.fst).getD []) κ = spec_IsConvergent_run n [.int p_, .int q_, .int r_, .int s] κ := (spec_IsConvergent_gen spec_l10Ratio spec_ConvergentsOf spec_IsConvergent_l5 n p_ q_ r_ s κ).trans ((spec_IsConvergent_eq n p_ q_ r_ s (fun v1 v2 => κ ⟨[.bool v1, .int .i64 v2], []⟩)).trans ((spec_IsConvergent_run.eq_1 n [.int p_, .int q_, .int r_, .int s] κ).trans (spec_IsConvergent_rn spec_IsConvergent n p_ q_ r_ s κ)).symm)
theorem spec_IsConvergent_en (p_ : Int) (q_ : Int) (r_ : Int) (s : Int) : (entry 0 (((buildDs spec_IsConvergent_sh [.int p_, .int q_, .int r_, .int s]).map Prod.fst).getD [])).map (fun x => (x.1.length, x.2.lent)) = some (4, []) := by kernel_rfl
theorem spec_IsConvergent_good {α : Type} : ∀ n, GoodFn (α := α) Try.prog 17 (byShape spec_IsConvergent_sh (spec_IsConvergent_run n)) := by
  refine fn_good' Try.func17 (c := (Try.f17.body.getD .skip)) (by kernel_rfl) (by kernel_rfl) (by kernel_rfl) spec_IsConvergent_C spec_IsConvergent_M eqs spec_IsConvergent_lps spec_IsConvergent_jt (fun n => tabC_good (List.forall_mem_cons.2 ⟨(spec_l10Ratio_good n), (List.forall_mem_cons.2 ⟨(spec_ConvergentsOf_good n), (fun _ h => absurd h List.not_mem_nil)⟩)⟩)) eqs_ok spec_IsConvergent_Lt ?_ ?_ spec_IsConvergent_sh spec_IsConvergent_run ?_
  · refine List.forall_mem_cons.2 ⟨?_, (fun _ h => absurd h List.not_mem_nil)⟩
    · intro p brk ret; show spec_IsConvergent_u5 0 p brk ret = none; unfold spec_IsConvergent_u5 spec_IsConvergent_uG5; split <;> rfl
  · refine List.forall_mem_cons.2 ⟨?_, (fun _ h => absurd h List.not_mem_nil)⟩
    · intro np lent hL n p brk ret st r hb hr
      obtain ⟨rfl, rfl⟩ := hL
      rw [← tpl_of hb]
      change spec_IsConvergent_u5 (n + 1) p brk ret = some r at hr
      have hr0 := hr
      unfold spec_IsConvergent_u5 spec_IsConvergent_uG5 at hr
      split at hr
      · exact (spec_IsConvergent_l5_ev n _ _ _ _ brk ret).trans hr0
      · cases hr
  · intro n p κ r ds hd hr
    have hr0 := hr
    unfold spec_IsConvergent_run spec_IsConvergent_runG at hr
    split at hr
    · rw [← ds_of hd]
      exact ⟨en_of (spec_IsConvergent_en _ _ _ _) ⟨rfl, rfl⟩, (spec_IsConvergent_ev n _ _ _ _ κ).trans hr0⟩
    · cases hr

/-! loop.example/g01297/spec.DrawCompareRatios -/
def spec_DrawCompareRatios_sh : List SkD := [.sl 5 (.int .u8)]
def spec_DrawCompareRatios_runG {α : Type} (F : T21 α) (n : Nat) (p : List P1) (κ : Res → Option α) : Option α := match p with
  | [.rows (.int .u8) code] => F n code (fun v1 v2 v3 v4 => κ ⟨[.int .i64 v1, .int .i64 v2, .int .i64 v3, .int .i64 v4], []⟩)
  | _ => none
def spec_DrawCompareRatios_run {α : Type} (n : Nat) (p : List P1) (κ : Res → Option α) : Option α := spec_DrawCompareRatios_runG spec_DrawCompareRatios n p κ
def spec_DrawCompareRatios_CG {α : Type} (F0 : T1 α) (F1 : T4 α) (F2 : T2 α) (n : Nat) : FuncId → List D → (Res → Option α) → Option α := tabC [(29, (byShape spec_l01From_sh (spec_l01From_runG F0 n))), (30, (byShape spec_l10Draw_sh (spec_l10Draw_runG F1 n))), (32, (byShape spec_l01Next_sh (spec_l01Next_runG F2 n)))]
def spec_DrawCompareRatios_C {α : Type} (n : Nat) : FuncId → List D → (Res → Option α) → Option α := spec_DrawCompareRatios_CG spec_l01From spec_l10Draw spec_l01Next n
def spec_DrawCompareRatios_M : FuncId → List Nat := tabM [(30, [1]), (32, [1])]
def spec_DrawCompareRatios_lpsG {α : Type}  : List (LoopT α) := []
def spec_DrawCompareRatios_lps {α : Type} : List (LoopT α) := spec_DrawCompareRatios_lpsG
def spec_DrawCompareRatios_jt : Nat → Option Tpl := jtOf []
def spec_DrawCompareRatios_XG {α : Type} (F0 : T1 α) (F1 : T4 α) (F2 : T2 α)  (n : Nat) : Ctx α := ⟨spec_DrawCompareRatios_CG F0 F1 F2 n, spec_DrawCompareRatios_M, eqs, lpOf (spec_DrawCompareRatios_lpsG) n, spec_DrawCompareRatios_jt⟩
def spec_DrawCompareRatios_X {α : Type} (n : Nat) : Ctx α := spec_DrawCompareRatios_XG spec_l01From spec_l10Draw spec_l01Next n
def spec_DrawCompareRatios_Lt (np : Nat) (lent : List (Bool × Nat × Blk)) : Prop := np = 1 ∧ lent = []
def spec_DrawCompareRatios_body {α : Type} (F0 : T1 α) (F1 : T4 α) (F2 : T2 α)  (k : Nat) (code : List Int) (r0 : Int → Int → Int → Int → Option α) : Option α :=
  F0 k code fun v v1 =>
  F1 k code v v1 fun v2 v3 v4 v5 =>
  F2 k code v4 v5 3 fun v6 v7 v8 =>
  F2 k code v7 v8 3 fun v9 v10 v11 =>
  bif decide (v9 = 0) then
    r0 v2 v3 (w64 ((w64 (1 + v6)) * v2)) (w64 ((w64 (1 + v6)) * v3))
  else
    F1 k code v10 v11 fun v12 v13 _ _ =>
    r0 v2 v3 v12 v13
theorem spec_DrawCompareRatios_gen {α : Type} (F0 : T1 α) (F1 : T4 α) (F2 : T2 α)  (n : Nat) (code : List Int) (κ : Res → Option α) : evFn Try.prog (spec_DrawCompareRatios_XG F0 F1 F2 n) Try.f18 (((buildDs spec_DrawCompareRatios_sh [.rows (.int .u8) code]).map Prod.fst).getD []) κ = spec_DrawCompareRatios_body F0 F1 F2 n code (fun v1 v2 v3 v4 => κ ⟨[.int .i64 v1, .int .i64 v2, .int .i64 v3, .int .i64 v4], []⟩) := by kernel_rfl
theorem spec_DrawCompareRatios_eq {α : Type} (n : Nat) (code : List Int) (r0 : Int → Int → Int → Int → Option α) : spec_DrawCompareRatios_body spec_l01From spec_l10Draw spec_l01Next n code r0 = spec_DrawCompareRatios n code r0 := (spec_DrawCompareRatios_body.eq_1 spec_l01From spec_l10Draw spec_l01Next n code r0).trans (spec_DrawCompareRatios.eq_1 n code r0).symm
theorem spec_DrawCompareRatios_rn {α : Type} (F : T21 α) (n : Nat) (code : List Int) (κ : Res → Option α) : spec_DrawCompareRatios_runG F n [.rows (.int .u8) code] κ = F n code (fun v1 v2 v3 v4 => κ ⟨[.int .i64 v1, .int .i64 v2, .int .i64 v3, .int .i64 v4], []⟩) := rfl
theorem spec_DrawCompareRatios_ev {α : Type} (n : Nat) (code : List Int) (κ : Res → Option α) : evFn Try.prog (spec_DrawCompareRatios_X n) Try.f18 (((buildDs spec_DrawCompareRatios_sh [.rows (.int .u8) code]).map Prod.fst).getD []) κ = spec_DrawCompareRatios_run n [.rows (.int .u8) code] κ := (spec_DrawCompareRatios_gen spec_l01From spec_l10Draw spec_l01Next n code κ).trans ((spec_DrawCompareRatios_eq n code (fun v1 v2 v3 v4 => κ ⟨[.int .i64 v1, .int .i64 v2, .int .i64 v3, .int .i64 v4], []⟩)).trans ((spec_DrawCompareRatios_run.eq_1 n [.rows (.int .u8) code] κ).trans (spec_DrawCompareRatios_rn spec_DrawCompareRatios n code κ)).symm)
theorem spec_DrawCompareRatios_en (code : List Int) : (entry 0 (((buildDs spec_DrawCompareRatios_sh [.rows (.int .u8) code]).map Prod.fst).getD [])).map (fun x => (x.1.length, x.2.lent)) = some (1, []) := by kernel_rfl
theorem spec_DrawCompareRatios_good {α : Type} : ∀ n, GoodFn (α := α) Try.prog 18 (byShape spec_DrawCompareRatios_sh (spec_DrawCompareRatios_run n)) := by
  refine fn_good' Try.func18 (c := (Try.f18.body.getD .skip)) (by kernel_rfl) (by kernel_rfl) (by kernel_rfl) spec_DrawCompareRatios_C spec_DrawCompareRatios_M eqs spec_DrawCompareRatios_lps spec_DrawCompareRatios_jt (fun n => tabC_good (List.forall_mem_cons.2 ⟨(spec_l01From_good n), (List.forall_mem_cons.2 ⟨(spec_l10Draw_good n), (List.forall_mem_cons.2 ⟨(spec_l01Next_good n), (fun _ h => absurd h List.not_mem_nil)⟩)⟩)⟩)) eqs_ok spec_DrawCompareRatios_Lt ?_ ?_ spec_DrawCompareRatios_sh spec_DrawCompareRatios_run ?_
  · exact (fun _ h => absurd h List.not_mem_nil)
  · exact (fun _ h => absurd h List.not_mem_nil)
  · intro n p κ r ds hd hr
    have hr0 := hr
    unfold spec_DrawCompareRatios_run spec_DrawCompareRatios_runG at hr
    split at hr
    · rw [← ds_of hd]
      exact ⟨en_of (spec_DrawCompareRatios_en _) ⟨rfl, rfl⟩, (spec_DrawCompareRatios_ev n _ κ).trans hr0⟩
    · cases hr

/-! cmp.isNaN[int64] -/
def cmp_isNaN_int64_sh : List SkD := [.int .i64]
def cmp_isNaN_int64_runG {α : Type} (F : T8 α) (n : Nat) (p : List P1) (κ : Res → Option α) : Option α := match p with
  | [.int x] => F n x (fun v1 => κ ⟨[.bool v1], []⟩)
  | _ => none
def cmp_isNaN_int64_run {α : Type} (n : Nat) (p : List P1) (κ : Res → Option α) : Option α := cmp_isNaN_int64_runG cmp_isNaN_int64 n p κ
def cmp_isNaN_int64_CG {α : Type}  (n : Nat) : FuncId → List D → (Res → Option α) → Option α := tabC []
def cmp_isNaN_int64_C {α : Type} (n : Nat) : FuncId → List D → (Res → Option α) → Option α := cmp_isNaN_int64_CG n
def cmp_isNaN_int64_M : FuncId → List Nat := tabM []
def cmp_isNaN_int64_lpsG {α : Type}  : List (LoopT α) := []
def cmp_isNaN_int64_lps {α : Type} : List (LoopT α) := cmp_isNaN_int64_lpsG
def cmp_isNaN_int64_jt : Nat → Option Tpl := jtOf []
def cmp_isNaN_int64_XG {α : Type}   (n : Nat) : Ctx α := ⟨cmp_isNaN_int64_CG n, cmp_isNaN_int64_M, eqs, lpOf (cmp_isNaN_int64_lpsG) n, cmp_isNaN_int64_jt⟩
def cmp_isNaN_int64_X {α : Type} (n : Nat) : Ctx α := cmp_isNaN_int64_XG n
def cmp_isNaN_int64_Lt (np : Nat) (lent : List (Bool × Nat × Blk)) : Prop := np = 1 ∧ lent = []
def cmp_isNaN_int64_body {α : Type}   (k : Nat) (x : Int) (r0 : Bool → Option α) : Option α :=
  r0 (!decide (x = x))
theorem cmp_isNaN_int64_gen {α : Type}   (n : Nat) (x : Int) (κ : Res → Option α) : evFn Try.prog (cmp_isNaN_int64_XG n) Try.f51 (((buildDs cmp_isNaN_int64_sh [.int x]).map Prod.fst).getD []) κ = cmp_isNaN_int64_body n x (fun v1 => κ ⟨[.bool v1], []⟩) := by kernel_rfl
theorem cmp_isNaN_int64_eq {α : Type} (n : Nat) (x : Int) (r0 : Bool → Option α) : cmp_isNaN_int64_body n x r0 = cmp_isNaN_int64 n x r0 := (cmp_isNaN_int64_body.eq_1 n x r0).trans (cmp_isNaN_int64.eq_1 n x r0).symm
theorem cmp_isNaN_int64_rn {α : Type} (F : T8 α) (n : Nat) (x : Int) (κ : Res → Option α) : cmp_isNaN_int64_runG F n [.int x] κ = F n x (fun v1 => κ ⟨[.bool v1], []⟩) := rfl
theorem cmp_isNaN_int64_ev {α : Type} (n : Nat) (x : Int) (κ : Res → Option α) : evFn Try.prog (cmp_isNaN_int64_X n) Try.f51 (((buildDs cmp_isNaN_int64_sh [.int x]).map Prod.fst).getD []) κ = cmp_isNaN_int64_run n [.int x] κ := (cmp_isNaN_int64_gen n x κ).trans ((cmp_isNaN_int64_eq n x (fun v1 => κ ⟨[.bool v1], []⟩)).trans ((cmp_isNaN_int64_run.eq_1 n [.int x] κ).trans (cmp_isNaN_int64_rn cmp_isNaN_int64 n x κ)).symm)
theorem cmp_isNaN_int64_en (x : Int) : (entry 0 (((buildDs cmp_isNaN_int64_sh [.int x]).map Prod.fst).getD [])).map (fun x => (x.1.length, x.2.lent)) = some (1, []) := by kernel_rfl
theorem cmp_isNaN_int64_good {α : Type} : ∀ n, GoodFn (α := α) Try.prog 51 (byShape cmp_isNaN_int64_sh (cmp_isNaN_int64_run n)) := by
  refine fn_good' Try.func51 (c := (Try.f51.body.getD .skip)) (by kernel_rfl) (by kernel_rfl) (by kernel_rfl) cmp_isNaN_int64_C cmp_isNaN_int64_M eqs cmp_isNaN_int64_lps cmp_isNaN_int64_jt (fun n => tabC_good (fun _ h => absurd h List.not_mem_nil)) eqs_ok cmp_isNaN_int64_Lt ?_ ?_ cmp_isNaN_int64_sh cmp_isNaN_int64_run ?_
  · exact (fun _ h => absurd h List.not_mem_nil)
  · exact (fun _ h => absurd h List.not_mem_nil)
  · intro n p κ r ds hd hr
    have hr0 := hr
    unfold cmp_isNaN_int64_run cmp_isNaN_int64_runG at hr
    split at hr
    · rw [← ds_of hd]
      exact ⟨en_of (cmp_isNaN_int64_en _) ⟨rfl, rfl⟩, (cmp_isNaN_int64_ev n _ κ).trans hr0⟩
    · cases hr

end Go.Proofs.Ytjcmebkllhjpfaa
