/- The program's functions hold to their readings without memory: printed by a program of ours. -/
import Derived.Test.YtjcmebkllhjpfaaSeLBests
namespace Go.Proofs.Ytjcmebkllhjpfaa
open Go Go.Ev Go.Sh Go.Proofs

/-! loop.example/g01297/laws.big -/
def laws_big_sh : List SkD := [.sl 5 (.int .u8)]
def laws_big_runG {α : Type} (F : T0 α) (n : Nat) (p : List P1) (κ : Res → Option α) : Option α := match p with
  | [.rows (.int .u8) code] => F n code (fun v1 => κ ⟨[.bool v1], []⟩)
  | _ => none
def laws_big_run {α : Type} (n : Nat) (p : List P1) (κ : Res → Option α) : Option α := laws_big_runG laws_big n p κ
def laws_big_CG {α : Type}  (n : Nat) : FuncId → List D → (Res → Option α) → Option α := tabC []
def laws_big_C {α : Type} (n : Nat) : FuncId → List D → (Res → Option α) → Option α := laws_big_CG n
def laws_big_M : FuncId → List Nat := tabM []
def laws_big_lpsG {α : Type}  : List (LoopT α) := []
def laws_big_lps {α : Type} : List (LoopT α) := laws_big_lpsG
def laws_big_jt : Nat → Option Tpl := jtOf []
def laws_big_XG {α : Type}   (n : Nat) : Ctx α := ⟨laws_big_CG n, laws_big_M, eqs, lpOf (laws_big_lpsG) n, laws_big_jt⟩
def laws_big_X {α : Type} (n : Nat) : Ctx α := laws_big_XG n
def laws_big_Lt (np : Nat) (lent : List (Bool × Nat × Blk)) : Prop := np = 1 ∧ lent = []
def laws_big_body {α : Type}   (k : Nat) (code : List Int) (r0 : Bool → Option α) : Option α :=
  r0 (decide (4096 < (((List.length code) : Nat) : Int)))
theorem laws_big_gen {α : Type}   (n : Nat) (code : List Int) (κ : Res → Option α) : evFn Try.prog (laws_big_XG n) Try.f4 (((buildDs laws_big_sh [.rows (.int .u8) code]).map Prod.fst).getD []) κ = laws_big_body n code (fun v1 => κ ⟨[.bool v1], []⟩) := by kernel_rfl
theorem laws_big_eq {α : Type} (n : Nat) (code : List Int) (r0 : Bool → Option α) : laws_big_body n code r0 = laws_big n code r0 := (laws_big_body.eq_1 n code r0).trans (laws_big.eq_1 n code r0).symm
theorem laws_big_rn {α : Type} (F : T0 α) (n : Nat) (code : List Int) (κ : Res → Option α) : laws_big_runG F n [.rows (.int .u8) code] κ = F n code (fun v1 => κ ⟨[.bool v1], []⟩) := rfl
theorem laws_big_ev {α : Type} (n : Nat) (code : List Int) (κ : Res → Option α) : evFn Try.prog (laws_big_X n) Try.f4 (((buildDs laws_big_sh [.rows (.int .u8) code]).map Prod.fst).getD []) κ = laws_big_run n [.rows (.int .u8) code] κ := (laws_big_gen n code κ).trans ((laws_big_eq n code (fun v1 => κ ⟨[.bool v1], []⟩)).trans ((laws_big_run.eq_1 n [.rows (.int .u8) code] κ).trans (laws_big_rn laws_big n code κ)).symm)
theorem laws_big_en (code : List Int) : (entry 0 (((buildDs laws_big_sh [.rows (.int .u8) code]).map Prod.fst).getD [])).map (fun x => (x.1.length, x.2.lent)) = some (1, []) := by kernel_rfl
theorem laws_big_good {α : Type} : ∀ n, GoodFn (α := α) Try.prog 4 (byShape laws_big_sh (laws_big_run n)) := by
  refine fn_good' Try.func4 (c := (Try.f4.body.getD .skip)) (by kernel_rfl) (by kernel_rfl) (by kernel_rfl) laws_big_C laws_big_M eqs laws_big_lps laws_big_jt (fun n => tabC_good (fun _ h => absurd h List.not_mem_nil)) eqs_ok laws_big_Lt ?_ ?_ laws_big_sh laws_big_run ?_
  · exact (fun _ h => absurd h List.not_mem_nil)
  · exact (fun _ h => absurd h List.not_mem_nil)
  · intro n p κ r ds hd hr
    have hr0 := hr
    unfold laws_big_run laws_big_runG at hr
    split at hr
    · rw [← ds_of hd]
      exact ⟨en_of (laws_big_en _) ⟨rfl, rfl⟩, (laws_big_ev n _ κ).trans hr0⟩
    · cases hr

/-! loop.example/g01297/spec.l01From -/
def spec_l01From_sh : List SkD := [.sl 5 (.int .u8)]
def spec_l01From_runG {α : Type} (F : T1 α) (n : Nat) (p : List P1) (κ : Res → Option α) : Option α := match p with
  | [.rows (.int .u8) code] => F n code (fun v1 v2 => κ ⟨[.ptr 61 [.same 0, .int .i64 v1, .int .u64 v2]], []⟩)
  | _ => none
def spec_l01From_run {α : Type} (n : Nat) (p : List P1) (κ : Res → Option α) : Option α := spec_l01From_runG spec_l01From n p κ
def spec_l01From_CG {α : Type}  (n : Nat) : FuncId → List D → (Res → Option α) → Option α := tabC []
def spec_l01From_C {α : Type} (n : Nat) : FuncId → List D → (Res → Option α) → Option α := spec_l01From_CG n
def spec_l01From_M : FuncId → List Nat := tabM []
def spec_l01From_t3 : Tpl := ⟨[.sl 0, .any, .any, .ptr 704 0 0, .int .i64, .any, .any, .any, .any, .any, .any, .any, .any, .any, .any, .any, .any, .any, .any, .any, .any, .any, .any, .any, .any, .any, .any, .any, .any, .any, .any, .any, .any, .any, .any, .any, .any, .any], [(0, .rows 0 5 (.int .u8)), (704, .mix 2 61 [.sl 0, .int .i64, .int .u64])], []⟩
def spec_l01From_uG3 {α : Type} (G : Nat → Int → List Int → Int → Int → (Int → List Int → Int → Int → Option α) → (Int → Int → Option α) → Option α) (n : Nat) (p : List P1) (brk : Nat → List P1 → Option α) (ret : Res → Option α) : Option α := match p with
  | [.int i, .rows (.int .u8) code1, .int s, .int s1] => G n i code1 s s1 (fun i code1 s s1 => brk 0 [.int i, .rows (.int .u8) code1, .int s, .int s1]) (fun v1 v2 => ret ⟨[.ptr 61 [.same 0, .int .i64 v1, .int .u64 v2]], []⟩)
  | _ => none
def spec_l01From_u3 {α : Type} (n : Nat) (p : List P1) (brk : Nat → List P1 → Option α) (ret : Res → Option α) : Option α := spec_l01From_uG3 spec_l01From_l3 n p brk ret
def spec_l01From_lpsG {α : Type} (G3 : Nat → Int → List Int → Int → Int → (Int → List Int → Int → Int → Option α) → (Int → Int → Option α) → Option α) : List (LoopT α) := [⟨3, spec_l01From_t3, spec_l01From_uG3 G3⟩]
def spec_l01From_lps {α : Type} : List (LoopT α) := spec_l01From_lpsG spec_l01From_l3
def spec_l01From_jt : Nat → Option Tpl := jtOf []
def spec_l01From_XG {α : Type}  (G3 : Nat → Int → List Int → Int → Int → (Int → List Int → Int → Int → Option α) → (Int → Int → Option α) → Option α) (n : Nat) : Ctx α := ⟨spec_l01From_CG n, spec_l01From_M, eqs, lpOf (spec_l01From_lpsG G3) n, spec_l01From_jt⟩
def spec_l01From_X {α : Type} (n : Nat) : Ctx α := spec_l01From_XG spec_l01From_l3 n
def spec_l01From_Lt (np : Nat) (lent : List (Bool × Nat × Blk)) : Prop := np = 1 ∧ lent = []
def spec_l01From_lb3 {α : Type}  (G3 : Nat → Int → List Int → Int → Int → (Int → List Int → Int → Int → Option α) → (Int → Int → Option α) → Option α) (k : Nat) (i : Int) (code1 : List Int) (s : Int) (s1 : Int) (b0 : Int → List Int → Int → Int → Option α) (r0 : Int → Int → Option α) : Option α :=
  bif decide (i < (((List.length code1) : Nat) : Int)) then
    bif decide (i < 4096) then
      bif (decide (0 ≤ i) && decide (i < (((List.length code1) : Nat) : Int))) then
        (code1[i.toNat]?).bind fun e_ =>
        G3 k (w64 (i + 1)) code1 s (IntKind.wrap .u64 ((IntKind.wrap .u64 ((IntKind.wrap .u64 (s1 * 1099511628211)) + (IntKind.wrap .u64 e_))) + 107)) b0 r0
      else
        none
    else
      b0 i code1 s s1
  else
    b0 i code1 s s1
theorem spec_l01From_l3_gen {α : Type}  (G3 : Nat → Int → List Int → Int → Int → (Int → List Int → Int → Int → Option α) → (Int → Int → Option α) → Option α) (n : Nat) (i : Int) (code1 : List Int) (s : Int) (s1 : Int) (brk : Nat → List P1 → Option α) (ret : Res → Option α) : ev ((spec_l01From_XG G3 n).env Try.prog Try.f29 1 []) (findLoop (loopsIn (Try.f29.body.getD .skip)) 3) ((spec_l01From_t3.build [.int i, .rows (.int .u8) code1, .int s, .int s1]).getD ⟨[], []⟩) (roundK (1 * 64) spec_l01From_t3 (fun q => spec_l01From_uG3 G3 n q brk ret) brk ret) = spec_l01From_lb3 G3 n i code1 s s1 (fun i code1 s s1 => brk 0 [.int i, .rows (.int .u8) code1, .int s, .int s1]) (fun v1 v2 => ret ⟨[.ptr 61 [.same 0, .int .i64 v1, .int .u64 v2]], []⟩) := by kernel_rfl
theorem spec_l01From_l3_eq {α : Type} (k : Nat) (i : Int) (code1 : List Int) (s : Int) (s1 : Int) (b0 : Int → List Int → Int → Int → Option α) (r0 : Int → Int → Option α) : spec_l01From_lb3 spec_l01From_l3 k i code1 s s1 b0 r0 = spec_l01From_l3 (k + 1) i code1 s s1 b0 r0 := (spec_l01From_lb3.eq_1 spec_l01From_l3 k i code1 s s1 b0 r0).trans (show spec_l01From_l3 (k + 1) i code1 s s1 b0 r0 = _ from spec_l01From_l3.eq_2 _ _ _ _ _ _ _ ).symm
theorem spec_l01From_l3_rn {α : Type} (G : Nat → Int → List Int → Int → Int → (Int → List Int → Int → Int → Option α) → (Int → Int → Option α) → Option α) (n : Nat) (i : Int) (code1 : List Int) (s : Int) (s1 : Int) (brk : Nat → List P1 → Option α) (ret : Res → Option α) : spec_l01From_uG3 G n [.int i, .rows (.int .u8) code1, .int s, .int s1] brk ret = G n i code1 s s1 (fun i code1 s s1 => brk 0 [.int i, .rows (.int .u8) code1, .int s, .int s1]) (fun v1 v2 => ret ⟨[.ptr 61 [.same 0, .int .i64 v1, .int .u64 v2]], []⟩) := rfl
theorem spec_l01From_l3_ev {α : Type} (n : Nat) (i : Int) (code1 : List Int) (s : Int) (s1 : Int) (brk : Nat → List P1 → Option α) (ret : Res → Option α) : ev ((spec_l01From_X n).env Try.prog Try.f29 1 []) (findLoop (loopsIn (Try.f29.body.getD .skip)) 3) ((spec_l01From_t3.build [.int i, .rows (.int .u8) code1, .int s, .int s1]).getD ⟨[], []⟩) (roundK (1 * 64) spec_l01From_t3 (fun q => spec_l01From_u3 n q brk ret) brk ret) = spec_l01From_u3 (n + 1) [.int i, .rows (.int .u8) code1, .int s, .int s1] brk ret := (spec_l01From_l3_gen spec_l01From_l3 n i code1 s s1 brk ret).trans ((spec_l01From_l3_eq n i code1 s s1 (fun i code1 s s1 => brk 0 [.int i, .rows (.int .u8) code1, .int s, .int s1]) (fun v1 v2 => ret ⟨[.ptr 61 [.same 0, .int .i64 v1, .int .u64 v2]], []⟩)).trans ((spec_l01From_u3.eq_1 (n + 1) [.int i, .rows (.int .u8) code1, .int s, .int s1] brk ret).trans (spec_l01From_l3_rn spec_l01From_l3 (n + 1) i code1 s s1 brk ret)).symm)
def spec_l01From_body {α : Type}  (G3 : Nat → Int → List Int → Int → Int → (Int → List Int → Int → Int → Option α) → (Int → Int → Option α) → Option α) (k : Nat) (code : List Int) (r0 : Int → Int → Option α) : Option α :=
  G3 k 0 code 0 (IntKind.wrap .u64 (12971 + (IntKind.wrap .u64 (((List.length code) : Nat) : Int))))
    (fun _ _ s2 s3 =>
      r0 s2 s3)
    r0
theorem spec_l01From_gen {α : Type}  (G3 : Nat → Int → List Int → Int → Int → (Int → List Int → Int → Int → Option α) → (Int → Int → Option α) → Option α) (n : Nat) (code : List Int) (κ : Res → Option α) : evFn Try.prog (spec_l01From_XG G3 n) Try.f29 (((buildDs spec_l01From_sh [.rows (.int .u8) code]).map Prod.fst).getD []) κ = spec_l01From_body G3 n code (fun v1 v2 => κ ⟨[.ptr 61 [.same 0, .int .i64 v1, .int .u64 v2]], []⟩) := by kernel_rfl
theorem spec_l01From_eq {α : Type} (n : Nat) (code : List Int) (r0 : Int → Int → Option α) : spec_l01From_body spec_l01From_l3 n code r0 = spec_l01From n code r0 := (spec_l01From_body.eq_1 spec_l01From_l3 n code r0).trans (spec_l01From.eq_1 n code r0).symm
theorem spec_l01From_rn {α : Type} (F : T1 α) (n : Nat) (code : List Int) (κ : Res → Option α) : spec_l01From_runG F n [.rows (.int .u8) code] κ = F n code (fun v1 v2 => κ ⟨[.ptr 61 [.same 0, .int .i64 v1, .int .u64 v2]], []⟩) := rfl
theorem spec_l01From_ev {α : Type} (n : Nat) (code : List Int) (κ : Res → Option α) : evFn Try.prog (spec_l01From_X n) Try.f29 (((buildDs spec_l01From_sh [.rows (.int .u8) code]).map Prod.fst).getD []) κ = spec_l01From_run n [.rows (.int .u8) code] κ := (spec_l01From_gen spec_l01From_l3 n code κ).trans ((spec_l01From_eq n code (fun v1 v2 => κ ⟨[.ptr 61 [.same 0, .int .i64 v1, .int .u64 v2]], []⟩)).trans ((spec_l01From_run.eq_1 n [.rows (.int .u8) code] κ).trans (spec_l01From_rn spec_l01From n code κ)).symm)
theorem spec_l01From_en (code : List Int) : (entry 0 (((buildDs spec_l01From_sh [.rows (.int .u8) code]).map Prod.fst).getD [])).map (fun x => (x.1.length, x.2.lent)) = some (1, []) := by kernel_rfl
theorem spec_l01From_good {α : Type} : ∀ n, GoodFn (α := α) Try.prog 29 (byShape spec_l01From_sh (spec_l01From_run n)) := by
  refine fn_good' Try.func29 (c := (Try.f29.body.getD .skip)) (by kernel_rfl) (by kernel_rfl) (by kernel_rfl) spec_l01From_C spec_l01From_M eqs spec_l01From_lps spec_l01From_jt (fun n => tabC_good (fun _ h => absurd h List.not_mem_nil)) eqs_ok spec_l01From_Lt ?_ ?_ spec_l01From_sh spec_l01From_run ?_
  · refine List.forall_mem_cons.2 ⟨?_, (fun _ h => absurd h List.not_mem_nil)⟩
    · intro p brk ret; show spec_l01From_u3 0 p brk ret = none; unfold spec_l01From_u3 spec_l01From_uG3; split <;> rfl
  · refine List.forall_mem_cons.2 ⟨?_, (fun _ h => absurd h List.not_mem_nil)⟩
    · intro np lent hL n p brk ret st r hb hr
      obtain ⟨rfl, rfl⟩ := hL
      rw [← tpl_of hb]
      change spec_l01From_u3 (n + 1) p brk ret = some r at hr
      have hr0 := hr
      unfold spec_l01From_u3 spec_l01From_uG3 at hr
      split at hr
      · exact (spec_l01From_l3_ev n _ _ _ _ brk ret).trans hr0
      · cases hr
  · intro n p κ r ds hd hr
    have hr0 := hr
    unfold spec_l01From_run spec_l01From_runG at hr
    split at hr
    · rw [← ds_of hd]
      exact ⟨en_of (spec_l01From_en _) ⟨rfl, rfl⟩, (spec_l01From_ev n _ κ).trans hr0⟩
    · cases hr

/-! loop.example/g01297/spec.l01Next -/
def spec_l01Next_sh : List SkD := [.mptr 61 [.sl 5 (.int .u8), .int .i64, .int .u64], .int .i64]
def spec_l01Next_runG {α : Type} (F : T2 α) (n : Nat) (p : List P1) (κ : Res → Option α) : Option α := match p with
  | [.rows (.int .u8) s, .int s1, .int s2, .int n_] => F n s s1 s2 n_ (fun v1 v2 v3 => κ ⟨[.int .i64 v1], [.ptr 61 [.keep, .int .i64 v2, .int .u64 v3]]⟩)
  | _ => none
def spec_l01Next_run {α : Type} (n : Nat) (p : List P1) (κ : Res → Option α) : Option α := spec_l01Next_runG spec_l01Next n p κ
def spec_l01Next_CG {α : Type}  (n : Nat) : FuncId → List D → (Res → Option α) → Option α := tabC []
def spec_l01Next_C {α : Type} (n : Nat) : FuncId → List D → (Res → Option α) → Option α := spec_l01Next_CG n
def spec_l01Next_M : FuncId → List Nat := tabM []
def spec_l01Next_lpsG {α : Type}  : List (LoopT α) := []
def spec_l01Next_lps {α : Type} : List (LoopT α) := spec_l01Next_lpsG
def spec_l01Next_jt : Nat → Option Tpl := jtOf []
def spec_l01Next_XG {α : Type}   (n : Nat) : Ctx α := ⟨spec_l01Next_CG n, spec_l01Next_M, eqs, lpOf (spec_l01Next_lpsG) n, spec_l01Next_jt⟩
def spec_l01Next_X {α : Type} (n : Nat) : Ctx α := spec_l01Next_XG n
def spec_l01Next_Lt (np : Nat) (lent : List (Bool × Nat × Blk)) : Prop := np = 2 ∧ ∃ (s1 : Int) (s2 : Int), lent = [(false, 0, boxBlk 1 61 [.sl 1, .int .i64 s1, .int .u64 s2])]
def spec_l01Next_body {α : Type}   (k : Nat) (s : List Int) (s1 : Int) (s2 : Int) (n_ : Int) (r0 : Int → Int → Int → Option α) : Option α :=
  bif decide (n_ < 1) then
    r0 0 s1 s2
  else
  bif decide (s1 < (((List.length s) : Nat) : Int)) then
    bif (decide (0 ≤ s1) && decide (s1 < (((List.length s) : Nat) : Int))) then
      (s[s1.toNat]?).bind fun e_ =>
      bif decide (n_ = 0) then
        none
      else
        r0 (Int.tmod (w64 ((w64 (IntKind.wrap .u64 ((BitVec.ofInt 64 (Int.fdiv (IntKind.wrap .u64 ((IntKind.wrap .u64 (s2 * 6364136223846793005)) + 1442695040888963407)) (2 ^ 31)) &&& BitVec.ofInt 64 1073741823).toNat))) + (w64 e_))) n_) (w64 (s1 + 1)) (IntKind.wrap .u64 ((IntKind.wrap .u64 (s2 * 6364136223846793005)) + 1442695040888963407))
    else
      none
  else
  bif decide (n_ = 0) then
    none
  else
    r0 (Int.tmod (w64 (IntKind.wrap .u64 ((BitVec.ofInt 64 (Int.fdiv (IntKind.wrap .u64 ((IntKind.wrap .u64 (s2 * 6364136223846793005)) + 1442695040888963407)) (2 ^ 31)) &&& BitVec.ofInt 64 1073741823).toNat))) n_) s1 (IntKind.wrap .u64 ((IntKind.wrap .u64 (s2 * 6364136223846793005)) + 1442695040888963407))
theorem spec_l01Next_gen {α : Type}   (n : Nat) (s : List Int) (s1 : Int) (s2 : Int) (n_ : Int) (κ : Res → Option α) : evFn Try.prog (spec_l01Next_XG n) Try.f32 (((buildDs spec_l01Next_sh [.rows (.int .u8) s, .int s1, .int s2, .int n_]).map Prod.fst).getD []) κ = spec_l01Next_body n s s1 s2 n_ (fun v1 v2 v3 => κ ⟨[.int .i64 v1], [.ptr 61 [.keep, .int .i64 v2, .int .u64 v3]]⟩) := by kernel_rfl
theorem spec_l01Next_eq {α : Type} (n : Nat) (s : List Int) (s1 : Int) (s2 : Int) (n_ : Int) (r0 : Int → Int → Int → Option α) : spec_l01Next_body n s s1 s2 n_ r0 = spec_l01Next n s s1 s2 n_ r0 := (spec_l01Next_body.eq_1 n s s1 s2 n_ r0).trans (spec_l01Next.eq_1 n s s1 s2 n_ r0).symm
theorem spec_l01Next_rn {α : Type} (F : T2 α) (n : Nat) (s : List Int) (s1 : Int) (s2 : Int) (n_ : Int) (κ : Res → Option α) : spec_l01Next_runG F n [.rows (.int .u8) s, .int s1, .int s2, .int n_] κ = F n s s1 s2 n_ (fun v1 v2 v3 => κ ⟨[.int .i64 v1], [.ptr 61 [.keep, .int .i64 v2, .int .u64 v3]]⟩) := rfl
theorem spec_l01Next_ev {α : Type} (n : Nat) (s : List Int) (s1 : Int) (s2 : Int) (n_ : Int) (κ : Res → Option α) : evFn Try.prog (spec_l01Next_X n) Try.f32 (((buildDs spec_l01Next_sh [.rows (.int .u8) s, .int s1, .int s2, .int n_]).map Prod.fst).getD []) κ = spec_l01Next_run n [.rows (.int .u8) s, .int s1, .int s2, .int n_] κ := (spec_l01Next_gen n s s1 s2 n_ κ).trans ((spec_l01Next_eq n s s1 s2 n_ (fun v1 v2 v3 => κ ⟨[.int .i64 v1], [.ptr 61 [.keep, .int .i64 v2, .int .u64 v3]]⟩)).trans ((spec_l01Next_run.eq_1 n [.rows (.int .u8) s, .int s1, .int s2, .int n_] κ).trans (spec_l01Next_rn spec_l01Next n s s1 s2 n_ κ)).symm)
theorem spec_l01Next_en (s : List Int) (s1 : Int) (s2 : Int) (n_ : Int) : (entry 0 (((buildDs spec_l01Next_sh [.rows (.int .u8) s, .int s1, .int s2, .int n_]).map Prod.fst).getD [])).map (fun x => (x.1.length, x.2.lent)) = some (2, [(false, 0, boxBlk 1 61 [.sl 1, .int .i64 s1, .int .u64 s2])]) := by kernel_rfl
theorem spec_l01Next_good {α : Type} : ∀ n, GoodFn (α := α) Try.prog 32 (byShape spec_l01Next_sh (spec_l01Next_run n)) := by
  refine fn_good' Try.func32 (c := (Try.f32.body.getD .skip)) (by kernel_rfl) (by kernel_rfl) (by kernel_rfl) spec_l01Next_C spec_l01Next_M eqs spec_l01Next_lps spec_l01Next_jt (fun n => tabC_good (fun _ h => absurd h List.not_mem_nil)) eqs_ok spec_l01Next_Lt ?_ ?_ spec_l01Next_sh spec_l01Next_run ?_
  · exact (fun _ h => absurd h List.not_mem_nil)
  · exact (fun _ h => absurd h List.not_mem_nil)
  · intro n p κ r ds hd hr
    have hr0 := hr
    unfold spec_l01Next_run spec_l01Next_runG at hr
    split at hr
    · rw [← ds_of hd]
      exact ⟨en_of (spec_l01Next_en _ _ _ _) ⟨rfl, _, _, rfl⟩, (spec_l01Next_ev n _ _ _ _ κ).trans hr0⟩
    · cases hr

/-! loop.example/g01297/spec.l01Pick -/
def spec_l01Pick_sh : List SkD := [.mptr 61 [.sl 5 (.int .u8), .int .i64, .int .u64], .sl 2 (.int .i64)]
def spec_l01Pick_runG {α : Type} (F : T3 α) (n : Nat) (p : List P1) (κ : Res → Option α) : Option α := match p with
  | [.rows (.int .u8) s, .int s1, .int s2, .rows (.int .i64) list] => F n s s1 s2 list (fun v1 v2 v3 => κ ⟨[.int .i64 v1], [.ptr 61 [.keep, .int .i64 v2, .int .u64 v3]]⟩)
  | _ => none
def spec_l01Pick_run {α : Type} (n : Nat) (p : List P1) (κ : Res → Option α) : Option α := spec_l01Pick_runG spec_l01Pick n p κ
def spec_l01Pick_CG {α : Type} (F0 : T2 α) (n : Nat) : FuncId → List D → (Res → Option α) → Option α := tabC [(32, (byShape spec_l01Next_sh (spec_l01Next_runG F0 n)))]
def spec_l01Pick_C {α : Type} (n : Nat) : FuncId → List D → (Res → Option α) → Option α := spec_l01Pick_CG spec_l01Next n
def spec_l01Pick_M : FuncId → List Nat := tabM [(32, [1])]
def spec_l01Pick_lpsG {α : Type}  : List (LoopT α) := []
def spec_l01Pick_lps {α : Type} : List (LoopT α) := spec_l01Pick_lpsG
def spec_l01Pick_jt : Nat → Option Tpl := jtOf []
def spec_l01Pick_XG {α : Type} (F0 : T2 α)  (n : Nat) : Ctx α := ⟨spec_l01Pick_CG F0 n, spec_l01Pick_M, eqs, lpOf (spec_l01Pick_lpsG) n, spec_l01Pick_jt⟩
def spec_l01Pick_X {α : Type} (n : Nat) : Ctx α := spec_l01Pick_XG spec_l01Next n
def spec_l01Pick_Lt (np : Nat) (lent : List (Bool × Nat × Blk)) : Prop := np = 2 ∧ ∃ (s1 : Int) (s2 : Int), lent = [(false, 0, boxBlk 1 61 [.sl 1, .int .i64 s1, .int .u64 s2])]
def spec_l01Pick_body {α : Type} (F0 : T2 α)  (k : Nat) (s : List Int) (s1 : Int) (s2 : Int) (list : List Int) (r0 : Int → Int → Int → Option α) : Option α :=
  F0 k s s1 s2 (((List.length list) : Nat) : Int) fun v v1 v2 =>
  bif (decide (0 ≤ v) && decide (v < (((List.length list) : Nat) : Int))) then
    (list[v.toNat]?).bind fun e_ =>
    r0 e_ v1 v2
  else
    none
theorem spec_l01Pick_gen {α : Type} (F0 : T2 α)  (n : Nat) (s : List Int) (s1 : Int) (s2 : Int) (list : List Int) (κ : Res → Option α) : evFn Try.prog (spec_l01Pick_XG F0 n) Try.f37 (((buildDs spec_l01Pick_sh [.rows (.int .u8) s, .int s1, .int s2, .rows (.int .i64) list]).map Prod.fst).getD []) κ = spec_l01Pick_body F0 n s s1 s2 list (fun v1 v2 v3 => κ ⟨[.int .i64 v1], [.ptr 61 [.keep, .int .i64 v2, .int .u64 v3]]⟩) := by kernel_rfl
theorem spec_l01Pick_eq {α : Type} (n : Nat) (s : List Int) (s1 : Int) (s2 : Int) (list : List Int) (r0 : Int → Int → Int → Option α) : spec_l01Pick_body spec_l01Next n s s1 s2 list r0 = spec_l01Pick n s s1 s2 list r0 := (spec_l01Pick_body.eq_1 spec_l01Next n s s1 s2 list r0).trans (spec_l01Pick.eq_1 n s s1 s2 list r0).symm
theorem spec_l01Pick_rn {α : Type} (F : T3 α) (n : Nat) (s : List Int) (s1 : Int) (s2 : Int) (list : List Int) (κ : Res → Option α) : spec_l01Pick_runG F n [.rows (.int .u8) s, .int s1, .int s2, .rows (.int .i64) list] κ = F n s s1 s2 list (fun v1 v2 v3 => κ ⟨[.int .i64 v1], [.ptr 61 [.keep, .int .i64 v2, .int .u64 v3]]⟩) := rfl
theorem spec_l01Pick_ev {α : Type} (n : Nat) (s : List Int) (s1 : Int) (s2 : Int) (list : List Int) (κ : Res → Option α) : evFn Try.prog (spec_l01Pick_X n) Try.f37 (((buildDs spec_l01Pick_sh [.rows (.int .u8) s, .int s1, .int s2, .rows (.int .i64) list]).map Prod.fst).getD []) κ = spec_l01Pick_run n [.rows (.int .u8) s, .int s1, .int s2, .rows (.int .i64) list] κ := (spec_l01Pick_gen spec_l01Next n s s1 s2 list κ).trans ((spec_l01Pick_eq n s s1 s2 list (fun v1 v2 v3 => κ ⟨[.int .i64 v1], [.ptr 61 [.keep, .int .i64 v2, .int .u64 v3]]⟩)).trans ((spec_l01Pick_run.eq_1 n [.rows (.int .u8) s, .int s1, .int s2, .rows (.int .i64) list] κ).trans (spec_l01Pick_rn spec_l01Pick n s s1 s2 list κ)).symm)
theorem spec_l01Pick_en (s : List Int) (s1 : Int) (s2 : Int) (list : List Int) : (entry 0 (((buildDs spec_l01Pick_sh [.rows (.int .u8) s, .int s1, .int s2, .rows (.int .i64) list]).map Prod.fst).getD [])).map (fun x => (x.1.length, x.2.lent)) = some (2, [(false, 0, boxBlk 1 61 [.sl 1, .int .i64 s1, .int .u64 s2])]) := by kernel_rfl
theorem spec_l01Pick_good {α : Type} : ∀ n, GoodFn (α := α) Try.prog 37 (byShape spec_l01Pick_sh (spec_l01Pick_run n)) := by
  refine fn_good' Try.func37 (c := (Try.f37.body.getD .skip)) (by kernel_rfl) (by kernel_rfl) (by kernel_rfl) spec_l01Pick_C spec_l01Pick_M eqs spec_l01Pick_lps spec_l01Pick_jt (fun n => tabC_good (List.forall_mem_cons.2 ⟨(spec_l01Next_good n), (fun _ h => absurd h List.not_mem_nil)⟩)) eqs_ok spec_l01Pick_Lt ?_ ?_ spec_l01Pick_sh spec_l01Pick_run ?_
  · exact (fun _ h => absurd h List.not_mem_nil)
  · exact (fun _ h => absurd h List.not_mem_nil)
  · intro n p κ r ds hd hr
    have hr0 := hr
    unfold spec_l01Pick_run spec_l01Pick_runG at hr
    split at hr
    · rw [← ds_of hd]
      exact ⟨en_of (spec_l01Pick_en _ _ _ _) ⟨rfl, _, _, rfl⟩, (spec_l01Pick_ev n _ _ _ _ κ).trans hr0⟩
    · cases hr

/-! loop.example/g01297/spec.l01Near -/
def spec_l01Near_sh : List SkD := [.mptr 61 [.sl 5 (.int .u8), .int .i64, .int .u64], .int .i64]
def spec_l01Near_runG {α : Type} (F : T2 α) (n : Nat) (p : List P1) (κ : Res → Option α) : Option α := match p with
  | [.rows (.int .u8) s, .int s1, .int s2, .int most] => F n s s1 s2 most (fun v1 v2 v3 => κ ⟨[.int .i64 v1], [.ptr 61 [.keep, .int .i64 v2, .int .u64 v3]]⟩)
  | _ => none
def spec_l01Near_run {α : Type} (n : Nat) (p : List P1) (κ : Res → Option α) : Option α := spec_l01Near_runG spec_l01Near n p κ
def spec_l01Near_CG {α : Type} (F0 : T2 α) (F1 : T3 α) (n : Nat) : FuncId → List D → (Res → Option α) → Option α := tabC [(32, (byShape spec_l01Next_sh (spec_l01Next_runG F0 n))), (37, (byShape spec_l01Pick_sh (spec_l01Pick_runG F1 n)))]
def spec_l01Near_C {α : Type} (n : Nat) : FuncId → List D → (Res → Option α) → Option α := spec_l01Near_CG spec_l01Next spec_l01Pick n
def spec_l01Near_M : FuncId → List Nat := tabM [(32, [1]), (37, [1])]
def spec_l01Near_lpsG {α : Type}  : List (LoopT α) := []
def spec_l01Near_lps {α : Type} : List (LoopT α) := spec_l01Near_lpsG
def spec_l01Near_jt : Nat → Option Tpl := jtOf []
def spec_l01Near_XG {α : Type} (F0 : T2 α) (F1 : T3 α)  (n : Nat) : Ctx α := ⟨spec_l01Near_CG F0 F1 n, spec_l01Near_M, eqs, lpOf (spec_l01Near_lpsG) n, spec_l01Near_jt⟩
def spec_l01Near_X {α : Type} (n : Nat) : Ctx α := spec_l01Near_XG spec_l01Next spec_l01Pick n
def spec_l01Near_Lt (np : Nat) (lent : List (Bool × Nat × Blk)) : Prop := np = 2 ∧ ∃ (s1 : Int) (s2 : Int), lent = [(false, 0, boxBlk 1 61 [.sl 1, .int .i64 s1, .int .u64 s2])]
def spec_l01Near_body {α : Type} (F0 : T2 α) (F1 : T3 α)  (k : Nat) (s : List Int) (s1 : Int) (s2 : Int) (most : Int) (r0 : Int → Int → Int → Option α) : Option α :=
  F0 k s s1 s2 14 fun v v1 v2 =>
  bif decide (v = 0) then
    F1 k s v1 v2 [(-1), (w64 (most + 1)), 1099511627776, (-4611686018427387904)] fun v3 v4 v5 =>
    r0 v3 v4 v5
  else
    F0 k s v1 v2 (w64 (most + 1)) fun v6 v7 v8 =>
    r0 v6 v7 v8
theorem spec_l01Near_gen {α : Type} (F0 : T2 α) (F1 : T3 α)  (n : Nat) (s : List Int) (s1 : Int) (s2 : Int) (most : Int) (κ : Res → Option α) : evFn Try.prog (spec_l01Near_XG F0 F1 n) Try.f38 (((buildDs spec_l01Near_sh [.rows (.int .u8) s, .int s1, .int s2, .int most]).map Prod.fst).getD []) κ = spec_l01Near_body F0 F1 n s s1 s2 most (fun v1 v2 v3 => κ ⟨[.int .i64 v1], [.ptr 61 [.keep, .int .i64 v2, .int .u64 v3]]⟩) := by kernel_rfl
theorem spec_l01Near_eq {α : Type} (n : Nat) (s : List Int) (s1 : Int) (s2 : Int) (most : Int) (r0 : Int → Int → Int → Option α) : spec_l01Near_body spec_l01Next spec_l01Pick n s s1 s2 most r0 = spec_l01Near n s s1 s2 most r0 := (spec_l01Near_body.eq_1 spec_l01Next spec_l01Pick n s s1 s2 most r0).trans (spec_l01Near.eq_1 n s s1 s2 most r0).symm
theorem spec_l01Near_rn {α : Type} (F : T2 α) (n : Nat) (s : List Int) (s1 : Int) (s2 : Int) (most : Int) (κ : Res → Option α) : spec_l01Near_runG F n [.rows (.int .u8) s, .int s1, .int s2, .int most] κ = F n s s1 s2 most (fun v1 v2 v3 => κ ⟨[.int .i64 v1], [.ptr 61 [.keep, .int .i64 v2, .int .u64 v3]]⟩) := rfl
theorem spec_l01Near_ev {α : Type} (n : Nat) (s : List Int) (s1 : Int) (s2 : Int) (most : Int) (κ : Res → Option α) : evFn Try.prog (spec_l01Near_X n) Try.f38 (((buildDs spec_l01Near_sh [.rows (.int .u8) s, .int s1, .int s2, .int most]).map Prod.fst).getD []) κ = spec_l01Near_run n [.rows (.int .u8) s, .int s1, .int s2, .int most] κ := (spec_l01Near_gen spec_l01Next spec_l01Pick n s s1 s2 most κ).trans ((spec_l01Near_eq n s s1 s2 most (fun v1 v2 v3 => κ ⟨[.int .i64 v1], [.ptr 61 [.keep, .int .i64 v2, .int .u64 v3]]⟩)).trans ((spec_l01Near_run.eq_1 n [.rows (.int .u8) s, .int s1, .int s2, .int most] κ).trans (spec_l01Near_rn spec_l01Near n s s1 s2 most κ)).symm)
theorem spec_l01Near_en (s : List Int) (s1 : Int) (s2 : Int) (most : Int) : (entry 0 (((buildDs spec_l01Near_sh [.rows (.int .u8) s, .int s1, .int s2, .int most]).map Prod.fst).getD [])).map (fun x => (x.1.length, x.2.lent)) = some (2, [(false, 0, boxBlk 1 61 [.sl 1, .int .i64 s1, .int .u64 s2])]) := by kernel_rfl
theorem spec_l01Near_good {α : Type} : ∀ n, GoodFn (α := α) Try.prog 38 (byShape spec_l01Near_sh (spec_l01Near_run n)) := by
  refine fn_good' Try.func38 (c := (Try.f38.body.getD .skip)) (by kernel_rfl) (by kernel_rfl) (by kernel_rfl) spec_l01Near_C spec_l01Near_M eqs spec_l01Near_lps spec_l01Near_jt (fun n => tabC_good (List.forall_mem_cons.2 ⟨(spec_l01Next_good n), (List.forall_mem_cons.2 ⟨(spec_l01Pick_good n), (fun _ h => absurd h List.not_mem_nil)⟩)⟩)) eqs_ok spec_l01Near_Lt ?_ ?_ spec_l01Near_sh spec_l01Near_run ?_
  · exact (fun _ h => absurd h List.not_mem_nil)
  · exact (fun _ h => absurd h List.not_mem_nil)
  · intro n p κ r ds hd hr
    have hr0 := hr
    unfold spec_l01Near_run spec_l01Near_runG at hr
    split at hr
    · rw [← ds_of hd]
      exact ⟨en_of (spec_l01Near_en _ _ _ _) ⟨rfl, _, _, rfl⟩, (spec_l01Near_ev n _ _ _ _ κ).trans hr0⟩
    · cases hr

/-! loop.example/g01297/spec.l10Draw -/
def spec_l10Draw_sh : List SkD := [.mptr 61 [.sl 5 (.int .u8), .int .i64, .int .u64]]
def spec_l10Draw_runG {α : Type} (F : T4 α) (n : Nat) (p : List P1) (κ : Res → Option α) : Option α := match p with
  | [.rows (.int .u8) s, .int s1, .int s2] => F n s s1 s2 (fun v1 v2 v3 v4 => κ ⟨[.int .i64 v1, .int .i64 v2], [.ptr 61 [.keep, .int .i64 v3, .int .u64 v4]]⟩)
  | _ => none
def spec_l10Draw_run {α : Type} (n : Nat) (p : List P1) (κ : Res → Option α) : Option α := spec_l10Draw_runG spec_l10Draw n p κ
def spec_l10Draw_CG {α : Type} (F0 : T2 α) (F1 : T2 α) (F2 : T3 α) (n : Nat) : FuncId → List D → (Res → Option α) → Option α := tabC [(32, (byShape spec_l01Next_sh (spec_l01Next_runG F0 n))), (38, (byShape spec_l01Near_sh (spec_l01Near_runG F1 n))), (37, (byShape spec_l01Pick_sh (spec_l01Pick_runG F2 n)))]
def spec_l10Draw_C {α : Type} (n : Nat) : FuncId → List D → (Res → Option α) → Option α := spec_l10Draw_CG spec_l01Next spec_l01Near spec_l01Pick n
def spec_l10Draw_M : FuncId → List Nat := tabM [(32, [1]), (38, [1]), (37, [1])]
def spec_l10Draw_lpsG {α : Type}  : List (LoopT α) := []
def spec_l10Draw_lps {α : Type} : List (LoopT α) := spec_l10Draw_lpsG
def spec_l10Draw_jt : Nat → Option Tpl := jtOf []
def spec_l10Draw_XG {α : Type} (F0 : T2 α) (F1 : T2 α) (F2 : T3 α)  (n : Nat) : Ctx α := ⟨spec_l10Draw_CG F0 F1 F2 n, spec_l10Draw_M, eqs, lpOf (spec_l10Draw_lpsG) n, spec_l10Draw_jt⟩
def spec_l10Draw_X {α : Type} (n : Nat) : Ctx α := spec_l10Draw_XG spec_l01Next spec_l01Near spec_l01Pick n
def spec_l10Draw_Lt (np : Nat) (lent : List (Bool × Nat × Blk)) : Prop := np = 1 ∧ ∃ (s1 : Int) (s2 : Int), lent = [(false, 0, boxBlk 1 61 [.sl 1, .int .i64 s1, .int .u64 s2])]
def spec_l10Draw_body {α : Type} (F0 : T2 α) (F1 : T2 α) (F2 : T3 α)  (k : Nat) (s : List Int) (s1 : Int) (s2 : Int) (r0 : Int → Int → Int → Int → Option α) : Option α :=
  F0 k s s1 s2 12 fun v v1 v2 =>
  F0 k s v1 v2 100 fun v3 v4 v5 =>
  F1 k s v4 v5 1000000 fun v6 v7 v8 =>
  F2 k s v7 v8 [(w64 (1 + v)), (w64 (1 + v3)), v6] fun v9 v10 v11 =>
  F0 k s v10 v11 (w64 ((w64 (3 * (max v9 1))) + 1)) fun v12 v13 v14 =>
  F0 k s v13 v14 30 fun v15 v16 v17 =>
  bif decide (v15 = 0) then
    F2 k s v16 v17 [0, (-3), 1000001] fun v18 v19 v20 =>
    r0 (w64 (v12 - v9)) v18 v19 v20
  else
  bif decide (v15 = 1) then
    F2 k s v16 v17 [1000000, (-1000000), 1000001] fun v21 v22 v23 =>
    r0 v21 v9 v22 v23
  else
    r0 (w64 (v12 - v9)) v9 v16 v17
theorem spec_l10Draw_gen {α : Type} (F0 : T2 α) (F1 : T2 α) (F2 : T3 α)  (n : Nat) (s : List Int) (s1 : Int) (s2 : Int) (κ : Res → Option α) : evFn Try.prog (spec_l10Draw_XG F0 F1 F2 n) Try.f30 (((buildDs spec_l10Draw_sh [.rows (.int .u8) s, .int s1, .int s2]).map Prod.fst).getD []) κ = spec_l10Draw_body F0 F1 F2 n s s1 s2 (fun v1 v2 v3 v4 => κ ⟨[.int .i64 v1, .int .i64 v2], [.ptr 61 [.keep, .int .i64 v3, .int .u64 v4]]⟩) := by kernel_rfl
theorem spec_l10Draw_eq {α : Type} (n : Nat) (s : List Int) (s1 : Int) (s2 : Int) (r0 : Int → Int → Int → Int → Option α) : spec_l10Draw_body spec_l01Next spec_l01Near spec_l01Pick n s s1 s2 r0 = spec_l10Draw n s s1 s2 r0 := (spec_l10Draw_body.eq_1 spec_l01Next spec_l01Near spec_l01Pick n s s1 s2 r0).trans (spec_l10Draw.eq_1 n s s1 s2 r0).symm
theorem spec_l10Draw_rn {α : Type} (F : T4 α) (n : Nat) (s : List Int) (s1 : Int) (s2 : Int) (κ : Res → Option α) : spec_l10Draw_runG F n [.rows (.int .u8) s, .int s1, .int s2] κ = F n s s1 s2 (fun v1 v2 v3 v4 => κ ⟨[.int .i64 v1, .int .i64 v2], [.ptr 61 [.keep, .int .i64 v3, .int .u64 v4]]⟩) := rfl
theorem spec_l10Draw_ev {α : Type} (n : Nat) (s : List Int) (s1 : Int) (s2 : Int) (κ : Res → Option α) : evFn Try.prog (spec_l10Draw_X n) Try.f30 (((buildDs spec_l10Draw_sh [.rows (.int .u8) s, .int s1, .int s2]).map Prod.fst).getD []) κ = spec_l10Draw_run n [.rows (.int .u8) s, .int s1, .int s2] κ := (spec_l10Draw_gen spec_l01Next spec_l01Near spec_l01Pick n s s1 s2 κ).trans ((spec_l10Draw_eq n s s1 s2 (fun v1 v2 v3 v4 => κ ⟨[.int .i64 v1, .int .i64 v2], [.ptr 61 [.keep, .int .i64 v3, .int .u64 v4]]⟩)).trans ((spec_l10Draw_run.eq_1 n [.rows (.int .u8) s, .int s1, .int s2] κ).trans (spec_l10Draw_rn spec_l10Draw n s s1 s2 κ)).symm)
theorem spec_l10Draw_en (s : List Int) (s1 : Int) (s2 : Int) : (entry 0 (((buildDs spec_l10Draw_sh [.rows (.int .u8) s, .int s1, .int s2]).map Prod.fst).getD [])).map (fun x => (x.1.length, x.2.lent)) = some (1, [(false, 0, boxBlk 1 61 [.sl 1, .int .i64 s1, .int .u64 s2])]) := by kernel_rfl
theorem spec_l10Draw_good {α : Type} : ∀ n, GoodFn (α := α) Try.prog 30 (byShape spec_l10Draw_sh (spec_l10Draw_run n)) := by
  refine fn_good' Try.func30 (c := (Try.f30.body.getD .skip)) (by kernel_rfl) (by kernel_rfl) (by kernel_rfl) spec_l10Draw_C spec_l10Draw_M eqs spec_l10Draw_lps spec_l10Draw_jt (fun n => tabC_good (List.forall_mem_cons.2 ⟨(spec_l01Next_good n), (List.forall_mem_cons.2 ⟨(spec_l01Near_good n), (List.forall_mem_cons.2 ⟨(spec_l01Pick_good n), (fun _ h => absurd h List.not_mem_nil)⟩)⟩)⟩)) eqs_ok spec_l10Draw_Lt ?_ ?_ spec_l10Draw_sh spec_l10Draw_run ?_
  · exact (fun _ h => absurd h List.not_mem_nil)
  · exact (fun _ h => absurd h List.not_mem_nil)
  · intro n p κ r ds hd hr
    have hr0 := hr
    unfold spec_l10Draw_run spec_l10Draw_runG at hr
    split at hr
    · rw [← ds_of hd]
      exact ⟨en_of (spec_l10Draw_en _ _ _) ⟨rfl, _, _, rfl⟩, (spec_l10Draw_ev n _ _ _ κ).trans hr0⟩
    · cases hr

/-! loop.example/g01297/spec.l10With -/
def spec_l10With_sh : List SkD := [.sl 5 (.int .u8), .int .i64]
def spec_l10With_runG {α : Type} (F : T5 α) (n : Nat) (p : List P1) (κ : Res → Option α) : Option α := match p with
  | [.rows (.int .u8) code, .int most] => F n code most (fun v1 v2 v3 => κ ⟨[.int .i64 v1, .int .i64 v2, .int .i64 v3], []⟩)
  | _ => none
def spec_l10With_run {α : Type} (n : Nat) (p : List P1) (κ : Res → Option α) : Option α := spec_l10With_runG spec_l10With n p κ
def spec_l10With_CG {α : Type} (F0 : T1 α) (F1 : T4 α) (F2 : T2 α) (F3 : T2 α) (F4 : T3 α) (n : Nat) : FuncId → List D → (Res → Option α) → Option α := tabC [(29, (byShape spec_l01From_sh (spec_l01From_runG F0 n))), (30, (byShape spec_l10Draw_sh (spec_l10Draw_runG F1 n))), (32, (byShape spec_l01Next_sh (spec_l01Next_runG F2 n))), (38, (byShape spec_l01Near_sh (spec_l01Near_runG F3 n))), (37, (byShape spec_l01Pick_sh (spec_l01Pick_runG F4 n)))]
def spec_l10With_C {α : Type} (n : Nat) : FuncId → List D → (Res → Option α) → Option α := spec_l10With_CG spec_l01From spec_l10Draw spec_l01Next spec_l01Near spec_l01Pick n
def spec_l10With_M : FuncId → List Nat := tabM [(30, [1]), (32, [1]), (38, [1]), (37, [1])]
def spec_l10With_lpsG {α : Type}  : List (LoopT α) := []
def spec_l10With_lps {α : Type} : List (LoopT α) := spec_l10With_lpsG
def spec_l10With_jt : Nat → Option Tpl := jtOf []
def spec_l10With_XG {α : Type} (F0 : T1 α) (F1 : T4 α) (F2 : T2 α) (F3 : T2 α) (F4 : T3 α)  (n : Nat) : Ctx α := ⟨spec_l10With_CG F0 F1 F2 F3 F4 n, spec_l10With_M, eqs, lpOf (spec_l10With_lpsG) n, spec_l10With_jt⟩
def spec_l10With_X {α : Type} (n : Nat) : Ctx α := spec_l10With_XG spec_l01From spec_l10Draw spec_l01Next spec_l01Near spec_l01Pick n
def spec_l10With_Lt (np : Nat) (lent : List (Bool × Nat × Blk)) : Prop := np = 2 ∧ lent = []
def spec_l10With_body {α : Type} (F0 : T1 α) (F1 : T4 α) (F2 : T2 α) (F3 : T2 α) (F4 : T3 α)  (k : Nat) (code : List Int) (most : Int) (r0 : Int → Int → Int → Option α) : Option α :=
  F0 k code fun v v1 =>
  F1 k code v v1 fun v2 v3 v4 v5 =>
  F2 k code v4 v5 12 fun v6 v7 v8 =>
  F2 k code v7 v8 60 fun v9 v10 v11 =>
  F3 k code v10 v11 most fun v12 v13 v14 =>
  F4 k code v13 v14 [(w64 (1 + v6)), (w64 (1 + v9)), v12] fun v15 _ _ =>
  r0 v2 v3 v15
theorem spec_l10With_gen {α : Type} (F0 : T1 α) (F1 : T4 α) (F2 : T2 α) (F3 : T2 α) (F4 : T3 α)  (n : Nat) (code : List Int) (most : Int) (κ : Res → Option α) : evFn Try.prog (spec_l10With_XG F0 F1 F2 F3 F4 n) Try.f21 (((buildDs spec_l10With_sh [.rows (.int .u8) code, .int most]).map Prod.fst).getD []) κ = spec_l10With_body F0 F1 F2 F3 F4 n code most (fun v1 v2 v3 => κ ⟨[.int .i64 v1, .int .i64 v2, .int .i64 v3], []⟩) := by kernel_rfl
theorem spec_l10With_eq {α : Type} (n : Nat) (code : List Int) (most : Int) (r0 : Int → Int → Int → Option α) : spec_l10With_body spec_l01From spec_l10Draw spec_l01Next spec_l01Near spec_l01Pick n code most r0 = spec_l10With n code most r0 := (spec_l10With_body.eq_1 spec_l01From spec_l10Draw spec_l01Next spec_l01Near spec_l01Pick n code most r0).trans (spec_l10With.eq_1 n code most r0).symm
theorem spec_l10With_rn {α : Type} (F : T5 α) (n : Nat) (code : List Int) (most : Int) (κ : Res → Option α) : spec_l10With_runG F n [.rows (.int .u8) code, .int most] κ = F n code most (fun v1 v2 v3 => κ ⟨[.int .i64 v1, .int .i64 v2, .int .i64 v3], []⟩) := rfl
theorem spec_l10With_ev {α : Type} (n : Nat) (code : List Int) (most : Int) (κ : Res → Option α) : evFn Try.prog (spec_l10With_X n) Try.f21 (((buildDs spec_l10With_sh [.rows (.int .u8) code, .int most]).map Prod.fst).getD []) κ = spec_l10With_run n [.rows (.int .u8) code, .int most] κ := (spec_l10With_gen spec_l01From spec_l10Draw spec_l01Next spec_l01Near spec_l01Pick n code most κ).trans ((spec_l10With_eq n code most (fun v1 v2 v3 => κ ⟨[.int .i64 v1, .int .i64 v2, .int .i64 v3], []⟩)).trans ((spec_l10With_run.eq_1 n [.rows (.int .u8) code, .int most] κ).trans (spec_l10With_rn spec_l10With n code most κ)).symm)
theorem spec_l10With_en (code : List Int) (most : Int) : (entry 0 (((buildDs spec_l10With_sh [.rows (.int .u8) code, .int most]).map Prod.fst).getD [])).map (fun x => (x.1.length, x.2.lent)) = some (2, []) := by kernel_rfl
theorem spec_l10With_good {α : Type} : ∀ n, GoodFn (α := α) Try.prog 21 (byShape spec_l10With_sh (spec_l10With_run n)) := by
  refine fn_good' Try.func21 (c := (Try.f21.body.getD .skip)) (by kernel_rfl) (by kernel_rfl) (by kernel_rfl) spec_l10With_C spec_l10With_M eqs spec_l10With_lps spec_l10With_jt (fun n => tabC_good (List.forall_mem_cons.2 ⟨(spec_l01From_good n), (List.forall_mem_cons.2 ⟨(spec_l10Draw_good n), (List.forall_mem_cons.2 ⟨(spec_l01Next_good n), (List.forall_mem_cons.2 ⟨(spec_l01Near_good n), (List.forall_mem_cons.2 ⟨(spec_l01Pick_good n), (fun _ h => absurd h List.not_mem_nil)⟩)⟩)⟩)⟩)⟩)) eqs_ok spec_l10With_Lt ?_ ?_ spec_l10With_sh spec_l10With_run ?_
  · exact (fun _ h => absurd h List.not_mem_nil)
  · exact (fun _ h => absurd h List.not_mem_nil)
  · intro n p κ r ds hd hr
    have hr0 := hr
    unfold spec_l10With_run spec_l10With_runG at hr
    split at hr
    · rw [← ds_of hd]
      exact ⟨en_of (spec_l10With_en _ _) ⟨rfl, rfl⟩, (spec_l10With_ev n _ _ κ).trans hr0⟩
    · cases hr

/-! loop.example/g01297/spec.DrawBestOfSecond -/
def spec_DrawBestOfSecond_sh : List SkD := [.sl 5 (.int .u8)]
def spec_DrawBestOfSecond_runG {α : Type} (F : T6 α) (n : Nat) (p : List P1) (κ : Res → Option α) : Option α := match p with
  | [.rows (.int .u8) code] => F n code (fun v1 v2 v3 => κ ⟨[.int .i64 v1, .int .i64 v2, .int .i64 v3], []⟩)
  | _ => none
def spec_DrawBestOfSecond_run {α : Type} (n : Nat) (p : List P1) (κ : Res → Option α) : Option α := spec_DrawBestOfSecond_runG spec_DrawBestOfSecond n p κ
def spec_DrawBestOfSecond_CG {α : Type} (F0 : T5 α) (n : Nat) : FuncId → List D → (Res → Option α) → Option α := tabC [(21, (byShape spec_l10With_sh (spec_l10With_runG F0 n)))]
def spec_DrawBestOfSecond_C {α : Type} (n : Nat) : FuncId → List D → (Res → Option α) → Option α := spec_DrawBestOfSecond_CG spec_l10With n
def spec_DrawBestOfSecond_M : FuncId → List Nat := tabM []
def spec_DrawBestOfSecond_lpsG {α : Type}  : List (LoopT α) := []
def spec_DrawBestOfSecond_lps {α : Type} : List (LoopT α) := spec_DrawBestOfSecond_lpsG
def spec_DrawBestOfSecond_jt : Nat → Option Tpl := jtOf []
def spec_DrawBestOfSecond_XG {α : Type} (F0 : T5 α)  (n : Nat) : Ctx α := ⟨spec_DrawBestOfSecond_CG F0 n, spec_DrawBestOfSecond_M, eqs, lpOf (spec_DrawBestOfSecond_lpsG) n, spec_DrawBestOfSecond_jt⟩
def spec_DrawBestOfSecond_X {α : Type} (n : Nat) : Ctx α := spec_DrawBestOfSecond_XG spec_l10With n
def spec_DrawBestOfSecond_Lt (np : Nat) (lent : List (Bool × Nat × Blk)) : Prop := np = 1 ∧ lent = []
def spec_DrawBestOfSecond_body {α : Type} (F0 : T5 α)  (k : Nat) (code : List Int) (r0 : Int → Int → Int → Option α) : Option α :=
  F0 k code 2000 fun v v1 v2 =>
  r0 v v1 v2
theorem spec_DrawBestOfSecond_gen {α : Type} (F0 : T5 α)  (n : Nat) (code : List Int) (κ : Res → Option α) : evFn Try.prog (spec_DrawBestOfSecond_XG F0 n) Try.f5 (((buildDs spec_DrawBestOfSecond_sh [.rows (.int .u8) code]).map Prod.fst).getD []) κ = spec_DrawBestOfSecond_body F0 n code (fun v1 v2 v3 => κ ⟨[.int .i64 v1, .int .i64 v2, .int .i64 v3], []⟩) := by kernel_rfl
theorem spec_DrawBestOfSecond_eq {α : Type} (n : Nat) (code : List Int) (r0 : Int → Int → Int → Option α) : spec_DrawBestOfSecond_body spec_l10With n code r0 = spec_DrawBestOfSecond n code r0 := (spec_DrawBestOfSecond_body.eq_1 spec_l10With n code r0).trans (spec_DrawBestOfSecond.eq_1 n code r0).symm
theorem spec_DrawBestOfSecond_rn {α : Type} (F : T6 α) (n : Nat) (code : List Int) (κ : Res → Option α) : spec_DrawBestOfSecond_runG F n [.rows (.int .u8) code] κ = F n code (fun v1 v2 v3 => κ ⟨[.int .i64 v1, .int .i64 v2, .int .i64 v3], []⟩) := rfl
theorem spec_DrawBestOfSecond_ev {α : Type} (n : Nat) (code : List Int) (κ : Res → Option α) : evFn Try.prog (spec_DrawBestOfSecond_X n) Try.f5 (((buildDs spec_DrawBestOfSecond_sh [.rows (.int .u8) code]).map Prod.fst).getD []) κ = spec_DrawBestOfSecond_run n [.rows (.int .u8) code] κ := (spec_DrawBestOfSecond_gen spec_l10With n code κ).trans ((spec_DrawBestOfSecond_eq n code (fun v1 v2 v3 => κ ⟨[.int .i64 v1, .int .i64 v2, .int .i64 v3], []⟩)).trans ((spec_DrawBestOfSecond_run.eq_1 n [.rows (.int .u8) code] κ).trans (spec_DrawBestOfSecond_rn spec_DrawBestOfSecond n code κ)).symm)
theorem spec_DrawBestOfSecond_en (code : List Int) : (entry 0 (((buildDs spec_DrawBestOfSecond_sh [.rows (.int .u8) code]).map Prod.fst).getD [])).map (fun x => (x.1.length, x.2.lent)) = some (1, []) := by kernel_rfl
theorem spec_DrawBestOfSecond_good {α : Type} : ∀ n, GoodFn (α := α) Try.prog 5 (byShape spec_DrawBestOfSecond_sh (spec_DrawBestOfSecond_run n)) := by
  refine fn_good' Try.func5 (c := (Try.f5.body.getD .skip)) (by kernel_rfl) (by kernel_rfl) (by kernel_rfl) spec_DrawBestOfSecond_C spec_DrawBestOfSecond_M eqs spec_DrawBestOfSecond_lps spec_DrawBestOfSecond_jt (fun n => tabC_good (List.forall_mem_cons.2 ⟨(spec_l10With_good n), (fun _ h => absurd h List.not_mem_nil)⟩)) eqs_ok spec_DrawBestOfSecond_Lt ?_ ?_ spec_DrawBestOfSecond_sh spec_DrawBestOfSecond_run ?_
  · exact (fun _ h => absurd h List.not_mem_nil)
  · exact (fun _ h => absurd h List.not_mem_nil)
  · intro n p κ r ds hd hr
    have hr0 := hr
    unfold spec_DrawBestOfSecond_run spec_DrawBestOfSecond_runG at hr
    split at hr
    · rw [← ds_of hd]
      exact ⟨en_of (spec_DrawBestOfSecond_en _) ⟨rfl, rfl⟩, (spec_DrawBestOfSecond_ev n _ κ).trans hr0⟩
    · cases hr

/-! loop.example/g01297/impl.in -/
def impl_in_sh : List SkD := [.int .i64, .int .i64, .int .i64]
def impl_in_runG {α : Type} (F : T7 α) (n : Nat) (p : List P1) (κ : Res → Option α) : Option α := match p with
  | [.int n_, .int low, .int high] => F n n_ low high (fun v1 => κ ⟨[.bool v1], []⟩)
  | _ => none
def impl_in_run {α : Type} (n : Nat) (p : List P1) (κ : Res → Option α) : Option α := impl_in_runG impl_in n p κ
def impl_in_CG {α : Type}  (n : Nat) : FuncId → List D → (Res → Option α) → Option α := tabC []
def impl_in_C {α : Type} (n : Nat) : FuncId → List D → (Res → Option α) → Option α := impl_in_CG n
def impl_in_M : FuncId → List Nat := tabM []
def impl_in_lpsG {α : Type}  : List (LoopT α) := []
def impl_in_lps {α : Type} : List (LoopT α) := impl_in_lpsG
def impl_in_jt : Nat → Option Tpl := jtOf []
def impl_in_XG {α : Type}   (n : Nat) : Ctx α := ⟨impl_in_CG n, impl_in_M, eqs, lpOf (impl_in_lpsG) n, impl_in_jt⟩
def impl_in_X {α : Type} (n : Nat) : Ctx α := impl_in_XG n
def impl_in_Lt (np : Nat) (lent : List (Bool × Nat × Blk)) : Prop := np = 3 ∧ lent = []
def impl_in_body {α : Type}   (k : Nat) (n_ : Int) (low : Int) (high : Int) (r0 : Bool → Option α) : Option α :=
  bif decide (low ≤ n_) then
    r0 (decide (n_ ≤ high))
  else
    r0 false
theorem impl_in_gen {α : Type}   (n : Nat) (n_ : Int) (low : Int) (high : Int) (κ : Res → Option α) : evFn Try.prog (impl_in_XG n) Try.f39 (((buildDs impl_in_sh [.int n_, .int low, .int high]).map Prod.fst).getD []) κ = impl_in_body n n_ low high (fun v1 => κ ⟨[.bool v1], []⟩) := by kernel_rfl
theorem impl_in_eq {α : Type} (n : Nat) (n_ : Int) (low : Int) (high : Int) (r0 : Bool → Option α) : impl_in_body n n_ low high r0 = impl_in n n_ low high r0 := (impl_in_body.eq_1 n n_ low high r0).trans (impl_in.eq_1 n n_ low high r0).symm
theorem impl_in_rn {α : Type} (F : T7 α) (n : Nat) (n_ : Int) (low : Int) (high : Int) (κ : Res → Option α) : impl_in_runG F n [.int n_, .int low, .int high] κ = F n n_ low high (fun v1 => κ ⟨[.bool v1], []⟩) := rfl
theorem impl_in_ev {α : Type} (n : Nat) (n_ : Int) (low : Int) (high : Int) (κ : Res → Option α) : evFn Try.prog (impl_in_X n) Try.f39 (((buildDs impl_in_sh [.int n_, .int low, .int high]).map Prod.fst).getD []) κ = impl_in_run n [.int n_, .int low, .int high] κ := (impl_in_gen n n_ low high κ).trans ((impl_in_eq n n_ low high (fun v1 => κ ⟨[.bool v1], []⟩)).trans ((impl_in_run.eq_1 n [.int n_, .int low, .int high] κ).trans (impl_in_rn impl_in n n_ low high κ)).symm)
theorem impl_in_en (n_ : Int) (low : Int) (high : Int) : (entry 0 (((buildDs impl_in_sh [.int n_, .int low, .int high]).map Prod.fst).getD [])).map (fun x => (x.1.length, x.2.lent)) = some (3, []) := by kernel_rfl
theorem impl_in_good {α : Type} : ∀ n, GoodFn (α := α) Try.prog 39 (byShape impl_in_sh (impl_in_run n)) := by
  refine fn_good' Try.func39 (c := (Try.f39.body.getD .skip)) (by kernel_rfl) (by kernel_rfl) (by kernel_rfl) impl_in_C impl_in_M eqs impl_in_lps impl_in_jt (fun n => tabC_good (fun _ h => absurd h List.not_mem_nil)) eqs_ok impl_in_Lt ?_ ?_ impl_in_sh impl_in_run ?_
  · exact (fun _ h => absurd h List.not_mem_nil)
  · exact (fun _ h => absurd h List.not_mem_nil)
  · intro n p κ r ds hd hr
    have hr0 := hr
    unfold impl_in_run impl_in_runG at hr
    split at hr
    · rw [← ds_of hd]
      exact ⟨en_of (impl_in_en _ _ _) ⟨rfl, rfl⟩, (impl_in_ev n _ _ _ κ).trans hr0⟩
    · cases hr

/-! loop.example/g01297/impl.isCoord -/
def impl_isCoord_sh : List SkD := [.int .i64]
def impl_isCoord_runG {α : Type} (F : T8 α) (n : Nat) (p : List P1) (κ : Res → Option α) : Option α := match p with
  | [.int n_] => F n n_ (fun v1 => κ ⟨[.bool v1], []⟩)
  | _ => none
def impl_isCoord_run {α : Type} (n : Nat) (p : List P1) (κ : Res → Option α) : Option α := impl_isCoord_runG impl_isCoord n p κ
def impl_isCoord_CG {α : Type} (F0 : T7 α) (n : Nat) : FuncId → List D → (Res → Option α) → Option α := tabC [(39, (byShape impl_in_sh (impl_in_runG F0 n)))]
def impl_isCoord_C {α : Type} (n : Nat) : FuncId → List D → (Res → Option α) → Option α := impl_isCoord_CG impl_in n
def impl_isCoord_M : FuncId → List Nat := tabM []
def impl_isCoord_lpsG {α : Type}  : List (LoopT α) := []
def impl_isCoord_lps {α : Type} : List (LoopT α) := impl_isCoord_lpsG
def impl_isCoord_jt : Nat → Option Tpl := jtOf []
def impl_isCoord_XG {α : Type} (F0 : T7 α)  (n : Nat) : Ctx α := ⟨impl_isCoord_CG F0 n, impl_isCoord_M, eqs, lpOf (impl_isCoord_lpsG) n, impl_isCoord_jt⟩
def impl_isCoord_X {α : Type} (n : Nat) : Ctx α := impl_isCoord_XG impl_in n
def impl_isCoord_Lt (np : Nat) (lent : List (Bool × Nat × Blk)) : Prop := np = 1 ∧ lent = []
def impl_isCoord_body {α : Type} (F0 : T7 α)  (k : Nat) (n_ : Int) (r0 : Bool → Option α) : Option α :=
  F0 k n_ (-1000000) 1000000 fun v =>
  r0 v
theorem impl_isCoord_gen {α : Type} (F0 : T7 α)  (n : Nat) (n_ : Int) (κ : Res → Option α) : evFn Try.prog (impl_isCoord_XG F0 n) Try.f47 (((buildDs impl_isCoord_sh [.int n_]).map Prod.fst).getD []) κ = impl_isCoord_body F0 n n_ (fun v1 => κ ⟨[.bool v1], []⟩) := by kernel_rfl
theorem impl_isCoord_eq {α : Type} (n : Nat) (n_ : Int) (r0 : Bool → Option α) : impl_isCoord_body impl_in n n_ r0 = impl_isCoord n n_ r0 := (impl_isCoord_body.eq_1 impl_in n n_ r0).trans (impl_isCoord.eq_1 n n_ r0).symm
theorem impl_isCoord_rn {α : Type} (F : T8 α) (n : Nat) (n_ : Int) (κ : Res → Option α) : impl_isCoord_runG F n [.int n_] κ = F n n_ (fun v1 => κ ⟨[.bool v1], []⟩) := rfl
theorem impl_isCoord_ev {α : Type} (n : Nat) (n_ : Int) (κ : Res → Option α) : evFn Try.prog (impl_isCoord_X n) Try.f47 (((buildDs impl_isCoord_sh [.int n_]).map Prod.fst).getD []) κ = impl_isCoord_run n [.int n_] κ := (impl_isCoord_gen impl_in n n_ κ).trans ((impl_isCoord_eq n n_ (fun v1 => κ ⟨[.bool v1], []⟩)).trans ((impl_isCoord_run.eq_1 n [.int n_] κ).trans (impl_isCoord_rn impl_isCoord n n_ κ)).symm)
theorem impl_isCoord_en (n_ : Int) : (entry 0 (((buildDs impl_isCoord_sh [.int n_]).map Prod.fst).getD [])).map (fun x => (x.1.length, x.2.lent)) = some (1, []) := by kernel_rfl
theorem impl_isCoord_good {α : Type} : ∀ n, GoodFn (α := α) Try.prog 47 (byShape impl_isCoord_sh (impl_isCoord_run n)) := by
  refine fn_good' Try.func47 (c := (Try.f47.body.getD .skip)) (by kernel_rfl) (by kernel_rfl) (by kernel_rfl) impl_isCoord_C impl_isCoord_M eqs impl_isCoord_lps impl_isCoord_jt (fun n => tabC_good (List.forall_mem_cons.2 ⟨(impl_in_good n), (fun _ h => absurd h List.not_mem_nil)⟩)) eqs_ok impl_isCoord_Lt ?_ ?_ impl_isCoord_sh impl_isCoord_run ?_
  · exact (fun _ h => absurd h List.not_mem_nil)
  · exact (fun _ h => absurd h List.not_mem_nil)
  · intro n p κ r ds hd hr
    have hr0 := hr
    unfold impl_isCoord_run impl_isCoord_runG at hr
    split at hr
    · rw [← ds_of hd]
      exact ⟨en_of (impl_isCoord_en _) ⟨rfl, rfl⟩, (impl_isCoord_ev n _ κ).trans hr0⟩
    · cases hr

/-! loop.example/g01297/impl.ratioOk -/
def impl_ratioOk_sh : List SkD := [.int .i64, .int .i64]
def impl_ratioOk_runG {α : Type} (F : T9 α) (n : Nat) (p : List P1) (κ : Res → Option α) : Option α := match p with
  | [.int p_, .int q_] => F n p_ q_ (fun v1 => κ ⟨[.bool v1], []⟩)
  | _ => none
def impl_ratioOk_run {α : Type} (n : Nat) (p : List P1) (κ : Res → Option α) : Option α := impl_ratioOk_runG impl_ratioOk n p κ
def impl_ratioOk_CG {α : Type} (F0 : T8 α) (F1 : T7 α) (n : Nat) : FuncId → List D → (Res → Option α) → Option α := tabC [(47, (byShape impl_isCoord_sh (impl_isCoord_runG F0 n))), (39, (byShape impl_in_sh (impl_in_runG F1 n)))]
def impl_ratioOk_C {α : Type} (n : Nat) : FuncId → List D → (Res → Option α) → Option α := impl_ratioOk_CG impl_isCoord impl_in n
def impl_ratioOk_M : FuncId → List Nat := tabM []
def impl_ratioOk_lpsG {α : Type}  : List (LoopT α) := []
def impl_ratioOk_lps {α : Type} : List (LoopT α) := impl_ratioOk_lpsG
def impl_ratioOk_jt : Nat → Option Tpl := jtOf []
def impl_ratioOk_XG {α : Type} (F0 : T8 α) (F1 : T7 α)  (n : Nat) : Ctx α := ⟨impl_ratioOk_CG F0 F1 n, impl_ratioOk_M, eqs, lpOf (impl_ratioOk_lpsG) n, impl_ratioOk_jt⟩
def impl_ratioOk_X {α : Type} (n : Nat) : Ctx α := impl_ratioOk_XG impl_isCoord impl_in n
def impl_ratioOk_Lt (np : Nat) (lent : List (Bool × Nat × Blk)) : Prop := np = 2 ∧ lent = []
def impl_ratioOk_body {α : Type} (F0 : T8 α) (F1 : T7 α)  (k : Nat) (p_ : Int) (q_ : Int) (r0 : Bool → Option α) : Option α :=
  F0 k p_ fun v =>
  bif v then
    F1 k q_ 1 1000000 fun v1 =>
    r0 v1
  else
    r0 false
theorem impl_ratioOk_gen {α : Type} (F0 : T8 α) (F1 : T7 α)  (n : Nat) (p_ : Int) (q_ : Int) (κ : Res → Option α) : evFn Try.prog (impl_ratioOk_XG F0 F1 n) Try.f33 (((buildDs impl_ratioOk_sh [.int p_, .int q_]).map Prod.fst).getD []) κ = impl_ratioOk_body F0 F1 n p_ q_ (fun v1 => κ ⟨[.bool v1], []⟩) := by kernel_rfl
theorem impl_ratioOk_eq {α : Type} (n : Nat) (p_ : Int) (q_ : Int) (r0 : Bool → Option α) : impl_ratioOk_body impl_isCoord impl_in n p_ q_ r0 = impl_ratioOk n p_ q_ r0 := (impl_ratioOk_body.eq_1 impl_isCoord impl_in n p_ q_ r0).trans (impl_ratioOk.eq_1 n p_ q_ r0).symm
theorem impl_ratioOk_rn {α : Type} (F : T9 α) (n : Nat) (p_ : Int) (q_ : Int) (κ : Res → Option α) : impl_ratioOk_runG F n [.int p_, .int q_] κ = F n p_ q_ (fun v1 => κ ⟨[.bool v1], []⟩) := rfl
theorem impl_ratioOk_ev {α : Type} (n : Nat) (p_ : Int) (q_ : Int) (κ : Res → Option α) : evFn Try.prog (impl_ratioOk_X n) Try.f33 (((buildDs impl_ratioOk_sh [.int p_, .int q_]).map Prod.fst).getD []) κ = impl_ratioOk_run n [.int p_, .int q_] κ := (impl_ratioOk_gen impl_isCoord impl_in n p_ q_ κ).trans ((impl_ratioOk_eq n p_ q_ (fun v1 => κ ⟨[.bool v1], []⟩)).trans ((impl_ratioOk_run.eq_1 n [.int p_, .int q_] κ).trans (impl_ratioOk_rn impl_ratioOk n p_ q_ κ)).symm)
theorem impl_ratioOk_en (p_ : Int) (q_ : Int) : (entry 0 (((buildDs impl_ratioOk_sh [.int p_, .int q_]).map Prod.fst).getD [])).map (fun x => (x.1.length, x.2.lent)) = some (2, []) := by kernel_rfl
theorem impl_ratioOk_good {α : Type} : ∀ n, GoodFn (α := α) Try.prog 33 (byShape impl_ratioOk_sh (impl_ratioOk_run n)) := by
  refine fn_good' Try.func33 (c := (Try.f33.body.getD .skip)) (by kernel_rfl) (by kernel_rfl) (by kernel_rfl) impl_ratioOk_C impl_ratioOk_M eqs impl_ratioOk_lps impl_ratioOk_jt (fun n => tabC_good (List.forall_mem_cons.2 ⟨(impl_isCoord_good n), (List.forall_mem_cons.2 ⟨(impl_in_good n), (fun _ h => absurd h List.not_mem_nil)⟩)⟩)) eqs_ok impl_ratioOk_Lt ?_ ?_ impl_ratioOk_sh impl_ratioOk_run ?_
  · exact (fun _ h => absurd h List.not_mem_nil)
  · exact (fun _ h => absurd h List.not_mem_nil)
  · intro n p κ r ds hd hr
    have hr0 := hr
    unfold impl_ratioOk_run impl_ratioOk_runG at hr
    split at hr
    · rw [← ds_of hd]
      exact ⟨en_of (impl_ratioOk_en _ _) ⟨rfl, rfl⟩, (impl_ratioOk_ev n _ _ κ).trans hr0⟩
    · cases hr

/-! loop.example/g01297/impl.bestOk -/
def impl_bestOk_sh : List SkD := [.int .i64, .int .i64, .int .i64]
def impl_bestOk_runG {α : Type} (F : T7 α) (n : Nat) (p : List P1) (κ : Res → Option α) : Option α := match p with
  | [.int p_, .int q_, .int n_] => F n p_ q_ n_ (fun v1 => κ ⟨[.bool v1], []⟩)
  | _ => none
def impl_bestOk_run {α : Type} (n : Nat) (p : List P1) (κ : Res → Option α) : Option α := impl_bestOk_runG impl_bestOk n p κ
def impl_bestOk_CG {α : Type} (F0 : T9 α) (F1 : T7 α) (n : Nat) : FuncId → List D → (Res → Option α) → Option α := tabC [(33, (byShape impl_ratioOk_sh (impl_ratioOk_runG F0 n))), (39, (byShape impl_in_sh (impl_in_runG F1 n)))]
def impl_bestOk_C {α : Type} (n : Nat) : FuncId → List D → (Res → Option α) → Option α := impl_bestOk_CG impl_ratioOk impl_in n
def impl_bestOk_M : FuncId → List Nat := tabM []
def impl_bestOk_lpsG {α : Type}  : List (LoopT α) := []
def impl_bestOk_lps {α : Type} : List (LoopT α) := impl_bestOk_lpsG
def impl_bestOk_jt : Nat → Option Tpl := jtOf []
def impl_bestOk_XG {α : Type} (F0 : T9 α) (F1 : T7 α)  (n : Nat) : Ctx α := ⟨impl_bestOk_CG F0 F1 n, impl_bestOk_M, eqs, lpOf (impl_bestOk_lpsG) n, impl_bestOk_jt⟩
def impl_bestOk_X {α : Type} (n : Nat) : Ctx α := impl_bestOk_XG impl_ratioOk impl_in n
def impl_bestOk_Lt (np : Nat) (lent : List (Bool × Nat × Blk)) : Prop := np = 3 ∧ lent = []
def impl_bestOk_body {α : Type} (F0 : T9 α) (F1 : T7 α)  (k : Nat) (p_ : Int) (q_ : Int) (n_ : Int) (r0 : Bool → Option α) : Option α :=
  F0 k p_ q_ fun v =>
  bif v then
    F1 k n_ 1 100000 fun v1 =>
    r0 v1
  else
    r0 false
theorem impl_bestOk_gen {α : Type} (F0 : T9 α) (F1 : T7 α)  (n : Nat) (p_ : Int) (q_ : Int) (n_ : Int) (κ : Res → Option α) : evFn Try.prog (impl_bestOk_XG F0 F1 n) Try.f22 (((buildDs impl_bestOk_sh [.int p_, .int q_, .int n_]).map Prod.fst).getD []) κ = impl_bestOk_body F0 F1 n p_ q_ n_ (fun v1 => κ ⟨[.bool v1], []⟩) := by kernel_rfl
theorem impl_bestOk_eq {α : Type} (n : Nat) (p_ : Int) (q_ : Int) (n_ : Int) (r0 : Bool → Option α) : impl_bestOk_body impl_ratioOk impl_in n p_ q_ n_ r0 = impl_bestOk n p_ q_ n_ r0 := (impl_bestOk_body.eq_1 impl_ratioOk impl_in n p_ q_ n_ r0).trans (impl_bestOk.eq_1 n p_ q_ n_ r0).symm
theorem impl_bestOk_rn {α : Type} (F : T7 α) (n : Nat) (p_ : Int) (q_ : Int) (n_ : Int) (κ : Res → Option α) : impl_bestOk_runG F n [.int p_, .int q_, .int n_] κ = F n p_ q_ n_ (fun v1 => κ ⟨[.bool v1], []⟩) := rfl
theorem impl_bestOk_ev {α : Type} (n : Nat) (p_ : Int) (q_ : Int) (n_ : Int) (κ : Res → Option α) : evFn Try.prog (impl_bestOk_X n) Try.f22 (((buildDs impl_bestOk_sh [.int p_, .int q_, .int n_]).map Prod.fst).getD []) κ = impl_bestOk_run n [.int p_, .int q_, .int n_] κ := (impl_bestOk_gen impl_ratioOk impl_in n p_ q_ n_ κ).trans ((impl_bestOk_eq n p_ q_ n_ (fun v1 => κ ⟨[.bool v1], []⟩)).trans ((impl_bestOk_run.eq_1 n [.int p_, .int q_, .int n_] κ).trans (impl_bestOk_rn impl_bestOk n p_ q_ n_ κ)).symm)
theorem impl_bestOk_en (p_ : Int) (q_ : Int) (n_ : Int) : (entry 0 (((buildDs impl_bestOk_sh [.int p_, .int q_, .int n_]).map Prod.fst).getD [])).map (fun x => (x.1.length, x.2.lent)) = some (3, []) := by kernel_rfl
theorem impl_bestOk_good {α : Type} : ∀ n, GoodFn (α := α) Try.prog 22 (byShape impl_bestOk_sh (impl_bestOk_run n)) := by
  refine fn_good' Try.func22 (c := (Try.f22.body.getD .skip)) (by kernel_rfl) (by kernel_rfl) (by kernel_rfl) impl_bestOk_C impl_bestOk_M eqs impl_bestOk_lps impl_bestOk_jt (fun n => tabC_good (List.forall_mem_cons.2 ⟨(impl_ratioOk_good n), (List.forall_mem_cons.2 ⟨(impl_in_good n), (fun _ h => absurd h List.not_mem_nil)⟩)⟩)) eqs_ok impl_bestOk_Lt ?_ ?_ impl_bestOk_sh impl_bestOk_run ?_
  · exact (fun _ h => absurd h List.not_mem_nil)
  · exact (fun _ h => absurd h List.not_mem_nil)
  · intro n p κ r ds hd hr
    have hr0 := hr
    unfold impl_bestOk_run impl_bestOk_runG at hr
    split at hr
    · rw [← ds_of hd]
      exact ⟨en_of (impl_bestOk_en _ _ _) ⟨rfl, rfl⟩, (impl_bestOk_ev n _ _ _ κ).trans hr0⟩
    · cases hr

/-! loop.example/g01297/impl.floor -/
def impl_floor_sh : List SkD := [.int .i64, .int .i64]
def impl_floor_runG {α : Type} (F : T10 α) (n : Nat) (p : List P1) (κ : Res → Option α) : Option α := match p with
  | [.int a, .int b_] => F n a b_ (fun v1 => κ ⟨[.int .i64 v1], []⟩)
  | _ => none
def impl_floor_run {α : Type} (n : Nat) (p : List P1) (κ : Res → Option α) : Option α := impl_floor_runG impl_floor n p κ
def impl_floor_CG {α : Type}  (n : Nat) : FuncId → List D → (Res → Option α) → Option α := tabC []
def impl_floor_C {α : Type} (n : Nat) : FuncId → List D → (Res → Option α) → Option α := impl_floor_CG n
def impl_floor_M : FuncId → List Nat := tabM []
def impl_floor_lpsG {α : Type}  : List (LoopT α) := []
def impl_floor_lps {α : Type} : List (LoopT α) := impl_floor_lpsG
def impl_floor_jt : Nat → Option Tpl := jtOf []
def impl_floor_XG {α : Type}   (n : Nat) : Ctx α := ⟨impl_floor_CG n, impl_floor_M, eqs, lpOf (impl_floor_lpsG) n, impl_floor_jt⟩
def impl_floor_X {α : Type} (n : Nat) : Ctx α := impl_floor_XG n
def impl_floor_Lt (np : Nat) (lent : List (Bool × Nat × Blk)) : Prop := np = 2 ∧ lent = []
def impl_floor_body {α : Type}   (k : Nat) (a : Int) (b_ : Int) (r0 : Int → Option α) : Option α :=
  bif decide (b_ = 0) then
    none
  else
  bif decide (b_ = 0) then
    none
  else
  bif (!decide ((Int.tmod a b_) = 0)) then
    bif (!(decide (a < 0) == decide (b_ < 0))) then
      r0 (w64 ((w64 (Int.tdiv a b_)) - 1))
    else
      r0 (w64 (Int.tdiv a b_))
  else
    r0 (w64 (Int.tdiv a b_))
theorem impl_floor_gen {α : Type}   (n : Nat) (a : Int) (b_ : Int) (κ : Res → Option α) : evFn Try.prog (impl_floor_XG n) Try.f40 (((buildDs impl_floor_sh [.int a, .int b_]).map Prod.fst).getD []) κ = impl_floor_body n a b_ (fun v1 => κ ⟨[.int .i64 v1], []⟩) := by kernel_rfl
theorem impl_floor_eq {α : Type} (n : Nat) (a : Int) (b_ : Int) (r0 : Int → Option α) : impl_floor_body n a b_ r0 = impl_floor n a b_ r0 := (impl_floor_body.eq_1 n a b_ r0).trans (impl_floor.eq_1 n a b_ r0).symm
theorem impl_floor_rn {α : Type} (F : T10 α) (n : Nat) (a : Int) (b_ : Int) (κ : Res → Option α) : impl_floor_runG F n [.int a, .int b_] κ = F n a b_ (fun v1 => κ ⟨[.int .i64 v1], []⟩) := rfl
theorem impl_floor_ev {α : Type} (n : Nat) (a : Int) (b_ : Int) (κ : Res → Option α) : evFn Try.prog (impl_floor_X n) Try.f40 (((buildDs impl_floor_sh [.int a, .int b_]).map Prod.fst).getD []) κ = impl_floor_run n [.int a, .int b_] κ := (impl_floor_gen n a b_ κ).trans ((impl_floor_eq n a b_ (fun v1 => κ ⟨[.int .i64 v1], []⟩)).trans ((impl_floor_run.eq_1 n [.int a, .int b_] κ).trans (impl_floor_rn impl_floor n a b_ κ)).symm)
theorem impl_floor_en (a : Int) (b_ : Int) : (entry 0 (((buildDs impl_floor_sh [.int a, .int b_]).map Prod.fst).getD [])).map (fun x => (x.1.length, x.2.lent)) = some (2, []) := by kernel_rfl
theorem impl_floor_good {α : Type} : ∀ n, GoodFn (α := α) Try.prog 40 (byShape impl_floor_sh (impl_floor_run n)) := by
  refine fn_good' Try.func40 (c := (Try.f40.body.getD .skip)) (by kernel_rfl) (by kernel_rfl) (by kernel_rfl) impl_floor_C impl_floor_M eqs impl_floor_lps impl_floor_jt (fun n => tabC_good (fun _ h => absurd h List.not_mem_nil)) eqs_ok impl_floor_Lt ?_ ?_ impl_floor_sh impl_floor_run ?_
  · exact (fun _ h => absurd h List.not_mem_nil)
  · exact (fun _ h => absurd h List.not_mem_nil)
  · intro n p κ r ds hd hr
    have hr0 := hr
    unfold impl_floor_run impl_floor_runG at hr
    split at hr
    · rw [← ds_of hd]
      exact ⟨en_of (impl_floor_en _ _) ⟨rfl, rfl⟩, (impl_floor_ev n _ _ κ).trans hr0⟩
    · cases hr

/-! loop.example/g01297/impl.size -/
def impl_size_sh : List SkD := [.int .i64]
def impl_size_runG {α : Type} (F : T11 α) (n : Nat) (p : List P1) (κ : Res → Option α) : Option α := match p with
  | [.int n_] => F n n_ (fun v1 => κ ⟨[.int .i64 v1], []⟩)
  | _ => none
def impl_size_run {α : Type} (n : Nat) (p : List P1) (κ : Res → Option α) : Option α := impl_size_runG impl_size n p κ
def impl_size_CG {α : Type}  (n : Nat) : FuncId → List D → (Res → Option α) → Option α := tabC []
def impl_size_C {α : Type} (n : Nat) : FuncId → List D → (Res → Option α) → Option α := impl_size_CG n
def impl_size_M : FuncId → List Nat := tabM []
def impl_size_lpsG {α : Type}  : List (LoopT α) := []
def impl_size_lps {α : Type} : List (LoopT α) := impl_size_lpsG
def impl_size_jt : Nat → Option Tpl := jtOf []
def impl_size_XG {α : Type}   (n : Nat) : Ctx α := ⟨impl_size_CG n, impl_size_M, eqs, lpOf (impl_size_lpsG) n, impl_size_jt⟩
def impl_size_X {α : Type} (n : Nat) : Ctx α := impl_size_XG n
def impl_size_Lt (np : Nat) (lent : List (Bool × Nat × Blk)) : Prop := np = 1 ∧ lent = []
def impl_size_body {α : Type}   (k : Nat) (n_ : Int) (r0 : Int → Option α) : Option α :=
  r0 (max n_ (w64 (0 - n_)))
theorem impl_size_gen {α : Type}   (n : Nat) (n_ : Int) (κ : Res → Option α) : evFn Try.prog (impl_size_XG n) Try.f41 (((buildDs impl_size_sh [.int n_]).map Prod.fst).getD []) κ = impl_size_body n n_ (fun v1 => κ ⟨[.int .i64 v1], []⟩) := by kernel_rfl
theorem impl_size_eq {α : Type} (n : Nat) (n_ : Int) (r0 : Int → Option α) : impl_size_body n n_ r0 = impl_size n n_ r0 := (impl_size_body.eq_1 n n_ r0).trans (impl_size.eq_1 n n_ r0).symm
theorem impl_size_rn {α : Type} (F : T11 α) (n : Nat) (n_ : Int) (κ : Res → Option α) : impl_size_runG F n [.int n_] κ = F n n_ (fun v1 => κ ⟨[.int .i64 v1], []⟩) := rfl
theorem impl_size_ev {α : Type} (n : Nat) (n_ : Int) (κ : Res → Option α) : evFn Try.prog (impl_size_X n) Try.f41 (((buildDs impl_size_sh [.int n_]).map Prod.fst).getD []) κ = impl_size_run n [.int n_] κ := (impl_size_gen n n_ κ).trans ((impl_size_eq n n_ (fun v1 => κ ⟨[.int .i64 v1], []⟩)).trans ((impl_size_run.eq_1 n [.int n_] κ).trans (impl_size_rn impl_size n n_ κ)).symm)
theorem impl_size_en (n_ : Int) : (entry 0 (((buildDs impl_size_sh [.int n_]).map Prod.fst).getD [])).map (fun x => (x.1.length, x.2.lent)) = some (1, []) := by kernel_rfl
theorem impl_size_good {α : Type} : ∀ n, GoodFn (α := α) Try.prog 41 (byShape impl_size_sh (impl_size_run n)) := by
  refine fn_good' Try.func41 (c := (Try.f41.body.getD .skip)) (by kernel_rfl) (by kernel_rfl) (by kernel_rfl) impl_size_C impl_size_M eqs impl_size_lps impl_size_jt (fun n => tabC_good (fun _ h => absurd h List.not_mem_nil)) eqs_ok impl_size_Lt ?_ ?_ impl_size_sh impl_size_run ?_
  · exact (fun _ h => absurd h List.not_mem_nil)
  · exact (fun _ h => absurd h List.not_mem_nil)
  · intro n p κ r ds hd hr
    have hr0 := hr
    unfold impl_size_run impl_size_runG at hr
    split at hr
    · rw [← ds_of hd]
      exact ⟨en_of (impl_size_en _) ⟨rfl, rfl⟩, (impl_size_ev n _ κ).trans hr0⟩
    · cases hr

/-! loop.example/g01297/impl.BestOfSecond$1 -/
def impl_BestOfSecond_1_sh : List SkD := [.int .i64]
def impl_BestOfSecond_1_runG {α : Type} (F : T11 α) (n : Nat) (p : List P1) (κ : Res → Option α) : Option α := match p with
  | [.int x] => F n x (fun v1 => κ ⟨[.int .i64 v1], []⟩)
  | _ => none
def impl_BestOfSecond_1_run {α : Type} (n : Nat) (p : List P1) (κ : Res → Option α) : Option α := impl_BestOfSecond_1_runG impl_BestOfSecond_1 n p κ
def impl_BestOfSecond_1_CG {α : Type}  (n : Nat) : FuncId → List D → (Res → Option α) → Option α := tabC []
def impl_BestOfSecond_1_C {α : Type} (n : Nat) : FuncId → List D → (Res → Option α) → Option α := impl_BestOfSecond_1_CG n
def impl_BestOfSecond_1_M : FuncId → List Nat := tabM []
def impl_BestOfSecond_1_lpsG {α : Type}  : List (LoopT α) := []
def impl_BestOfSecond_1_lps {α : Type} : List (LoopT α) := impl_BestOfSecond_1_lpsG
def impl_BestOfSecond_1_jt : Nat → Option Tpl := jtOf []
def impl_BestOfSecond_1_XG {α : Type}   (n : Nat) : Ctx α := ⟨impl_BestOfSecond_1_CG n, impl_BestOfSecond_1_M, eqs, lpOf (impl_BestOfSecond_1_lpsG) n, impl_BestOfSecond_1_jt⟩
def impl_BestOfSecond_1_X {α : Type} (n : Nat) : Ctx α := impl_BestOfSecond_1_XG n
def impl_BestOfSecond_1_Lt (np : Nat) (lent : List (Bool × Nat × Blk)) : Prop := np = 1 ∧ lent = []
def impl_BestOfSecond_1_body {α : Type}   (k : Nat) (x : Int) (r0 : Int → Option α) : Option α :=
  r0 1
theorem impl_BestOfSecond_1_gen {α : Type}   (n : Nat) (x : Int) (κ : Res → Option α) : evFn Try.prog (impl_BestOfSecond_1_XG n) Try.f24 (((buildDs impl_BestOfSecond_1_sh [.int x]).map Prod.fst).getD []) κ = impl_BestOfSecond_1_body n x (fun v1 => κ ⟨[.int .i64 v1], []⟩) := by kernel_rfl
theorem impl_BestOfSecond_1_eq {α : Type} (n : Nat) (x : Int) (r0 : Int → Option α) : impl_BestOfSecond_1_body n x r0 = impl_BestOfSecond_1 n x r0 := (impl_BestOfSecond_1_body.eq_1 n x r0).trans (impl_BestOfSecond_1.eq_1 n x r0).symm
theorem impl_BestOfSecond_1_rn {α : Type} (F : T11 α) (n : Nat) (x : Int) (κ : Res → Option α) : impl_BestOfSecond_1_runG F n [.int x] κ = F n x (fun v1 => κ ⟨[.int .i64 v1], []⟩) := rfl
theorem impl_BestOfSecond_1_ev {α : Type} (n : Nat) (x : Int) (κ : Res → Option α) : evFn Try.prog (impl_BestOfSecond_1_X n) Try.f24 (((buildDs impl_BestOfSecond_1_sh [.int x]).map Prod.fst).getD []) κ = impl_BestOfSecond_1_run n [.int x] κ := (impl_BestOfSecond_1_gen n x κ).trans ((impl_BestOfSecond_1_eq n x (fun v1 => κ ⟨[.int .i64 v1], []⟩)).trans ((impl_BestOfSecond_1_run.eq_1 n [.int x] κ).trans (impl_BestOfSecond_1_rn impl_BestOfSecond_1 n x κ)).symm)
theorem impl_BestOfSecond_1_en (x : Int) : (entry 0 (((buildDs impl_BestOfSecond_1_sh [.int x]).map Prod.fst).getD [])).map (fun x => (x.1.length, x.2.lent)) = some (1, []) := by kernel_rfl
theorem impl_BestOfSecond_1_good {α : Type} : ∀ n, GoodFn (α := α) Try.prog 24 (byShape impl_BestOfSecond_1_sh (impl_BestOfSecond_1_run n)) := by
  refine fn_good' Try.func24 (c := (Try.f24.body.getD .skip)) (by kernel_rfl) (by kernel_rfl) (by kernel_rfl) impl_BestOfSecond_1_C impl_BestOfSecond_1_M eqs impl_BestOfSecond_1_lps impl_BestOfSecond_1_jt (fun n => tabC_good (fun _ h => absurd h List.not_mem_nil)) eqs_ok impl_BestOfSecond_1_Lt ?_ ?_ impl_BestOfSecond_1_sh impl_BestOfSecond_1_run ?_
  · exact (fun _ h => absurd h List.not_mem_nil)
  · exact (fun _ h => absurd h List.not_mem_nil)
  · intro n p κ r ds hd hr
    have hr0 := hr
    unfold impl_BestOfSecond_1_run impl_BestOfSecond_1_runG at hr
    split at hr
    · rw [← ds_of hd]
      exact ⟨en_of (impl_BestOfSecond_1_en _) ⟨rfl, rfl⟩, (impl_BestOfSecond_1_ev n _ κ).trans hr0⟩
    · cases hr

/-! loop.example/g01297/impl.records -/
def impl_records_3F_impl_BestOfSecond_1_sh : List SkD := [.int .i64, .int .i64, .int .i64, .fn 24 []]
def impl_records_3F_impl_BestOfSecond_1_runG {α : Type} (F : T12 α) (n : Nat) (p : List P1) (κ : Res → Option α) : Option α := match p with
  | [.int p_, .int q_, .int n_] => F n p_ q_ n_ (fun v1 => κ ⟨[.sl 31 .pt v1], []⟩)
  | _ => none
def impl_records_3F_impl_BestOfSecond_1_run {α : Type} (n : Nat) (p : List P1) (κ : Res → Option α) : Option α := impl_records_3F_impl_BestOfSecond_1_runG impl_records_3F_impl_BestOfSecond_1 n p κ
def impl_records_3F_impl_BestOfSecond_1_CG {α : Type} (F0 : T10 α) (F1 : T11 α) (F2 : T11 α) (n : Nat) : FuncId → List D → (Res → Option α) → Option α := tabC [(40, (byShape impl_floor_sh (impl_floor_runG F0 n))), (41, (byShape impl_size_sh (impl_size_runG F1 n))), (24, (byShape impl_BestOfSecond_1_sh (impl_BestOfSecond_1_runG F2 n)))]
def impl_records_3F_impl_BestOfSecond_1_C {α : Type} (n : Nat) : FuncId → List D → (Res → Option α) → Option α := impl_records_3F_impl_BestOfSecond_1_CG impl_floor impl_size impl_BestOfSecond_1 n
def impl_records_3F_impl_BestOfSecond_1_M : FuncId → List Nat := tabM []
def impl_records_3F_impl_BestOfSecond_1_t3 : Tpl := ⟨[.int .i64, .int .i64, .int .i64, .fn 24 [], .any, .any, .any, .any, .any, .sl 1024, .int .i64, .int .i64, .int .i64, .any, .any, .any, .any, .any, .any, .any, .any, .any, .any, .any, .any, .any, .any, .any, .any, .any, .any, .any, .any, .any, .any, .any, .any, .any, .any, .any, .any, .any, .any, .any, .any, .any, .any, .any, .any, .any, .any, .any, .any, .any, .any, .any, .any, .any, .any, .any, .any, .any, .any, .any, .any, .any, .any, .any, .any, .any, .any, .any], [(1024, .rows 2 31 .pt)], []⟩
def impl_records_3F_impl_BestOfSecond_1_uG3 {α : Type} (G : Nat → Int → Int → Int → Int → Int → Int → (List (Int × Int)) → (Int → Int → Int → Int → Int → Int → (List (Int × Int)) → Option α) → ((List (Int × Int)) → Option α) → Option α) (n : Nat) (p : List P1) (brk : Nat → List P1 → Option α) (ret : Res → Option α) : Option α := match p with
  | [.int p_1, .int q_1, .int n_1, .int best, .int bestBy, .int k_, .rows .pt out] => G n p_1 q_1 n_1 best bestBy k_ out (fun p_1 q_1 n_1 best bestBy k_ out => brk 0 [.int p_1, .int q_1, .int n_1, .int best, .int bestBy, .int k_, .rows .pt out]) (fun v1 => ret ⟨[.sl 31 .pt v1], []⟩)
  | _ => none
def impl_records_3F_impl_BestOfSecond_1_u3 {α : Type} (n : Nat) (p : List P1) (brk : Nat → List P1 → Option α) (ret : Res → Option α) : Option α := impl_records_3F_impl_BestOfSecond_1_uG3 impl_records_3F_impl_BestOfSecond_1_l3 n p brk ret
def impl_records_3F_impl_BestOfSecond_1_lpsG {α : Type} (G3 : Nat → Int → Int → Int → Int → Int → Int → (List (Int × Int)) → (Int → Int → Int → Int → Int → Int → (List (Int × Int)) → Option α) → ((List (Int × Int)) → Option α) → Option α) : List (LoopT α) := [⟨3, impl_records_3F_impl_BestOfSecond_1_t3, impl_records_3F_impl_BestOfSecond_1_uG3 G3⟩]
def impl_records_3F_impl_BestOfSecond_1_lps {α : Type} : List (LoopT α) := impl_records_3F_impl_BestOfSecond_1_lpsG impl_records_3F_impl_BestOfSecond_1_l3
def impl_records_3F_impl_BestOfSecond_1_jt : Nat → Option Tpl := jtOf []
def impl_records_3F_impl_BestOfSecond_1_XG {α : Type} (F0 : T10 α) (F1 : T11 α) (F2 : T11 α) (G3 : Nat → Int → Int → Int → Int → Int → Int → (List (Int × Int)) → (Int → Int → Int → Int → Int → Int → (List (Int × Int)) → Option α) → ((List (Int × Int)) → Option α) → Option α) (n : Nat) : Ctx α := ⟨impl_records_3F_impl_BestOfSecond_1_CG F0 F1 F2 n, impl_records_3F_impl_BestOfSecond_1_M, eqs, lpOf (impl_records_3F_impl_BestOfSecond_1_lpsG G3) n, impl_records_3F_impl_BestOfSecond_1_jt⟩
def impl_records_3F_impl_BestOfSecond_1_X {α : Type} (n : Nat) : Ctx α := impl_records_3F_impl_BestOfSecond_1_XG impl_floor impl_size impl_BestOfSecond_1 impl_records_3F_impl_BestOfSecond_1_l3 n
def impl_records_3F_impl_BestOfSecond_1_Lt (np : Nat) (lent : List (Bool × Nat × Blk)) : Prop := np = 4 ∧ lent = []
def impl_records_3F_impl_BestOfSecond_1_lb3 {α : Type} (F0 : T10 α) (F1 : T11 α) (F2 : T11 α) (G3 : Nat → Int → Int → Int → Int → Int → Int → (List (Int × Int)) → (Int → Int → Int → Int → Int → Int → (List (Int × Int)) → Option α) → ((List (Int × Int)) → Option α) → Option α) (k : Nat) (p_1 : Int) (q_1 : Int) (n_1 : Int) (best : Int) (bestBy : Int) (k_ : Int) (out : List (Int × Int)) (b0 : Int → Int → Int → Int → Int → Int → (List (Int × Int)) → Option α) (r0 : (List (Int × Int)) → Option α) : Option α :=
  bif decide (k_ ≤ n_1) then
    F0 k (w64 (k_ * p_1)) q_1 fun v =>
    bif decide (q_1 < (w64 (2 * (w64 ((w64 (k_ * p_1)) - (w64 (v * q_1))))))) then
      F1 k (w64 ((w64 (k_ * p_1)) - (w64 ((w64 (v + 1)) * q_1)))) fun v1 =>
      bif decide (bestBy = 0) then
        bif decide (((List.length out) + 1) ≤ big) then
          F2 k k_ fun v2 =>
          G3 k p_1 q_1 n_1 v1 v2 (w64 (k_ + 1)) (out ++ [((w64 (v + 1)), k_)]) b0 r0
        else
          none
      else
        F2 k k_ fun v3 =>
        bif decide ((w64 (v1 * bestBy)) < (w64 (best * v3))) then
          bif decide (((List.length out) + 1) ≤ big) then
            F2 k k_ fun v4 =>
            G3 k p_1 q_1 n_1 v1 v4 (w64 (k_ + 1)) (out ++ [((w64 (v + 1)), k_)]) b0 r0
          else
            none
        else
          G3 k p_1 q_1 n_1 best bestBy (w64 (k_ + 1)) out b0 r0
    else
      F1 k (w64 ((w64 (k_ * p_1)) - (w64 (v * q_1)))) fun v5 =>
      bif decide (bestBy = 0) then
        bif decide (((List.length out) + 1) ≤ big) then
          F2 k k_ fun v6 =>
          G3 k p_1 q_1 n_1 v5 v6 (w64 (k_ + 1)) (out ++ [(v, k_)]) b0 r0
        else
          none
      else
        F2 k k_ fun v7 =>
        bif decide ((w64 (v5 * bestBy)) < (w64 (best * v7))) then
          bif decide (((List.length out) + 1) ≤ big) then
            F2 k k_ fun v8 =>
            G3 k p_1 q_1 n_1 v5 v8 (w64 (k_ + 1)) (out ++ [(v, k_)]) b0 r0
          else
            none
        else
          G3 k p_1 q_1 n_1 best bestBy (w64 (k_ + 1)) out b0 r0
  else
    b0 p_1 q_1 n_1 best bestBy k_ out
theorem impl_records_3F_impl_BestOfSecond_1_l3_gen {α : Type} (F0 : T10 α) (F1 : T11 α) (F2 : T11 α) (G3 : Nat → Int → Int → Int → Int → Int → Int → (List (Int × Int)) → (Int → Int → Int → Int → Int → Int → (List (Int × Int)) → Option α) → ((List (Int × Int)) → Option α) → Option α) (n : Nat) (p_1 : Int) (q_1 : Int) (n_1 : Int) (best : Int) (bestBy : Int) (k_ : Int) (out : List (Int × Int)) (brk : Nat → List P1 → Option α) (ret : Res → Option α) : ev ((impl_records_3F_impl_BestOfSecond_1_XG F0 F1 F2 G3 n).env Try.prog Try.f23 4 []) (findLoop (loopsIn (Try.f23.body.getD .skip)) 3) ((impl_records_3F_impl_BestOfSecond_1_t3.build [.int p_1, .int q_1, .int n_1, .int best, .int bestBy, .int k_, .rows .pt out]).getD ⟨[], []⟩) (roundK (4 * 64) impl_records_3F_impl_BestOfSecond_1_t3 (fun q => impl_records_3F_impl_BestOfSecond_1_uG3 G3 n q brk ret) brk ret) = impl_records_3F_impl_BestOfSecond_1_lb3 F0 F1 F2 G3 n p_1 q_1 n_1 best bestBy k_ out (fun p_1 q_1 n_1 best bestBy k_ out => brk 0 [.int p_1, .int q_1, .int n_1, .int best, .int bestBy, .int k_, .rows .pt out]) (fun v1 => ret ⟨[.sl 31 .pt v1], []⟩) := by kernel_rfl
theorem impl_records_3F_impl_BestOfSecond_1_l3_eq {α : Type} (k : Nat) (p_1 : Int) (q_1 : Int) (n_1 : Int) (best : Int) (bestBy : Int) (k_ : Int) (out : List (Int × Int)) (b0 : Int → Int → Int → Int → Int → Int → (List (Int × Int)) → Option α) (r0 : (List (Int × Int)) → Option α) : impl_records_3F_impl_BestOfSecond_1_lb3 impl_floor impl_size impl_BestOfSecond_1 impl_records_3F_impl_BestOfSecond_1_l3 k p_1 q_1 n_1 best bestBy k_ out b0 r0 = impl_records_3F_impl_BestOfSecond_1_l3 (k + 1) p_1 q_1 n_1 best bestBy k_ out b0 r0 := (impl_records_3F_impl_BestOfSecond_1_lb3.eq_1 impl_floor impl_size impl_BestOfSecond_1 impl_records_3F_impl_BestOfSecond_1_l3 k p_1 q_1 n_1 best bestBy k_ out b0 r0).trans (show impl_records_3F_impl_BestOfSecond_1_l3 (k + 1) p_1 q_1 n_1 best bestBy k_ out b0 r0 = _ from impl_records_3F_impl_BestOfSecond_1_l3.eq_2 _ _ _ _ _ _ _ _ _ _ ).symm
theorem impl_records_3F_impl_BestOfSecond_1_l3_rn {α : Type} (G : Nat → Int → Int → Int → Int → Int → Int → (List (Int × Int)) → (Int → Int → Int → Int → Int → Int → (List (Int × Int)) → Option α) → ((List (Int × Int)) → Option α) → Option α) (n : Nat) (p_1 : Int) (q_1 : Int) (n_1 : Int) (best : Int) (bestBy : Int) (k_ : Int) (out : List (Int × Int)) (brk : Nat → List P1 → Option α) (ret : Res → Option α) : impl_records_3F_impl_BestOfSecond_1_uG3 G n [.int p_1, .int q_1, .int n_1, .int best, .int bestBy, .int k_, .rows .pt out] brk ret = G n p_1 q_1 n_1 best bestBy k_ out (fun p_1 q_1 n_1 best bestBy k_ out => brk 0 [.int p_1, .int q_1, .int n_1, .int best, .int bestBy, .int k_, .rows .pt out]) (fun v1 => ret ⟨[.sl 31 .pt v1], []⟩) := rfl
theorem impl_records_3F_impl_BestOfSecond_1_l3_ev {α : Type} (n : Nat) (p_1 : Int) (q_1 : Int) (n_1 : Int) (best : Int) (bestBy : Int) (k_ : Int) (out : List (Int × Int)) (brk : Nat → List P1 → Option α) (ret : Res → Option α) : ev ((impl_records_3F_impl_BestOfSecond_1_X n).env Try.prog Try.f23 4 []) (findLoop (loopsIn (Try.f23.body.getD .skip)) 3) ((impl_records_3F_impl_BestOfSecond_1_t3.build [.int p_1, .int q_1, .int n_1, .int best, .int bestBy, .int k_, .rows .pt out]).getD ⟨[], []⟩) (roundK (4 * 64) impl_records_3F_impl_BestOfSecond_1_t3 (fun q => impl_records_3F_impl_BestOfSecond_1_u3 n q brk ret) brk ret) = impl_records_3F_impl_BestOfSecond_1_u3 (n + 1) [.int p_1, .int q_1, .int n_1, .int best, .int bestBy, .int k_, .rows .pt out] brk ret := (impl_records_3F_impl_BestOfSecond_1_l3_gen impl_floor impl_size impl_BestOfSecond_1 impl_records_3F_impl_BestOfSecond_1_l3 n p_1 q_1 n_1 best bestBy k_ out brk ret).trans ((impl_records_3F_impl_BestOfSecond_1_l3_eq n p_1 q_1 n_1 best bestBy k_ out (fun p_1 q_1 n_1 best bestBy k_ out => brk 0 [.int p_1, .int q_1, .int n_1, .int best, .int bestBy, .int k_, .rows .pt out]) (fun v1 => ret ⟨[.sl 31 .pt v1], []⟩)).trans ((impl_records_3F_impl_BestOfSecond_1_u3.eq_1 (n + 1) [.int p_1, .int q_1, .int n_1, .int best, .int bestBy, .int k_, .rows .pt out] brk ret).trans (impl_records_3F_impl_BestOfSecond_1_l3_rn impl_records_3F_impl_BestOfSecond_1_l3 (n + 1) p_1 q_1 n_1 best bestBy k_ out brk ret)).symm)
def impl_records_3F_impl_BestOfSecond_1_body {α : Type} (F0 : T10 α) (F1 : T11 α) (F2 : T11 α) (G3 : Nat → Int → Int → Int → Int → Int → Int → (List (Int × Int)) → (Int → Int → Int → Int → Int → Int → (List (Int × Int)) → Option α) → ((List (Int × Int)) → Option α) → Option α) (k : Nat) (p_ : Int) (q_ : Int) (n_ : Int) (r0 : (List (Int × Int)) → Option α) : Option α :=
  G3 k p_ q_ n_ 0 0 1 []
    (fun _ _ _ _ _ _ out1 =>
      r0 out1)
    r0
theorem impl_records_3F_impl_BestOfSecond_1_gen {α : Type} (F0 : T10 α) (F1 : T11 α) (F2 : T11 α) (G3 : Nat → Int → Int → Int → Int → Int → Int → (List (Int × Int)) → (Int → Int → Int → Int → Int → Int → (List (Int × Int)) → Option α) → ((List (Int × Int)) → Option α) → Option α) (n : Nat) (p_ : Int) (q_ : Int) (n_ : Int) (κ : Res → Option α) : evFn Try.prog (impl_records_3F_impl_BestOfSecond_1_XG F0 F1 F2 G3 n) Try.f23 (((buildDs impl_records_3F_impl_BestOfSecond_1_sh [.int p_, .int q_, .int n_]).map Prod.fst).getD []) κ = impl_records_3F_impl_BestOfSecond_1_body F0 F1 F2 G3 n p_ q_ n_ (fun v1 => κ ⟨[.sl 31 .pt v1], []⟩) := by kernel_rfl
theorem impl_records_3F_impl_BestOfSecond_1_eq {α : Type} (n : Nat) (p_ : Int) (q_ : Int) (n_ : Int) (r0 : (List (Int × Int)) → Option α) : impl_records_3F_impl_BestOfSecond_1_body impl_floor impl_size impl_BestOfSecond_1 impl_records_3F_impl_BestOfSecond_1_l3 n p_ q_ n_ r0 = impl_records_3F_impl_BestOfSecond_1 n p_ q_ n_ r0 := (impl_records_3F_impl_BestOfSecond_1_body.eq_1 impl_floor impl_size impl_BestOfSecond_1 impl_records_3F_impl_BestOfSecond_1_l3 n p_ q_ n_ r0).trans (impl_records_3F_impl_BestOfSecond_1.eq_1 n p_ q_ n_ r0).symm
theorem impl_records_3F_impl_BestOfSecond_1_rn {α : Type} (F : T12 α) (n : Nat) (p_ : Int) (q_ : Int) (n_ : Int) (κ : Res → Option α) : impl_records_3F_impl_BestOfSecond_1_runG F n [.int p_, .int q_, .int n_] κ = F n p_ q_ n_ (fun v1 => κ ⟨[.sl 31 .pt v1], []⟩) := rfl
theorem impl_records_3F_impl_BestOfSecond_1_ev {α : Type} (n : Nat) (p_ : Int) (q_ : Int) (n_ : Int) (κ : Res → Option α) : evFn Try.prog (impl_records_3F_impl_BestOfSecond_1_X n) Try.f23 (((buildDs impl_records_3F_impl_BestOfSecond_1_sh [.int p_, .int q_, .int n_]).map Prod.fst).getD []) κ = impl_records_3F_impl_BestOfSecond_1_run n [.int p_, .int q_, .int n_] κ := (impl_records_3F_impl_BestOfSecond_1_gen impl_floor impl_size impl_BestOfSecond_1 impl_records_3F_impl_BestOfSecond_1_l3 n p_ q_ n_ κ).trans ((impl_records_3F_impl_BestOfSecond_1_eq n p_ q_ n_ (fun v1 => κ ⟨[.sl 31 .pt v1], []⟩)).trans ((impl_records_3F_impl_BestOfSecond_1_run.eq_1 n [.int p_, .int q_, .int n_] κ).trans (impl_records_3F_impl_BestOfSecond_1_rn impl_records_3F_impl_BestOfSecond_1 n p_ q_ n_ κ)).symm)
theorem impl_records_3F_impl_BestOfSecond_1_en (p_ : Int) (q_ : Int) (n_ : Int) : (entry 0 (((buildDs impl_records_3F_impl_BestOfSecond_1_sh [.int p_, .int q_, .int n_]).map Prod.fst).getD [])).map (fun x => (x.1.length, x.2.lent)) = some (4, []) := by kernel_rfl
theorem impl_records_3F_impl_BestOfSecond_1_good {α : Type} : ∀ n, GoodFn (α := α) Try.prog 23 (byShape impl_records_3F_impl_BestOfSecond_1_sh (impl_records_3F_impl_BestOfSecond_1_run n)) := by
  refine fn_good' Try.func23 (c := (Try.f23.body.getD .skip)) (by kernel_rfl) (by kernel_rfl) (by kernel_rfl) impl_records_3F_impl_BestOfSecond_1_C impl_records_3F_impl_BestOfSecond_1_M eqs impl_records_3F_impl_BestOfSecond_1_lps impl_records_3F_impl_BestOfSecond_1_jt (fun n => tabC_good (List.forall_mem_cons.2 ⟨(impl_floor_good n), (List.forall_mem_cons.2 ⟨(impl_size_good n), (List.forall_mem_cons.2 ⟨(impl_BestOfSecond_1_good n), (fun _ h => absurd h List.not_mem_nil)⟩)⟩)⟩)) eqs_ok impl_records_3F_impl_BestOfSecond_1_Lt ?_ ?_ impl_records_3F_impl_BestOfSecond_1_sh impl_records_3F_impl_BestOfSecond_1_run ?_
  · refine List.forall_mem_cons.2 ⟨?_, (fun _ h => absurd h List.not_mem_nil)⟩
    · intro p brk ret; show impl_records_3F_impl_BestOfSecond_1_u3 0 p brk ret = none; unfold impl_records_3F_impl_BestOfSecond_1_u3 impl_records_3F_impl_BestOfSecond_1_uG3; split <;> rfl
  · refine List.forall_mem_cons.2 ⟨?_, (fun _ h => absurd h List.not_mem_nil)⟩
    · intro np lent hL n p brk ret st r hb hr
      obtain ⟨rfl, rfl⟩ := hL
      rw [← tpl_of hb]
      change impl_records_3F_impl_BestOfSecond_1_u3 (n + 1) p brk ret = some r at hr
      have hr0 := hr
      unfold impl_records_3F_impl_BestOfSecond_1_u3 impl_records_3F_impl_BestOfSecond_1_uG3 at hr
      split at hr
      · exact (impl_records_3F_impl_BestOfSecond_1_l3_ev n _ _ _ _ _ _ _ brk ret).trans hr0
      · cases hr
  · intro n p κ r ds hd hr
    have hr0 := hr
    unfold impl_records_3F_impl_BestOfSecond_1_run impl_records_3F_impl_BestOfSecond_1_runG at hr
    split at hr
    · rw [← ds_of hd]
      exact ⟨en_of (impl_records_3F_impl_BestOfSecond_1_en _ _ _) ⟨rfl, rfl⟩, (impl_records_3F_impl_BestOfSecond_1_ev n _ _ _ κ).trans hr0⟩
    · cases hr

/-! loop.example/g01297/impl.BestOfSecond -/
def impl_BestOfSecond_sh : List SkD := [.int .i64, .int .i64, .int .i64]
def impl_BestOfSecond_runG {α : Type} (F : T13 α) (n : Nat) (p : List P1) (κ : Res → Option α) : Option α := match p with
  | [.int p_, .int q_, .int n_] => F n p_ q_ n_ (fun v1 => κ ⟨[.nilsl, .int .i64 v1], []⟩) (fun v1 v2 => κ ⟨[.sl 31 .pt v1, .int .i64 v2], []⟩)
  | _ => none
def impl_BestOfSecond_run {α : Type} (n : Nat) (p : List P1) (κ : Res → Option α) : Option α := impl_BestOfSecond_runG impl_BestOfSecond n p κ
def impl_BestOfSecond_CG {α : Type} (F0 : T7 α) (F1 : T12 α) (n : Nat) : FuncId → List D → (Res → Option α) → Option α := tabC [(22, (byShape impl_bestOk_sh (impl_bestOk_runG F0 n))), (23, (byShape impl_records_3F_impl_BestOfSecond_1_sh (impl_records_3F_impl_BestOfSecond_1_runG F1 n)))]
def impl_BestOfSecond_C {α : Type} (n : Nat) : FuncId → List D → (Res → Option α) → Option α := impl_BestOfSecond_CG impl_bestOk impl_records_3F_impl_BestOfSecond_1 n
def impl_BestOfSecond_M : FuncId → List Nat := tabM []
def impl_BestOfSecond_lpsG {α : Type}  : List (LoopT α) := []
def impl_BestOfSecond_lps {α : Type} : List (LoopT α) := impl_BestOfSecond_lpsG
def impl_BestOfSecond_jt : Nat → Option Tpl := jtOf []
def impl_BestOfSecond_XG {α : Type} (F0 : T7 α) (F1 : T12 α)  (n : Nat) : Ctx α := ⟨impl_BestOfSecond_CG F0 F1 n, impl_BestOfSecond_M, eqs, lpOf (impl_BestOfSecond_lpsG) n, impl_BestOfSecond_jt⟩
def impl_BestOfSecond_X {α : Type} (n : Nat) : Ctx α := impl_BestOfSecond_XG impl_bestOk impl_records_3F_impl_BestOfSecond_1 n
def impl_BestOfSecond_Lt (np : Nat) (lent : List (Bool × Nat × Blk)) : Prop := np = 3 ∧ lent = []
def impl_BestOfSecond_body {α : Type} (F0 : T7 α) (F1 : T12 α)  (k : Nat) (p_ : Int) (q_ : Int) (n_ : Int) (r0 : Int → Option α) (r1 : (List (Int × Int)) → Int → Option α) : Option α :=
  F0 k p_ q_ n_ fun v =>
  bif (!v) then
    r0 2
  else
    F1 k p_ q_ n_ fun v1 =>
    r1 v1 0
theorem impl_BestOfSecond_gen {α : Type} (F0 : T7 α) (F1 : T12 α)  (n : Nat) (p_ : Int) (q_ : Int) (n_ : Int) (κ : Res → Option α) : evFn Try.prog (impl_BestOfSecond_XG F0 F1 n) Try.f6 (((buildDs impl_BestOfSecond_sh [.int p_, .int q_, .int n_]).map Prod.fst).getD []) κ = impl_BestOfSecond_body F0 F1 n p_ q_ n_ (fun v1 => κ ⟨[.nilsl, .int .i64 v1], []⟩) (fun v1 v2 => κ ⟨[.sl 31 .pt v1, .int .i64 v2], []⟩) := by kernel_rfl
theorem impl_BestOfSecond_eq {α : Type} (n : Nat) (p_ : Int) (q_ : Int) (n_ : Int) (r0 : Int → Option α) (r1 : (List (Int × Int)) → Int → Option α) : impl_BestOfSecond_body impl_bestOk impl_records_3F_impl_BestOfSecond_1 n p_ q_ n_ r0 r1 = impl_BestOfSecond n p_ q_ n_ r0 r1 := (impl_BestOfSecond_body.eq_1 impl_bestOk impl_records_3F_impl_BestOfSecond_1 n p_ q_ n_ r0 r1).trans (impl_BestOfSecond.eq_1 n p_ q_ n_ r0 r1).symm
theorem impl_BestOfSecond_rn {α : Type} (F : T13 α) (n : Nat) (p_ : Int) (q_ : Int) (n_ : Int) (κ : Res → Option α) : impl_BestOfSecond_runG F n [.int p_, .int q_, .int n_] κ = F n p_ q_ n_ (fun v1 => κ ⟨[.nilsl, .int .i64 v1], []⟩) (fun v1 v2 => κ ⟨[.sl 31 .pt v1, .int .i64 v2], []⟩) := rfl
theorem impl_BestOfSecond_ev {α : Type} (n : Nat) (p_ : Int) (q_ : Int) (n_ : Int) (κ : Res → Option α) : evFn Try.prog (impl_BestOfSecond_X n) Try.f6 (((buildDs impl_BestOfSecond_sh [.int p_, .int q_, .int n_]).map Prod.fst).getD []) κ = impl_BestOfSecond_run n [.int p_, .int q_, .int n_] κ := (impl_BestOfSecond_gen impl_bestOk impl_records_3F_impl_BestOfSecond_1 n p_ q_ n_ κ).trans ((impl_BestOfSecond_eq n p_ q_ n_ (fun v1 => κ ⟨[.nilsl, .int .i64 v1], []⟩) (fun v1 v2 => κ ⟨[.sl 31 .pt v1, .int .i64 v2], []⟩)).trans ((impl_BestOfSecond_run.eq_1 n [.int p_, .int q_, .int n_] κ).trans (impl_BestOfSecond_rn impl_BestOfSecond n p_ q_ n_ κ)).symm)
theorem impl_BestOfSecond_en (p_ : Int) (q_ : Int) (n_ : Int) : (entry 0 (((buildDs impl_BestOfSecond_sh [.int p_, .int q_, .int n_]).map Prod.fst).getD [])).map (fun x => (x.1.length, x.2.lent)) = some (3, []) := by kernel_rfl
theorem impl_BestOfSecond_good {α : Type} : ∀ n, GoodFn (α := α) Try.prog 6 (byShape impl_BestOfSecond_sh (impl_BestOfSecond_run n)) := by
  refine fn_good' Try.func6 (c := (Try.f6.body.getD .skip)) (by kernel_rfl) (by kernel_rfl) (by kernel_rfl) impl_BestOfSecond_C impl_BestOfSecond_M eqs impl_BestOfSecond_lps impl_BestOfSecond_jt (fun n => tabC_good (List.forall_mem_cons.2 ⟨(impl_bestOk_good n), (List.forall_mem_cons.2 ⟨(impl_records_3F_impl_BestOfSecond_1_good n), (fun _ h => absurd h List.not_mem_nil)⟩)⟩)) eqs_ok impl_BestOfSecond_Lt ?_ ?_ impl_BestOfSecond_sh impl_BestOfSecond_run ?_
  · exact (fun _ h => absurd h List.not_mem_nil)
  · exact (fun _ h => absurd h List.not_mem_nil)
  · intro n p κ r ds hd hr
    have hr0 := hr
    unfold impl_BestOfSecond_run impl_BestOfSecond_runG at hr
    split at hr
    · rw [← ds_of hd]
      exact ⟨en_of (impl_BestOfSecond_en _ _ _) ⟨rfl, rfl⟩, (impl_BestOfSecond_ev n _ _ _ κ).trans hr0⟩
    · cases hr

/-! loop.example/g01297/spec.l01In -/
def spec_l01In_sh : List SkD := [.int .i64, .int .i64, .int .i64]
def spec_l01In_runG {α : Type} (F : T7 α) (n : Nat) (p : List P1) (κ : Res → Option α) : Option α := match p with
  | [.int n_, .int low, .int high] => F n n_ low high (fun v1 => κ ⟨[.bool v1], []⟩)
  | _ => none
def spec_l01In_run {α : Type} (n : Nat) (p : List P1) (κ : Res → Option α) : Option α := spec_l01In_runG spec_l01In n p κ
def spec_l01In_CG {α : Type}  (n : Nat) : FuncId → List D → (Res → Option α) → Option α := tabC []
def spec_l01In_C {α : Type} (n : Nat) : FuncId → List D → (Res → Option α) → Option α := spec_l01In_CG n
def spec_l01In_M : FuncId → List Nat := tabM []
def spec_l01In_lpsG {α : Type}  : List (LoopT α) := []
def spec_l01In_lps {α : Type} : List (LoopT α) := spec_l01In_lpsG
def spec_l01In_jt : Nat → Option Tpl := jtOf []
def spec_l01In_XG {α : Type}   (n : Nat) : Ctx α := ⟨spec_l01In_CG n, spec_l01In_M, eqs, lpOf (spec_l01In_lpsG) n, spec_l01In_jt⟩
def spec_l01In_X {α : Type} (n : Nat) : Ctx α := spec_l01In_XG n
def spec_l01In_Lt (np : Nat) (lent : List (Bool × Nat × Blk)) : Prop := np = 3 ∧ lent = []
def spec_l01In_body {α : Type}   (k : Nat) (n_ : Int) (low : Int) (high : Int) (r0 : Bool → Option α) : Option α :=
  bif decide (low ≤ n_) then
    r0 (decide (n_ ≤ high))
  else
    r0 false
theorem spec_l01In_gen {α : Type}   (n : Nat) (n_ : Int) (low : Int) (high : Int) (κ : Res → Option α) : evFn Try.prog (spec_l01In_XG n) Try.f26 (((buildDs spec_l01In_sh [.int n_, .int low, .int high]).map Prod.fst).getD []) κ = spec_l01In_body n n_ low high (fun v1 => κ ⟨[.bool v1], []⟩) := by kernel_rfl
theorem spec_l01In_eq {α : Type} (n : Nat) (n_ : Int) (low : Int) (high : Int) (r0 : Bool → Option α) : spec_l01In_body n n_ low high r0 = spec_l01In n n_ low high r0 := (spec_l01In_body.eq_1 n n_ low high r0).trans (spec_l01In.eq_1 n n_ low high r0).symm
theorem spec_l01In_rn {α : Type} (F : T7 α) (n : Nat) (n_ : Int) (low : Int) (high : Int) (κ : Res → Option α) : spec_l01In_runG F n [.int n_, .int low, .int high] κ = F n n_ low high (fun v1 => κ ⟨[.bool v1], []⟩) := rfl
theorem spec_l01In_ev {α : Type} (n : Nat) (n_ : Int) (low : Int) (high : Int) (κ : Res → Option α) : evFn Try.prog (spec_l01In_X n) Try.f26 (((buildDs spec_l01In_sh [.int n_, .int low, .int high]).map Prod.fst).getD []) κ = spec_l01In_run n [.int n_, .int low, .int high] κ := (spec_l01In_gen n n_ low high κ).trans ((spec_l01In_eq n n_ low high (fun v1 => κ ⟨[.bool v1], []⟩)).trans ((spec_l01In_run.eq_1 n [.int n_, .int low, .int high] κ).trans (spec_l01In_rn spec_l01In n n_ low high κ)).symm)
theorem spec_l01In_en (n_ : Int) (low : Int) (high : Int) : (entry 0 (((buildDs spec_l01In_sh [.int n_, .int low, .int high]).map Prod.fst).getD [])).map (fun x => (x.1.length, x.2.lent)) = some (3, []) := by kernel_rfl
theorem spec_l01In_good {α : Type} : ∀ n, GoodFn (α := α) Try.prog 26 (byShape spec_l01In_sh (spec_l01In_run n)) := by
  refine fn_good' Try.func26 (c := (Try.f26.body.getD .skip)) (by kernel_rfl) (by kernel_rfl) (by kernel_rfl) spec_l01In_C spec_l01In_M eqs spec_l01In_lps spec_l01In_jt (fun n => tabC_good (fun _ h => absurd h List.not_mem_nil)) eqs_ok spec_l01In_Lt ?_ ?_ spec_l01In_sh spec_l01In_run ?_
  · exact (fun _ h => absurd h List.not_mem_nil)
  · exact (fun _ h => absurd h List.not_mem_nil)
  · intro n p κ r ds hd hr
    have hr0 := hr
    unfold spec_l01In_run spec_l01In_runG at hr
    split at hr
    · rw [← ds_of hd]
      exact ⟨en_of (spec_l01In_en _ _ _) ⟨rfl, rfl⟩, (spec_l01In_ev n _ _ _ κ).trans hr0⟩
    · cases hr

/-! loop.example/g01297/spec.l01Fits -/
def spec_l01Fits_sh : List SkD := [.int .i64]
def spec_l01Fits_runG {α : Type} (F : T8 α) (n : Nat) (p : List P1) (κ : Res → Option α) : Option α := match p with
  | [.int x] => F n x (fun v1 => κ ⟨[.bool v1], []⟩)
  | _ => none
def spec_l01Fits_run {α : Type} (n : Nat) (p : List P1) (κ : Res → Option α) : Option α := spec_l01Fits_runG spec_l01Fits n p κ
def spec_l01Fits_CG {α : Type} (F0 : T7 α) (n : Nat) : FuncId → List D → (Res → Option α) → Option α := tabC [(26, (byShape spec_l01In_sh (spec_l01In_runG F0 n)))]
def spec_l01Fits_C {α : Type} (n : Nat) : FuncId → List D → (Res → Option α) → Option α := spec_l01Fits_CG spec_l01In n
def spec_l01Fits_M : FuncId → List Nat := tabM []
def spec_l01Fits_lpsG {α : Type}  : List (LoopT α) := []
def spec_l01Fits_lps {α : Type} : List (LoopT α) := spec_l01Fits_lpsG
def spec_l01Fits_jt : Nat → Option Tpl := jtOf []
def spec_l01Fits_XG {α : Type} (F0 : T7 α)  (n : Nat) : Ctx α := ⟨spec_l01Fits_CG F0 n, spec_l01Fits_M, eqs, lpOf (spec_l01Fits_lpsG) n, spec_l01Fits_jt⟩
def spec_l01Fits_X {α : Type} (n : Nat) : Ctx α := spec_l01Fits_XG spec_l01In n
def spec_l01Fits_Lt (np : Nat) (lent : List (Bool × Nat × Blk)) : Prop := np = 1 ∧ lent = []
def spec_l01Fits_body {α : Type} (F0 : T7 α)  (k : Nat) (x : Int) (r0 : Bool → Option α) : Option α :=
  F0 k x (-1000000) 1000000 fun v =>
  r0 v
theorem spec_l01Fits_gen {α : Type} (F0 : T7 α)  (n : Nat) (x : Int) (κ : Res → Option α) : evFn Try.prog (spec_l01Fits_XG F0 n) Try.f42 (((buildDs spec_l01Fits_sh [.int x]).map Prod.fst).getD []) κ = spec_l01Fits_body F0 n x (fun v1 => κ ⟨[.bool v1], []⟩) := by kernel_rfl
theorem spec_l01Fits_eq {α : Type} (n : Nat) (x : Int) (r0 : Bool → Option α) : spec_l01Fits_body spec_l01In n x r0 = spec_l01Fits n x r0 := (spec_l01Fits_body.eq_1 spec_l01In n x r0).trans (spec_l01Fits.eq_1 n x r0).symm
theorem spec_l01Fits_rn {α : Type} (F : T8 α) (n : Nat) (x : Int) (κ : Res → Option α) : spec_l01Fits_runG F n [.int x] κ = F n x (fun v1 => κ ⟨[.bool v1], []⟩) := rfl
theorem spec_l01Fits_ev {α : Type} (n : Nat) (x : Int) (κ : Res → Option α) : evFn Try.prog (spec_l01Fits_X n) Try.f42 (((buildDs spec_l01Fits_sh [.int x]).map Prod.fst).getD []) κ = spec_l01Fits_run n [.int x] κ := (spec_l01Fits_gen spec_l01In n x κ).trans ((spec_l01Fits_eq n x (fun v1 => κ ⟨[.bool v1], []⟩)).trans ((spec_l01Fits_run.eq_1 n [.int x] κ).trans (spec_l01Fits_rn spec_l01Fits n x κ)).symm)
theorem spec_l01Fits_en (x : Int) : (entry 0 (((buildDs spec_l01Fits_sh [.int x]).map Prod.fst).getD [])).map (fun x => (x.1.length, x.2.lent)) = some (1, []) := by kernel_rfl
theorem spec_l01Fits_good {α : Type} : ∀ n, GoodFn (α := α) Try.prog 42 (byShape spec_l01Fits_sh (spec_l01Fits_run n)) := by
  refine fn_good' Try.func42 (c := (Try.f42.body.getD .skip)) (by kernel_rfl) (by kernel_rfl) (by kernel_rfl) spec_l01Fits_C spec_l01Fits_M eqs spec_l01Fits_lps spec_l01Fits_jt (fun n => tabC_good (List.forall_mem_cons.2 ⟨(spec_l01In_good n), (fun _ h => absurd h List.not_mem_nil)⟩)) eqs_ok spec_l01Fits_Lt ?_ ?_ spec_l01Fits_sh spec_l01Fits_run ?_
  · exact (fun _ h => absurd h List.not_mem_nil)
  · exact (fun _ h => absurd h List.not_mem_nil)
  · intro n p κ r ds hd hr
    have hr0 := hr
    unfold spec_l01Fits_run spec_l01Fits_runG at hr
    split at hr
    · rw [← ds_of hd]
      exact ⟨en_of (spec_l01Fits_en _) ⟨rfl, rfl⟩, (spec_l01Fits_ev n _ κ).trans hr0⟩
    · cases hr

/-! loop.example/g01297/spec.l10Ratio -/
def spec_l10Ratio_sh : List SkD := [.int .i64, .int .i64, .int .i64]
def spec_l10Ratio_runG {α : Type} (F : T7 α) (n : Nat) (p : List P1) (κ : Res → Option α) : Option α := match p with
  | [.int p_, .int q_, .int low] => F n p_ q_ low (fun v1 => κ ⟨[.bool v1], []⟩)
  | _ => none
def spec_l10Ratio_run {α : Type} (n : Nat) (p : List P1) (κ : Res → Option α) : Option α := spec_l10Ratio_runG spec_l10Ratio n p κ
def spec_l10Ratio_CG {α : Type} (F0 : T8 α) (F1 : T7 α) (n : Nat) : FuncId → List D → (Res → Option α) → Option α := tabC [(42, (byShape spec_l01Fits_sh (spec_l01Fits_runG F0 n))), (26, (byShape spec_l01In_sh (spec_l01In_runG F1 n)))]
def spec_l10Ratio_C {α : Type} (n : Nat) : FuncId → List D → (Res → Option α) → Option α := spec_l10Ratio_CG spec_l01Fits spec_l01In n
def spec_l10Ratio_M : FuncId → List Nat := tabM []
def spec_l10Ratio_lpsG {α : Type}  : List (LoopT α) := []
def spec_l10Ratio_lps {α : Type} : List (LoopT α) := spec_l10Ratio_lpsG
def spec_l10Ratio_jt : Nat → Option Tpl := jtOf []
def spec_l10Ratio_XG {α : Type} (F0 : T8 α) (F1 : T7 α)  (n : Nat) : Ctx α := ⟨spec_l10Ratio_CG F0 F1 n, spec_l10Ratio_M, eqs, lpOf (spec_l10Ratio_lpsG) n, spec_l10Ratio_jt⟩
def spec_l10Ratio_X {α : Type} (n : Nat) : Ctx α := spec_l10Ratio_XG spec_l01Fits spec_l01In n
def spec_l10Ratio_Lt (np : Nat) (lent : List (Bool × Nat × Blk)) : Prop := np = 3 ∧ lent = []
def spec_l10Ratio_body {α : Type} (F0 : T8 α) (F1 : T7 α)  (k : Nat) (p_ : Int) (q_ : Int) (low : Int) (r0 : Bool → Option α) : Option α :=
  F0 k p_ fun v =>
  bif v then
    F1 k q_ low 1000000 fun v1 =>
    r0 v1
  else
    r0 false
theorem spec_l10Ratio_gen {α : Type} (F0 : T8 α) (F1 : T7 α)  (n : Nat) (p_ : Int) (q_ : Int) (low : Int) (κ : Res → Option α) : evFn Try.prog (spec_l10Ratio_XG F0 F1 n) Try.f25 (((buildDs spec_l10Ratio_sh [.int p_, .int q_, .int low]).map Prod.fst).getD []) κ = spec_l10Ratio_body F0 F1 n p_ q_ low (fun v1 => κ ⟨[.bool v1], []⟩) := by kernel_rfl
theorem spec_l10Ratio_eq {α : Type} (n : Nat) (p_ : Int) (q_ : Int) (low : Int) (r0 : Bool → Option α) : spec_l10Ratio_body spec_l01Fits spec_l01In n p_ q_ low r0 = spec_l10Ratio n p_ q_ low r0 := (spec_l10Ratio_body.eq_1 spec_l01Fits spec_l01In n p_ q_ low r0).trans (spec_l10Ratio.eq_1 n p_ q_ low r0).symm
theorem spec_l10Ratio_rn {α : Type} (F : T7 α) (n : Nat) (p_ : Int) (q_ : Int) (low : Int) (κ : Res → Option α) : spec_l10Ratio_runG F n [.int p_, .int q_, .int low] κ = F n p_ q_ low (fun v1 => κ ⟨[.bool v1], []⟩) := rfl
theorem spec_l10Ratio_ev {α : Type} (n : Nat) (p_ : Int) (q_ : Int) (low : Int) (κ : Res → Option α) : evFn Try.prog (spec_l10Ratio_X n) Try.f25 (((buildDs spec_l10Ratio_sh [.int p_, .int q_, .int low]).map Prod.fst).getD []) κ = spec_l10Ratio_run n [.int p_, .int q_, .int low] κ := (spec_l10Ratio_gen spec_l01Fits spec_l01In n p_ q_ low κ).trans ((spec_l10Ratio_eq n p_ q_ low (fun v1 => κ ⟨[.bool v1], []⟩)).trans ((spec_l10Ratio_run.eq_1 n [.int p_, .int q_, .int low] κ).trans (spec_l10Ratio_rn spec_l10Ratio n p_ q_ low κ)).symm)
theorem spec_l10Ratio_en (p_ : Int) (q_ : Int) (low : Int) : (entry 0 (((buildDs spec_l10Ratio_sh [.int p_, .int q_, .int low]).map Prod.fst).getD [])).map (fun x => (x.1.length, x.2.lent)) = some (3, []) := by kernel_rfl
theorem spec_l10Ratio_good {α : Type} : ∀ n, GoodFn (α := α) Try.prog 25 (byShape spec_l10Ratio_sh (spec_l10Ratio_run n)) := by
  refine fn_good' Try.func25 (c := (Try.f25.body.getD .skip)) (by kernel_rfl) (by kernel_rfl) (by kernel_rfl) spec_l10Ratio_C spec_l10Ratio_M eqs spec_l10Ratio_lps spec_l10Ratio_jt (fun n => tabC_good (List.forall_mem_cons.2 ⟨(spec_l01Fits_good n), (List.forall_mem_cons.2 ⟨(spec_l01In_good n), (fun _ h => absurd h List.not_mem_nil)⟩)⟩)) eqs_ok spec_l10Ratio_Lt ?_ ?_ spec_l10Ratio_sh spec_l10Ratio_run ?_
  · exact (fun _ h => absurd h List.not_mem_nil)
  · exact (fun _ h => absurd h List.not_mem_nil)
  · intro n p κ r ds hd hr
    have hr0 := hr
    unfold spec_l10Ratio_run spec_l10Ratio_runG at hr
    split at hr
    · rw [← ds_of hd]
      exact ⟨en_of (spec_l10Ratio_en _ _ _) ⟨rfl, rfl⟩, (spec_l10Ratio_ev n _ _ _ κ).trans hr0⟩
    · cases hr

/-! loop.example/g01297/spec.l01Floor -/
def spec_l01Floor_sh : List SkD := [.int .i64, .int .i64]
def spec_l01Floor_runG {α : Type} (F : T10 α) (n : Nat) (p : List P1) (κ : Res → Option α) : Option α := match p with
  | [.int p_, .int q_] => F n p_ q_ (fun v1 => κ ⟨[.int .i64 v1], []⟩)
  | _ => none
def spec_l01Floor_run {α : Type} (n : Nat) (p : List P1) (κ : Res → Option α) : Option α := spec_l01Floor_runG spec_l01Floor n p κ
def spec_l01Floor_CG {α : Type}  (n : Nat) : FuncId → List D → (Res → Option α) → Option α := tabC []
def spec_l01Floor_C {α : Type} (n : Nat) : FuncId → List D → (Res → Option α) → Option α := spec_l01Floor_CG n
def spec_l01Floor_M : FuncId → List Nat := tabM []
def spec_l01Floor_lpsG {α : Type}  : List (LoopT α) := []
def spec_l01Floor_lps {α : Type} : List (LoopT α) := spec_l01Floor_lpsG
def spec_l01Floor_jt : Nat → Option Tpl := jtOf []
def spec_l01Floor_XG {α : Type}   (n : Nat) : Ctx α := ⟨spec_l01Floor_CG n, spec_l01Floor_M, eqs, lpOf (spec_l01Floor_lpsG) n, spec_l01Floor_jt⟩
def spec_l01Floor_X {α : Type} (n : Nat) : Ctx α := spec_l01Floor_XG n
def spec_l01Floor_Lt (np : Nat) (lent : List (Bool × Nat × Blk)) : Prop := np = 2 ∧ lent = []
def spec_l01Floor_body {α : Type}   (k : Nat) (p_ : Int) (q_ : Int) (r0 : Int → Option α) : Option α :=
  bif decide (q_ = 0) then
    none
  else
  bif decide (q_ = 0) then
    none
  else
  bif (!decide ((Int.tmod p_ q_) = 0)) then
    bif (!(decide (p_ < 0) == decide (q_ < 0))) then
      r0 (w64 ((w64 (Int.tdiv p_ q_)) - 1))
    else
      r0 (w64 (Int.tdiv p_ q_))
  else
    r0 (w64 (Int.tdiv p_ q_))
theorem spec_l01Floor_gen {α : Type}   (n : Nat) (p_ : Int) (q_ : Int) (κ : Res → Option α) : evFn Try.prog (spec_l01Floor_XG n) Try.f52 (((buildDs spec_l01Floor_sh [.int p_, .int q_]).map Prod.fst).getD []) κ = spec_l01Floor_body n p_ q_ (fun v1 => κ ⟨[.int .i64 v1], []⟩) := by kernel_rfl
theorem spec_l01Floor_eq {α : Type} (n : Nat) (p_ : Int) (q_ : Int) (r0 : Int → Option α) : spec_l01Floor_body n p_ q_ r0 = spec_l01Floor n p_ q_ r0 := (spec_l01Floor_body.eq_1 n p_ q_ r0).trans (spec_l01Floor.eq_1 n p_ q_ r0).symm
theorem spec_l01Floor_rn {α : Type} (F : T10 α) (n : Nat) (p_ : Int) (q_ : Int) (κ : Res → Option α) : spec_l01Floor_runG F n [.int p_, .int q_] κ = F n p_ q_ (fun v1 => κ ⟨[.int .i64 v1], []⟩) := rfl
theorem spec_l01Floor_ev {α : Type} (n : Nat) (p_ : Int) (q_ : Int) (κ : Res → Option α) : evFn Try.prog (spec_l01Floor_X n) Try.f52 (((buildDs spec_l01Floor_sh [.int p_, .int q_]).map Prod.fst).getD []) κ = spec_l01Floor_run n [.int p_, .int q_] κ := (spec_l01Floor_gen n p_ q_ κ).trans ((spec_l01Floor_eq n p_ q_ (fun v1 => κ ⟨[.int .i64 v1], []⟩)).trans ((spec_l01Floor_run.eq_1 n [.int p_, .int q_] κ).trans (spec_l01Floor_rn spec_l01Floor n p_ q_ κ)).symm)
theorem spec_l01Floor_en (p_ : Int) (q_ : Int) : (entry 0 (((buildDs spec_l01Floor_sh [.int p_, .int q_]).map Prod.fst).getD [])).map (fun x => (x.1.length, x.2.lent)) = some (2, []) := by kernel_rfl
theorem spec_l01Floor_good {α : Type} : ∀ n, GoodFn (α := α) Try.prog 52 (byShape spec_l01Floor_sh (spec_l01Floor_run n)) := by
  refine fn_good' Try.func52 (c := (Try.f52.body.getD .skip)) (by kernel_rfl) (by kernel_rfl) (by kernel_rfl) spec_l01Floor_C spec_l01Floor_M eqs spec_l01Floor_lps spec_l01Floor_jt (fun n => tabC_good (fun _ h => absurd h List.not_mem_nil)) eqs_ok spec_l01Floor_Lt ?_ ?_ spec_l01Floor_sh spec_l01Floor_run ?_
  · exact (fun _ h => absurd h List.not_mem_nil)
  · exact (fun _ h => absurd h List.not_mem_nil)
  · intro n p κ r ds hd hr
    have hr0 := hr
    unfold spec_l01Floor_run spec_l01Floor_runG at hr
    split at hr
    · rw [← ds_of hd]
      exact ⟨en_of (spec_l01Floor_en _ _) ⟨rfl, rfl⟩, (spec_l01Floor_ev n _ _ κ).trans hr0⟩
    · cases hr

/-! loop.example/g01297/spec.l10Near -/
def spec_l10Near_sh : List SkD := [.int .i64, .int .i64]
def spec_l10Near_runG {α : Type} (F : T14 α) (n : Nat) (p : List P1) (κ : Res → Option α) : Option α := match p with
  | [.int x, .int q_] => F n x q_ (fun v1 v2 => κ ⟨[.int .i64 v1, .int .i64 v2], []⟩)
  | _ => none
def spec_l10Near_run {α : Type} (n : Nat) (p : List P1) (κ : Res → Option α) : Option α := spec_l10Near_runG spec_l10Near n p κ
def spec_l10Near_CG {α : Type} (F0 : T10 α) (n : Nat) : FuncId → List D → (Res → Option α) → Option α := tabC [(52, (byShape spec_l01Floor_sh (spec_l01Floor_runG F0 n)))]
def spec_l10Near_C {α : Type} (n : Nat) : FuncId → List D → (Res → Option α) → Option α := spec_l10Near_CG spec_l01Floor n
def spec_l10Near_M : FuncId → List Nat := tabM []
def spec_l10Near_lpsG {α : Type}  : List (LoopT α) := []
def spec_l10Near_lps {α : Type} : List (LoopT α) := spec_l10Near_lpsG
def spec_l10Near_jt : Nat → Option Tpl := jtOf []
def spec_l10Near_XG {α : Type} (F0 : T10 α)  (n : Nat) : Ctx α := ⟨spec_l10Near_CG F0 n, spec_l10Near_M, eqs, lpOf (spec_l10Near_lpsG) n, spec_l10Near_jt⟩
def spec_l10Near_X {α : Type} (n : Nat) : Ctx α := spec_l10Near_XG spec_l01Floor n
def spec_l10Near_Lt (np : Nat) (lent : List (Bool × Nat × Blk)) : Prop := np = 2 ∧ lent = []
def spec_l10Near_body {α : Type} (F0 : T10 α)  (k : Nat) (x : Int) (q_ : Int) (r0 : Int → Int → Option α) : Option α :=
  F0 k x q_ fun v =>
  bif decide ((w64 (q_ - (w64 (x - (w64 (v * q_)))))) < (w64 (x - (w64 (v * q_))))) then
    r0 (w64 (v + 1)) (w64 (q_ - (w64 (x - (w64 (v * q_))))))
  else
    r0 v (w64 (x - (w64 (v * q_))))
theorem spec_l10Near_gen {α : Type} (F0 : T10 α)  (n : Nat) (x : Int) (q_ : Int) (κ : Res → Option α) : evFn Try.prog (spec_l10Near_XG F0 n) Try.f43 (((buildDs spec_l10Near_sh [.int x, .int q_]).map Prod.fst).getD []) κ = spec_l10Near_body F0 n x q_ (fun v1 v2 => κ ⟨[.int .i64 v1, .int .i64 v2], []⟩) := by kernel_rfl
theorem spec_l10Near_eq {α : Type} (n : Nat) (x : Int) (q_ : Int) (r0 : Int → Int → Option α) : spec_l10Near_body spec_l01Floor n x q_ r0 = spec_l10Near n x q_ r0 := (spec_l10Near_body.eq_1 spec_l01Floor n x q_ r0).trans (spec_l10Near.eq_1 n x q_ r0).symm
theorem spec_l10Near_rn {α : Type} (F : T14 α) (n : Nat) (x : Int) (q_ : Int) (κ : Res → Option α) : spec_l10Near_runG F n [.int x, .int q_] κ = F n x q_ (fun v1 v2 => κ ⟨[.int .i64 v1, .int .i64 v2], []⟩) := rfl
theorem spec_l10Near_ev {α : Type} (n : Nat) (x : Int) (q_ : Int) (κ : Res → Option α) : evFn Try.prog (spec_l10Near_X n) Try.f43 (((buildDs spec_l10Near_sh [.int x, .int q_]).map Prod.fst).getD []) κ = spec_l10Near_run n [.int x, .int q_] κ := (spec_l10Near_gen spec_l01Floor n x q_ κ).trans ((spec_l10Near_eq n x q_ (fun v1 v2 => κ ⟨[.int .i64 v1, .int .i64 v2], []⟩)).trans ((spec_l10Near_run.eq_1 n [.int x, .int q_] κ).trans (spec_l10Near_rn spec_l10Near n x q_ κ)).symm)
theorem spec_l10Near_en (x : Int) (q_ : Int) : (entry 0 (((buildDs spec_l10Near_sh [.int x, .int q_]).map Prod.fst).getD [])).map (fun x => (x.1.length, x.2.lent)) = some (2, []) := by kernel_rfl
theorem spec_l10Near_good {α : Type} : ∀ n, GoodFn (α := α) Try.prog 43 (byShape spec_l10Near_sh (spec_l10Near_run n)) := by
  refine fn_good' Try.func43 (c := (Try.f43.body.getD .skip)) (by kernel_rfl) (by kernel_rfl) (by kernel_rfl) spec_l10Near_C spec_l10Near_M eqs spec_l10Near_lps spec_l10Near_jt (fun n => tabC_good (List.forall_mem_cons.2 ⟨(spec_l01Floor_good n), (fun _ h => absurd h List.not_mem_nil)⟩)) eqs_ok spec_l10Near_Lt ?_ ?_ spec_l10Near_sh spec_l10Near_run ?_
  · exact (fun _ h => absurd h List.not_mem_nil)
  · exact (fun _ h => absurd h List.not_mem_nil)
  · intro n p κ r ds hd hr
    have hr0 := hr
    unfold spec_l10Near_run spec_l10Near_runG at hr
    split at hr
    · rw [← ds_of hd]
      exact ⟨en_of (spec_l10Near_en _ _) ⟨rfl, rfl⟩, (spec_l10Near_ev n _ _ κ).trans hr0⟩
    · cases hr

/-! loop.example/g01297/spec.l10Best -/
def spec_l10Best_sh : List SkD := [.int .i64, .int .i64, .int .i64, .bool]
def spec_l10Best_runG {α : Type} (F : T15 α) (n : Nat) (p : List P1) (κ : Res → Option α) : Option α := match p with
  | [.int p_, .int q_, .int n_, .bool second] => F n p_ q_ n_ second (fun v1 => κ ⟨[.sl 31 .pt v1], []⟩)
  | _ => none
def spec_l10Best_run {α : Type} (n : Nat) (p : List P1) (κ : Res → Option α) : Option α := spec_l10Best_runG spec_l10Best n p κ
def spec_l10Best_CG {α : Type} (F0 : T14 α) (n : Nat) : FuncId → List D → (Res → Option α) → Option α := tabC [(43, (byShape spec_l10Near_sh (spec_l10Near_runG F0 n)))]
def spec_l10Best_C {α : Type} (n : Nat) : FuncId → List D → (Res → Option α) → Option α := spec_l10Best_CG spec_l10Near n
def spec_l10Best_M : FuncId → List Nat := tabM []
def spec_l10Best_t3 : Tpl := ⟨[.int .i64, .int .i64, .int .i64, .bool, .any, .any, .any, .any, .any, .sl 1024, .int .i64, .int .i64, .int .i64, .any, .any, .any, .any, .any, .any, .any, .any, .any, .any, .any, .any, .any, .any, .any, .any, .any, .any, .any, .any, .any, .any, .any, .any, .any, .any, .any, .any, .any, .any, .any, .any, .any, .any, .any, .any, .any, .any, .any, .any, .any, .any, .any, .any, .any, .any, .any, .any, .any, .any, .any, .any, .any], [(1024, .rows 2 31 .pt)], []⟩
def spec_l10Best_uG3 {α : Type} (G : Nat → Int → Int → Int → Bool → Int → Int → Int → (List (Int × Int)) → (Int → Int → Int → Bool → Int → Int → Int → (List (Int × Int)) → Option α) → ((List (Int × Int)) → Option α) → Option α) (n : Nat) (p : List P1) (brk : Nat → List P1 → Option α) (ret : Res → Option α) : Option α := match p with
  | [.int p_1, .int q_1, .int n_1, .bool second1, .int last, .int under, .int k_, .rows .pt out] => G n p_1 q_1 n_1 second1 last under k_ out (fun p_1 q_1 n_1 second1 last under k_ out => brk 0 [.int p_1, .int q_1, .int n_1, .bool second1, .int last, .int under, .int k_, .rows .pt out]) (fun v1 => ret ⟨[.sl 31 .pt v1], []⟩)
  | _ => none
def spec_l10Best_u3 {α : Type} (n : Nat) (p : List P1) (brk : Nat → List P1 → Option α) (ret : Res → Option α) : Option α := spec_l10Best_uG3 spec_l10Best_l3 n p brk ret
def spec_l10Best_lpsG {α : Type} (G3 : Nat → Int → Int → Int → Bool → Int → Int → Int → (List (Int × Int)) → (Int → Int → Int → Bool → Int → Int → Int → (List (Int × Int)) → Option α) → ((List (Int × Int)) → Option α) → Option α) : List (LoopT α) := [⟨3, spec_l10Best_t3, spec_l10Best_uG3 G3⟩]
def spec_l10Best_lps {α : Type} : List (LoopT α) := spec_l10Best_lpsG spec_l10Best_l3
def spec_l10Best_jt : Nat → Option Tpl := jtOf []
def spec_l10Best_XG {α : Type} (F0 : T14 α) (G3 : Nat → Int → Int → Int → Bool → Int → Int → Int → (List (Int × Int)) → (Int → Int → Int → Bool → Int → Int → Int → (List (Int × Int)) → Option α) → ((List (Int × Int)) → Option α) → Option α) (n : Nat) : Ctx α := ⟨spec_l10Best_CG F0 n, spec_l10Best_M, eqs, lpOf (spec_l10Best_lpsG G3) n, spec_l10Best_jt⟩
def spec_l10Best_X {α : Type} (n : Nat) : Ctx α := spec_l10Best_XG spec_l10Near spec_l10Best_l3 n
def spec_l10Best_Lt (np : Nat) (lent : List (Bool × Nat × Blk)) : Prop := np = 4 ∧ lent = []
def spec_l10Best_lb3 {α : Type} (F0 : T14 α) (G3 : Nat → Int → Int → Int → Bool → Int → Int → Int → (List (Int × Int)) → (Int → Int → Int → Bool → Int → Int → Int → (List (Int × Int)) → Option α) → ((List (Int × Int)) → Option α) → Option α) (k : Nat) (p_1 : Int) (q_1 : Int) (n_1 : Int) (second1 : Bool) (last : Int) (under : Int) (k_ : Int) (out : List (Int × Int)) (b0 : Int → Int → Int → Bool → Int → Int → Int → (List (Int × Int)) → Option α) (r0 : (List (Int × Int)) → Option α) : Option α :=
  bif decide (k_ ≤ n_1) then
    F0 k (w64 (k_ * p_1)) q_1 fun v v1 =>
    bif decide ((((List.length out) : Nat) : Int) = 0) then
      bif decide (((List.length out) + 1) ≤ big) then
        bif decide (v1 = 0) then
          b0 p_1 q_1 n_1 second1 v1 k_ k_ (out ++ [(v, k_)])
        else
          G3 k p_1 q_1 n_1 second1 v1 k_ (w64 (k_ + 1)) (out ++ [(v, k_)]) b0 r0
      else
        none
    else
    bif second1 then
      bif decide (v1 < last) then
        bif decide (((List.length out) + 1) ≤ big) then
          bif decide (v1 = 0) then
            b0 p_1 q_1 n_1 second1 v1 k_ k_ (out ++ [(v, k_)])
          else
            G3 k p_1 q_1 n_1 second1 v1 k_ (w64 (k_ + 1)) (out ++ [(v, k_)]) b0 r0
        else
          none
      else
      bif (!second1) then
        bif decide ((w64 (v1 * under)) < (w64 (last * k_))) then
          bif decide (((List.length out) + 1) ≤ big) then
            bif decide (v1 = 0) then
              b0 p_1 q_1 n_1 second1 v1 k_ k_ (out ++ [(v, k_)])
            else
              G3 k p_1 q_1 n_1 second1 v1 k_ (w64 (k_ + 1)) (out ++ [(v, k_)]) b0 r0
          else
            none
        else
        bif decide (v1 = 0) then
          b0 p_1 q_1 n_1 second1 last under k_ out
        else
          G3 k p_1 q_1 n_1 second1 last under (w64 (k_ + 1)) out b0 r0
      else
      bif decide (v1 = 0) then
        b0 p_1 q_1 n_1 second1 last under k_ out
      else
        G3 k p_1 q_1 n_1 second1 last under (w64 (k_ + 1)) out b0 r0
    else
    bif (!second1) then
      bif decide ((w64 (v1 * under)) < (w64 (last * k_))) then
        bif decide (((List.length out) + 1) ≤ big) then
          bif decide (v1 = 0) then
            b0 p_1 q_1 n_1 second1 v1 k_ k_ (out ++ [(v, k_)])
          else
            G3 k p_1 q_1 n_1 second1 v1 k_ (w64 (k_ + 1)) (out ++ [(v, k_)]) b0 r0
        else
          none
      else
      bif decide (v1 = 0) then
        b0 p_1 q_1 n_1 second1 last under k_ out
      else
        G3 k p_1 q_1 n_1 second1 last under (w64 (k_ + 1)) out b0 r0
    else
    bif decide (v1 = 0) then
      b0 p_1 q_1 n_1 second1 last under k_ out
    else
      G3 k p_1 q_1 n_1 second1 last under (w64 (k_ + 1)) out b0 r0
  else
    b0 p_1 q_1 n_1 second1 last under k_ out
theorem spec_l10Best_l3_gen {α : Type} (F0 : T14 α) (G3 : Nat → Int → Int → Int → Bool → Int → Int → Int → (List (Int × Int)) → (Int → Int → Int → Bool → Int → Int → Int → (List (Int × Int)) → Option α) → ((List (Int × Int)) → Option α) → Option α) (n : Nat) (p_1 : Int) (q_1 : Int) (n_1 : Int) (second1 : Bool) (last : Int) (under : Int) (k_ : Int) (out : List (Int × Int)) (brk : Nat → List P1 → Option α) (ret : Res → Option α) : ev ((spec_l10Best_XG F0 G3 n).env Try.prog Try.f27 4 []) (findLoop (loopsIn (Try.f27.body.getD .skip)) 3) ((spec_l10Best_t3.build [.int p_1, .int q_1, .int n_1, .bool second1, .int last, .int under, .int k_, .rows .pt out]).getD ⟨[], []⟩) (roundK (4 * 64) spec_l10Best_t3 (fun q => spec_l10Best_uG3 G3 n q brk ret) brk ret) = spec_l10Best_lb3 F0 G3 n p_1 q_1 n_1 second1 last under k_ out (fun p_1 q_1 n_1 second1 last under k_ out => brk 0 [.int p_1, .int q_1, .int n_1, .bool second1, .int last, .int under, .int k_, .rows .pt out]) (fun v1 => ret ⟨[.sl 31 .pt v1], []⟩) := by kernel_rfl
theorem spec_l10Best_l3_eq {α : Type} (k : Nat) (p_1 : Int) (q_1 : Int) (n_1 : Int) (second1 : Bool) (last : Int) (under : Int) (k_ : Int) (out : List (Int × Int)) (b0 : Int → Int → Int → Bool → Int → Int → Int → (List (Int × Int)) → Option α) (r0 : (List (Int × Int)) → Option α) : spec_l10Best_lb3 spec_l10Near spec_l10Best_l3 k p_1 q_1 n_1 second1 last under k_ out b0 r0 = spec_l10Best_l3 (k + 1) p_1 q_1 n_1 second1 last under k_ out b0 r0 := (spec_l10Best_lb3.eq_1 spec_l10Near spec_l10Best_l3 k p_1 q_1 n_1 second1 last under k_ out b0 r0).trans (show spec_l10Best_l3 (k + 1) p_1 q_1 n_1 second1 last under k_ out b0 r0 = _ from spec_l10Best_l3.eq_2 _ _ _ _ _ _ _ _ _ _ _ ).symm
theorem spec_l10Best_l3_rn {α : Type} (G : Nat → Int → Int → Int → Bool → Int → Int → Int → (List (Int × Int)) → (Int → Int → Int → Bool → Int → Int → Int → (List (Int × Int)) → Option α) → ((List (Int × Int)) → Option α) → Option α) (n : Nat) (p_1 : Int) (q_1 : Int) (n_1 : Int) (second1 : Bool) (last : Int) (under : Int) (k_ : Int) (out : List (Int × Int)) (brk : Nat → List P1 → Option α) (ret : Res → Option α) : spec_l10Best_uG3 G n [.int p_1, .int q_1, .int n_1, .bool second1, .int last, .int under, .int k_, .rows .pt out] brk ret = G n p_1 q_1 n_1 second1 last under k_ out (fun p_1 q_1 n_1 second1 last under k_ out => brk 0 [.int p_1, .int q_1, .int n_1, .bool second1, .int last, .int under, .int k_, .rows .pt out]) (fun v1 => ret ⟨[.sl 31 .pt v1], []⟩) := rfl
theorem spec_l10Best_l3_ev {α : Type} (n : Nat) (p_1 : Int) (q_1 : Int) (n_1 : Int) (second1 : Bool) (last : Int) (under : Int) (k_ : Int) (out : List (Int × Int)) (brk : Nat → List P1 → Option α) (ret : Res → Option α) : ev ((spec_l10Best_X n).env Try.prog Try.f27 4 []) (findLoop (loopsIn (Try.f27.body.getD .skip)) 3) ((spec_l10Best_t3.build [.int p_1, .int q_1, .int n_1, .bool second1, .int last, .int under, .int k_, .rows .pt out]).getD ⟨[], []⟩) (roundK (4 * 64) spec_l10Best_t3 (fun q => spec_l10Best_u3 n q brk ret) brk ret) = spec_l10Best_u3 (n + 1) [.int p_1, .int q_1, .int n_1, .bool second1, .int last, .int under, .int k_, .rows .pt out] brk ret := (spec_l10Best_l3_gen spec_l10Near spec_l10Best_l3 n p_1 q_1 n_1 second1 last under k_ out brk ret).trans ((spec_l10Best_l3_eq n p_1 q_1 n_1 second1 last under k_ out (fun p_1 q_1 n_1 second1 last under k_ out => brk 0 [.int p_1, .int q_1, .int n_1, .bool second1, .int last, .int under, .int k_, .rows .pt out]) (fun v1 => ret ⟨[.sl 31 .pt v1], []⟩)).trans ((spec_l10Best_u3.eq_1 (n + 1) [.int p_1, .int q_1, .int n_1, .bool second1, .int last, .int under, .int k_, .rows .pt out] brk ret).trans (spec_l10Best_l3_rn spec_l10Best_l3 (n + 1) p_1 q_1 n_1 second1 last under k_ out brk ret)).symm)
def spec_l10Best_body {α : Type} (F0 : T14 α) (G3 : Nat → Int → Int → Int → Bool → Int → Int → Int → (List (Int × Int)) → (Int → Int → Int → Bool → Int → Int → Int → (List (Int × Int)) → Option α) → ((List (Int × Int)) → Option α) → Option α) (k : Nat) (p_ : Int) (q_ : Int) (n_ : Int) (second : Bool) (r0 : (List (Int × Int)) → Option α) : Option α :=
  G3 k p_ q_ n_ second 0 1 1 []
    (fun _ _ _ _ _ _ _ out1 =>
      r0 out1)
    r0
theorem spec_l10Best_gen {α : Type} (F0 : T14 α) (G3 : Nat → Int → Int → Int → Bool → Int → Int → Int → (List (Int × Int)) → (Int → Int → Int → Bool → Int → Int → Int → (List (Int × Int)) → Option α) → ((List (Int × Int)) → Option α) → Option α) (n : Nat) (p_ : Int) (q_ : Int) (n_ : Int) (second : Bool) (κ : Res → Option α) : evFn Try.prog (spec_l10Best_XG F0 G3 n) Try.f27 (((buildDs spec_l10Best_sh [.int p_, .int q_, .int n_, .bool second]).map Prod.fst).getD []) κ = spec_l10Best_body F0 G3 n p_ q_ n_ second (fun v1 => κ ⟨[.sl 31 .pt v1], []⟩) := by kernel_rfl
theorem spec_l10Best_eq {α : Type} (n : Nat) (p_ : Int) (q_ : Int) (n_ : Int) (second : Bool) (r0 : (List (Int × Int)) → Option α) : spec_l10Best_body spec_l10Near spec_l10Best_l3 n p_ q_ n_ second r0 = spec_l10Best n p_ q_ n_ second r0 := (spec_l10Best_body.eq_1 spec_l10Near spec_l10Best_l3 n p_ q_ n_ second r0).trans (spec_l10Best.eq_1 n p_ q_ n_ second r0).symm
theorem spec_l10Best_rn {α : Type} (F : T15 α) (n : Nat) (p_ : Int) (q_ : Int) (n_ : Int) (second : Bool) (κ : Res → Option α) : spec_l10Best_runG F n [.int p_, .int q_, .int n_, .bool second] κ = F n p_ q_ n_ second (fun v1 => κ ⟨[.sl 31 .pt v1], []⟩) := rfl
theorem spec_l10Best_ev {α : Type} (n : Nat) (p_ : Int) (q_ : Int) (n_ : Int) (second : Bool) (κ : Res → Option α) : evFn Try.prog (spec_l10Best_X n) Try.f27 (((buildDs spec_l10Best_sh [.int p_, .int q_, .int n_, .bool second]).map Prod.fst).getD []) κ = spec_l10Best_run n [.int p_, .int q_, .int n_, .bool second] κ := (spec_l10Best_gen spec_l10Near spec_l10Best_l3 n p_ q_ n_ second κ).trans ((spec_l10Best_eq n p_ q_ n_ second (fun v1 => κ ⟨[.sl 31 .pt v1], []⟩)).trans ((spec_l10Best_run.eq_1 n [.int p_, .int q_, .int n_, .bool second] κ).trans (spec_l10Best_rn spec_l10Best n p_ q_ n_ second κ)).symm)
theorem spec_l10Best_en (p_ : Int) (q_ : Int) (n_ : Int) (second : Bool) : (entry 0 (((buildDs spec_l10Best_sh [.int p_, .int q_, .int n_, .bool second]).map Prod.fst).getD [])).map (fun x => (x.1.length, x.2.lent)) = some (4, []) := by kernel_rfl
theorem spec_l10Best_good {α : Type} : ∀ n, GoodFn (α := α) Try.prog 27 (byShape spec_l10Best_sh (spec_l10Best_run n)) := by
  refine fn_good' Try.func27 (c := (Try.f27.body.getD .skip)) (by kernel_rfl) (by kernel_rfl) (by kernel_rfl) spec_l10Best_C spec_l10Best_M eqs spec_l10Best_lps spec_l10Best_jt (fun n => tabC_good (List.forall_mem_cons.2 ⟨(spec_l10Near_good n), (fun _ h => absurd h List.not_mem_nil)⟩)) eqs_ok spec_l10Best_Lt ?_ ?_ spec_l10Best_sh spec_l10Best_run ?_
  · refine List.forall_mem_cons.2 ⟨?_, (fun _ h => absurd h List.not_mem_nil)⟩
    · intro p brk ret; show spec_l10Best_u3 0 p brk ret = none; unfold spec_l10Best_u3 spec_l10Best_uG3; split <;> rfl
  · refine List.forall_mem_cons.2 ⟨?_, (fun _ h => absurd h List.not_mem_nil)⟩
    · intro np lent hL n p brk ret st r hb hr
      obtain ⟨rfl, rfl⟩ := hL
      rw [← tpl_of hb]
      change spec_l10Best_u3 (n + 1) p brk ret = some r at hr
      have hr0 := hr
      unfold spec_l10Best_u3 spec_l10Best_uG3 at hr
      split at hr
      · exact (spec_l10Best_l3_ev n _ _ _ _ _ _ _ _ brk ret).trans hr0
      · cases hr
  · intro n p κ r ds hd hr
    have hr0 := hr
    unfold spec_l10Best_run spec_l10Best_runG at hr
    split at hr
    · rw [← ds_of hd]
      exact ⟨en_of (spec_l10Best_en _ _ _ _) ⟨rfl, rfl⟩, (spec_l10Best_ev n _ _ _ _ κ).trans hr0⟩
    · cases hr

/-! loop.example/g01297/spec.BestOfSecond -/
def spec_BestOfSecond_sh : List SkD := [.int .i64, .int .i64, .int .i64]
def spec_BestOfSecond_runG {α : Type} (F : T13 α) (n : Nat) (p : List P1) (κ : Res → Option α) : Option α := match p with
  | [.int p_, .int q_, .int n_] => F n p_ q_ n_ (fun v1 => κ ⟨[.nilsl, .int .i64 v1], []⟩) (fun v1 v2 => κ ⟨[.sl 31 .pt v1, .int .i64 v2], []⟩)
  | _ => none
def spec_BestOfSecond_run {α : Type} (n : Nat) (p : List P1) (κ : Res → Option α) : Option α := spec_BestOfSecond_runG spec_BestOfSecond n p κ
def spec_BestOfSecond_CG {α : Type} (F0 : T7 α) (F1 : T7 α) (F2 : T15 α) (n : Nat) : FuncId → List D → (Res → Option α) → Option α := tabC [(25, (byShape spec_l10Ratio_sh (spec_l10Ratio_runG F0 n))), (26, (byShape spec_l01In_sh (spec_l01In_runG F1 n))), (27, (byShape spec_l10Best_sh (spec_l10Best_runG F2 n)))]
def spec_BestOfSecond_C {α : Type} (n : Nat) : FuncId → List D → (Res → Option α) → Option α := spec_BestOfSecond_CG spec_l10Ratio spec_l01In spec_l10Best n
def spec_BestOfSecond_M : FuncId → List Nat := tabM []
def spec_BestOfSecond_lpsG {α : Type}  : List (LoopT α) := []
def spec_BestOfSecond_lps {α : Type} : List (LoopT α) := spec_BestOfSecond_lpsG
def spec_BestOfSecond_jt : Nat → Option Tpl := jtOf []
def spec_BestOfSecond_XG {α : Type} (F0 : T7 α) (F1 : T7 α) (F2 : T15 α)  (n : Nat) : Ctx α := ⟨spec_BestOfSecond_CG F0 F1 F2 n, spec_BestOfSecond_M, eqs, lpOf (spec_BestOfSecond_lpsG) n, spec_BestOfSecond_jt⟩
def spec_BestOfSecond_X {α : Type} (n : Nat) : Ctx α := spec_BestOfSecond_XG spec_l10Ratio spec_l01In spec_l10Best n
def spec_BestOfSecond_Lt (np : Nat) (lent : List (Bool × Nat × Blk)) : Prop := np = 3 ∧ lent = []
def spec_BestOfSecond_body {α : Type} (F0 : T7 α) (F1 : T7 α) (F2 : T15 α)  (k : Nat) (p_ : Int) (q_ : Int) (n_ : Int) (r0 : Int → Option α) (r1 : (List (Int × Int)) → Int → Option α) : Option α :=
  F0 k p_ q_ 1 fun v =>
  bif (!v) then
    r0 2
  else
    F1 k n_ 1 100000 fun v1 =>
    bif (!v1) then
      r0 2
    else
      F2 k p_ q_ n_ true fun v2 =>
      r1 v2 0
theorem spec_BestOfSecond_gen {α : Type} (F0 : T7 α) (F1 : T7 α) (F2 : T15 α)  (n : Nat) (p_ : Int) (q_ : Int) (n_ : Int) (κ : Res → Option α) : evFn Try.prog (spec_BestOfSecond_XG F0 F1 F2 n) Try.f7 (((buildDs spec_BestOfSecond_sh [.int p_, .int q_, .int n_]).map Prod.fst).getD []) κ = spec_BestOfSecond_body F0 F1 F2 n p_ q_ n_ (fun v1 => κ ⟨[.nilsl, .int .i64 v1], []⟩) (fun v1 v2 => κ ⟨[.sl 31 .pt v1, .int .i64 v2], []⟩) := by kernel_rfl
theorem spec_BestOfSecond_eq {α : Type} (n : Nat) (p_ : Int) (q_ : Int) (n_ : Int) (r0 : Int → Option α) (r1 : (List (Int × Int)) → Int → Option α) : spec_BestOfSecond_body spec_l10Ratio spec_l01In spec_l10Best n p_ q_ n_ r0 r1 = spec_BestOfSecond n p_ q_ n_ r0 r1 := (spec_BestOfSecond_body.eq_1 spec_l10Ratio spec_l01In spec_l10Best n p_ q_ n_ r0 r1).trans (spec_BestOfSecond.eq_1 n p_ q_ n_ r0 r1).symm
theorem spec_BestOfSecond_rn {α : Type} (F : T13 α) (n : Nat) (p_ : Int) (q_ : Int) (n_ : Int) (κ : Res → Option α) : spec_BestOfSecond_runG F n [.int p_, .int q_, .int n_] κ = F n p_ q_ n_ (fun v1 => κ ⟨[.nilsl, .int .i64 v1], []⟩) (fun v1 v2 => κ ⟨[.sl 31 .pt v1, .int .i64 v2], []⟩) := rfl
theorem spec_BestOfSecond_ev {α : Type} (n : Nat) (p_ : Int) (q_ : Int) (n_ : Int) (κ : Res → Option α) : evFn Try.prog (spec_BestOfSecond_X n) Try.f7 (((buildDs spec_BestOfSecond_sh [.int p_, .int q_, .int n_]).map Prod.fst).getD []) κ = spec_BestOfSecond_run n [.int p_, .int q_, .int n_] κ := (spec_BestOfSecond_gen spec_l10Ratio spec_l01In spec_l10Best n p_ q_ n_ κ).trans ((spec_BestOfSecond_eq n p_ q_ n_ (fun v1 => κ ⟨[.nilsl, .int .i64 v1], []⟩) (fun v1 v2 => κ ⟨[.sl 31 .pt v1, .int .i64 v2], []⟩)).trans ((spec_BestOfSecond_run.eq_1 n [.int p_, .int q_, .int n_] κ).trans (spec_BestOfSecond_rn spec_BestOfSecond n p_ q_ n_ κ)).symm)
theorem spec_BestOfSecond_en (p_ : Int) (q_ : Int) (n_ : Int) : (entry 0 (((buildDs spec_BestOfSecond_sh [.int p_, .int q_, .int n_]).map Prod.fst).getD [])).map (fun x => (x.1.length, x.2.lent)) = some (3, []) := by kernel_rfl
theorem spec_BestOfSecond_good {α : Type} : ∀ n, GoodFn (α := α) Try.prog 7 (byShape spec_BestOfSecond_sh (spec_BestOfSecond_run n)) := by
  refine fn_good' Try.func7 (c := (Try.f7.body.getD .skip)) (by kernel_rfl) (by kernel_rfl) (by kernel_rfl) spec_BestOfSecond_C spec_BestOfSecond_M eqs spec_BestOfSecond_lps spec_BestOfSecond_jt (fun n => tabC_good (List.forall_mem_cons.2 ⟨(spec_l10Ratio_good n), (List.forall_mem_cons.2 ⟨(spec_l01In_good n), (List.forall_mem_cons.2 ⟨(spec_l10Best_good n), (fun _ h => absurd h List.not_mem_nil)⟩)⟩)⟩)) eqs_ok spec_BestOfSecond_Lt ?_ ?_ spec_BestOfSecond_sh spec_BestOfSecond_run ?_
  · exact (fun _ h => absurd h List.not_mem_nil)
  · exact (fun _ h => absurd h List.not_mem_nil)
  · intro n p κ r ds hd hr
    have hr0 := hr
    unfold spec_BestOfSecond_run spec_BestOfSecond_runG at hr
    split at hr
    · rw [← ds_of hd]
      exact ⟨en_of (spec_BestOfSecond_en _ _ _) ⟨rfl, rfl⟩, (spec_BestOfSecond_ev n _ _ _ κ).trans hr0⟩
    · cases hr

/-! loop.example/g01297/laws.points9 -/
def laws_points9_0N_1N_sh : List SkD := [.nilsl, .nilsl]
def laws_points9_0N_1N_runG {α : Type} (F : T16 α) (n : Nat) (p : List P1) (κ : Res → Option α) : Option α := match p with
  | [] => F n (fun v1 => κ ⟨[.bool v1], []⟩)
  | _ => none
def laws_points9_0N_1N_run {α : Type} (n : Nat) (p : List P1) (κ : Res → Option α) : Option α := laws_points9_0N_1N_runG laws_points9_0N_1N n p κ
def laws_points9_0N_1N_CG {α : Type}  (n : Nat) : FuncId → List D → (Res → Option α) → Option α := tabC []
def laws_points9_0N_1N_C {α : Type} (n : Nat) : FuncId → List D → (Res → Option α) → Option α := laws_points9_0N_1N_CG n
def laws_points9_0N_1N_M : FuncId → List Nat := tabM []
def laws_points9_0N_1N_lpsG {α : Type}  : List (LoopT α) := []
def laws_points9_0N_1N_lps {α : Type} : List (LoopT α) := laws_points9_0N_1N_lpsG
def laws_points9_0N_1N_jt : Nat → Option Tpl := jtOf []
def laws_points9_0N_1N_XG {α : Type}   (n : Nat) : Ctx α := ⟨laws_points9_0N_1N_CG n, laws_points9_0N_1N_M, eqs, lpOf (laws_points9_0N_1N_lpsG) n, laws_points9_0N_1N_jt⟩
def laws_points9_0N_1N_X {α : Type} (n : Nat) : Ctx α := laws_points9_0N_1N_XG n
def laws_points9_0N_1N_Lt (np : Nat) (lent : List (Bool × Nat × Blk)) : Prop := np = 2 ∧ lent = []
def laws_points9_0N_1N_body {α : Type}   (k : Nat)  (r0 : Bool → Option α) : Option α :=
  r0 true
theorem laws_points9_0N_1N_gen {α : Type}   (n : Nat)  (κ : Res → Option α) : evFn Try.prog (laws_points9_0N_1N_XG n) Try.f8 (((buildDs laws_points9_0N_1N_sh []).map Prod.fst).getD []) κ = laws_points9_0N_1N_body n (fun v1 => κ ⟨[.bool v1], []⟩) := by kernel_rfl
theorem laws_points9_0N_1N_eq {α : Type} (n : Nat)  (r0 : Bool → Option α) : laws_points9_0N_1N_body n r0 = laws_points9_0N_1N n  r0 := (laws_points9_0N_1N_body.eq_1 n r0).trans (laws_points9_0N_1N.eq_1 n  r0).symm
theorem laws_points9_0N_1N_rn {α : Type} (F : T16 α) (n : Nat)  (κ : Res → Option α) : laws_points9_0N_1N_runG F n [] κ = F n  (fun v1 => κ ⟨[.bool v1], []⟩) := rfl
theorem laws_points9_0N_1N_ev {α : Type} (n : Nat)  (κ : Res → Option α) : evFn Try.prog (laws_points9_0N_1N_X n) Try.f8 (((buildDs laws_points9_0N_1N_sh []).map Prod.fst).getD []) κ = laws_points9_0N_1N_run n [] κ := (laws_points9_0N_1N_gen n κ).trans ((laws_points9_0N_1N_eq n  (fun v1 => κ ⟨[.bool v1], []⟩)).trans ((laws_points9_0N_1N_run.eq_1 n [] κ).trans (laws_points9_0N_1N_rn laws_points9_0N_1N n  κ)).symm)
theorem laws_points9_0N_1N_en  : (entry 0 (((buildDs laws_points9_0N_1N_sh []).map Prod.fst).getD [])).map (fun x => (x.1.length, x.2.lent)) = some (2, []) := by kernel_rfl
theorem laws_points9_0N_1N_good {α : Type} : ∀ n, GoodFn (α := α) Try.prog 8 (byShape laws_points9_0N_1N_sh (laws_points9_0N_1N_run n)) := by
  refine fn_good' Try.func8 (c := (Try.f8.body.getD .skip)) (by kernel_rfl) (by kernel_rfl) (by kernel_rfl) laws_points9_0N_1N_C laws_points9_0N_1N_M eqs laws_points9_0N_1N_lps laws_points9_0N_1N_jt (fun n => tabC_good (fun _ h => absurd h List.not_mem_nil)) eqs_ok laws_points9_0N_1N_Lt ?_ ?_ laws_points9_0N_1N_sh laws_points9_0N_1N_run ?_
  · exact (fun _ h => absurd h List.not_mem_nil)
  · exact (fun _ h => absurd h List.not_mem_nil)
  · intro n p κ r ds hd hr
    have hr0 := hr
    unfold laws_points9_0N_1N_run laws_points9_0N_1N_runG at hr
    split at hr
    · rw [← ds_of hd]
      exact ⟨en_of (laws_points9_0N_1N_en) ⟨rfl, rfl⟩, (laws_points9_0N_1N_ev n κ).trans hr0⟩
    · cases hr

/-! loop.example/g01297/spec.DrawBestOfFirst -/
def spec_DrawBestOfFirst_sh : List SkD := [.sl 5 (.int .u8)]
def spec_DrawBestOfFirst_runG {α : Type} (F : T6 α) (n : Nat) (p : List P1) (κ : Res → Option α) : Option α := match p with
  | [.rows (.int .u8) code] => F n code (fun v1 v2 v3 => κ ⟨[.int .i64 v1, .int .i64 v2, .int .i64 v3], []⟩)
  | _ => none
def spec_DrawBestOfFirst_run {α : Type} (n : Nat) (p : List P1) (κ : Res → Option α) : Option α := spec_DrawBestOfFirst_runG spec_DrawBestOfFirst n p κ
def spec_DrawBestOfFirst_CG {α : Type} (F0 : T5 α) (n : Nat) : FuncId → List D → (Res → Option α) → Option α := tabC [(21, (byShape spec_l10With_sh (spec_l10With_runG F0 n)))]
def spec_DrawBestOfFirst_C {α : Type} (n : Nat) : FuncId → List D → (Res → Option α) → Option α := spec_DrawBestOfFirst_CG spec_l10With n
def spec_DrawBestOfFirst_M : FuncId → List Nat := tabM []
def spec_DrawBestOfFirst_lpsG {α : Type}  : List (LoopT α) := []
def spec_DrawBestOfFirst_lps {α : Type} : List (LoopT α) := spec_DrawBestOfFirst_lpsG
def spec_DrawBestOfFirst_jt : Nat → Option Tpl := jtOf []
def spec_DrawBestOfFirst_XG {α : Type} (F0 : T5 α)  (n : Nat) : Ctx α := ⟨spec_DrawBestOfFirst_CG F0 n, spec_DrawBestOfFirst_M, eqs, lpOf (spec_DrawBestOfFirst_lpsG) n, spec_DrawBestOfFirst_jt⟩
def spec_DrawBestOfFirst_X {α : Type} (n : Nat) : Ctx α := spec_DrawBestOfFirst_XG spec_l10With n
def spec_DrawBestOfFirst_Lt (np : Nat) (lent : List (Bool × Nat × Blk)) : Prop := np = 1 ∧ lent = []
def spec_DrawBestOfFirst_body {α : Type} (F0 : T5 α)  (k : Nat) (code : List Int) (r0 : Int → Int → Int → Option α) : Option α :=
  F0 k code 2000 fun v v1 v2 =>
  r0 v v1 v2
theorem spec_DrawBestOfFirst_gen {α : Type} (F0 : T5 α)  (n : Nat) (code : List Int) (κ : Res → Option α) : evFn Try.prog (spec_DrawBestOfFirst_XG F0 n) Try.f9 (((buildDs spec_DrawBestOfFirst_sh [.rows (.int .u8) code]).map Prod.fst).getD []) κ = spec_DrawBestOfFirst_body F0 n code (fun v1 v2 v3 => κ ⟨[.int .i64 v1, .int .i64 v2, .int .i64 v3], []⟩) := by kernel_rfl
theorem spec_DrawBestOfFirst_eq {α : Type} (n : Nat) (code : List Int) (r0 : Int → Int → Int → Option α) : spec_DrawBestOfFirst_body spec_l10With n code r0 = spec_DrawBestOfFirst n code r0 := (spec_DrawBestOfFirst_body.eq_1 spec_l10With n code r0).trans (spec_DrawBestOfFirst.eq_1 n code r0).symm
theorem spec_DrawBestOfFirst_rn {α : Type} (F : T6 α) (n : Nat) (code : List Int) (κ : Res → Option α) : spec_DrawBestOfFirst_runG F n [.rows (.int .u8) code] κ = F n code (fun v1 v2 v3 => κ ⟨[.int .i64 v1, .int .i64 v2, .int .i64 v3], []⟩) := rfl
theorem spec_DrawBestOfFirst_ev {α : Type} (n : Nat) (code : List Int) (κ : Res → Option α) : evFn Try.prog (spec_DrawBestOfFirst_X n) Try.f9 (((buildDs spec_DrawBestOfFirst_sh [.rows (.int .u8) code]).map Prod.fst).getD []) κ = spec_DrawBestOfFirst_run n [.rows (.int .u8) code] κ := (spec_DrawBestOfFirst_gen spec_l10With n code κ).trans ((spec_DrawBestOfFirst_eq n code (fun v1 v2 v3 => κ ⟨[.int .i64 v1, .int .i64 v2, .int .i64 v3], []⟩)).trans ((spec_DrawBestOfFirst_run.eq_1 n [.rows (.int .u8) code] κ).trans (spec_DrawBestOfFirst_rn spec_DrawBestOfFirst n code κ)).symm)
theorem spec_DrawBestOfFirst_en (code : List Int) : (entry 0 (((buildDs spec_DrawBestOfFirst_sh [.rows (.int .u8) code]).map Prod.fst).getD [])).map (fun x => (x.1.length, x.2.lent)) = some (1, []) := by kernel_rfl
theorem spec_DrawBestOfFirst_good {α : Type} : ∀ n, GoodFn (α := α) Try.prog 9 (byShape spec_DrawBestOfFirst_sh (spec_DrawBestOfFirst_run n)) := by
  refine fn_good' Try.func9 (c := (Try.f9.body.getD .skip)) (by kernel_rfl) (by kernel_rfl) (by kernel_rfl) spec_DrawBestOfFirst_C spec_DrawBestOfFirst_M eqs spec_DrawBestOfFirst_lps spec_DrawBestOfFirst_jt (fun n => tabC_good (List.forall_mem_cons.2 ⟨(spec_l10With_good n), (fun _ h => absurd h List.not_mem_nil)⟩)) eqs_ok spec_DrawBestOfFirst_Lt ?_ ?_ spec_DrawBestOfFirst_sh spec_DrawBestOfFirst_run ?_
  · exact (fun _ h => absurd h List.not_mem_nil)
  · exact (fun _ h => absurd h List.not_mem_nil)
  · intro n p κ r ds hd hr
    have hr0 := hr
    unfold spec_DrawBestOfFirst_run spec_DrawBestOfFirst_runG at hr
    split at hr
    · rw [← ds_of hd]
      exact ⟨en_of (spec_DrawBestOfFirst_en _) ⟨rfl, rfl⟩, (spec_DrawBestOfFirst_ev n _ κ).trans hr0⟩
    · cases hr

/-! loop.example/g01297/impl.bestOfFirst$1 -/
def impl_bestOfFirst_1_sh : List SkD := [.int .i64]
def impl_bestOfFirst_1_runG {α : Type} (F : T11 α) (n : Nat) (p : List P1) (κ : Res → Option α) : Option α := match p with
  | [.int k_] => F n k_ (fun v1 => κ ⟨[.int .i64 v1], []⟩)
  | _ => none
def impl_bestOfFirst_1_run {α : Type} (n : Nat) (p : List P1) (κ : Res → Option α) : Option α := impl_bestOfFirst_1_runG impl_bestOfFirst_1 n p κ
def impl_bestOfFirst_1_CG {α : Type}  (n : Nat) : FuncId → List D → (Res → Option α) → Option α := tabC []
def impl_bestOfFirst_1_C {α : Type} (n : Nat) : FuncId → List D → (Res → Option α) → Option α := impl_bestOfFirst_1_CG n
def impl_bestOfFirst_1_M : FuncId → List Nat := tabM []
def impl_bestOfFirst_1_lpsG {α : Type}  : List (LoopT α) := []
def impl_bestOfFirst_1_lps {α : Type} : List (LoopT α) := impl_bestOfFirst_1_lpsG
def impl_bestOfFirst_1_jt : Nat → Option Tpl := jtOf []
def impl_bestOfFirst_1_XG {α : Type}   (n : Nat) : Ctx α := ⟨impl_bestOfFirst_1_CG n, impl_bestOfFirst_1_M, eqs, lpOf (impl_bestOfFirst_1_lpsG) n, impl_bestOfFirst_1_jt⟩
def impl_bestOfFirst_1_X {α : Type} (n : Nat) : Ctx α := impl_bestOfFirst_1_XG n
def impl_bestOfFirst_1_Lt (np : Nat) (lent : List (Bool × Nat × Blk)) : Prop := np = 1 ∧ lent = []
def impl_bestOfFirst_1_body {α : Type}   (k : Nat) (k_ : Int) (r0 : Int → Option α) : Option α :=
  r0 k_
theorem impl_bestOfFirst_1_gen {α : Type}   (n : Nat) (k_ : Int) (κ : Res → Option α) : evFn Try.prog (impl_bestOfFirst_1_XG n) Try.f44 (((buildDs impl_bestOfFirst_1_sh [.int k_]).map Prod.fst).getD []) κ = impl_bestOfFirst_1_body n k_ (fun v1 => κ ⟨[.int .i64 v1], []⟩) := by kernel_rfl
theorem impl_bestOfFirst_1_eq {α : Type} (n : Nat) (k_ : Int) (r0 : Int → Option α) : impl_bestOfFirst_1_body n k_ r0 = impl_bestOfFirst_1 n k_ r0 := (impl_bestOfFirst_1_body.eq_1 n k_ r0).trans (impl_bestOfFirst_1.eq_1 n k_ r0).symm
theorem impl_bestOfFirst_1_rn {α : Type} (F : T11 α) (n : Nat) (k_ : Int) (κ : Res → Option α) : impl_bestOfFirst_1_runG F n [.int k_] κ = F n k_ (fun v1 => κ ⟨[.int .i64 v1], []⟩) := rfl
theorem impl_bestOfFirst_1_ev {α : Type} (n : Nat) (k_ : Int) (κ : Res → Option α) : evFn Try.prog (impl_bestOfFirst_1_X n) Try.f44 (((buildDs impl_bestOfFirst_1_sh [.int k_]).map Prod.fst).getD []) κ = impl_bestOfFirst_1_run n [.int k_] κ := (impl_bestOfFirst_1_gen n k_ κ).trans ((impl_bestOfFirst_1_eq n k_ (fun v1 => κ ⟨[.int .i64 v1], []⟩)).trans ((impl_bestOfFirst_1_run.eq_1 n [.int k_] κ).trans (impl_bestOfFirst_1_rn impl_bestOfFirst_1 n k_ κ)).symm)
theorem impl_bestOfFirst_1_en (k_ : Int) : (entry 0 (((buildDs impl_bestOfFirst_1_sh [.int k_]).map Prod.fst).getD [])).map (fun x => (x.1.length, x.2.lent)) = some (1, []) := by kernel_rfl
theorem impl_bestOfFirst_1_good {α : Type} : ∀ n, GoodFn (α := α) Try.prog 44 (byShape impl_bestOfFirst_1_sh (impl_bestOfFirst_1_run n)) := by
  refine fn_good' Try.func44 (c := (Try.f44.body.getD .skip)) (by kernel_rfl) (by kernel_rfl) (by kernel_rfl) impl_bestOfFirst_1_C impl_bestOfFirst_1_M eqs impl_bestOfFirst_1_lps impl_bestOfFirst_1_jt (fun n => tabC_good (fun _ h => absurd h List.not_mem_nil)) eqs_ok impl_bestOfFirst_1_Lt ?_ ?_ impl_bestOfFirst_1_sh impl_bestOfFirst_1_run ?_
  · exact (fun _ h => absurd h List.not_mem_nil)
  · exact (fun _ h => absurd h List.not_mem_nil)
  · intro n p κ r ds hd hr
    have hr0 := hr
    unfold impl_bestOfFirst_1_run impl_bestOfFirst_1_runG at hr
    split at hr
    · rw [← ds_of hd]
      exact ⟨en_of (impl_bestOfFirst_1_en _) ⟨rfl, rfl⟩, (impl_bestOfFirst_1_ev n _ κ).trans hr0⟩
    · cases hr

end Go.Proofs.Ytjcmebkllhjpfaa
