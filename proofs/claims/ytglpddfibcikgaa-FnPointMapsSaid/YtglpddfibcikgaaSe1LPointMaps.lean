/- The program's functions hold to their readings without memory: printed by a program of ours. -/
import Derived.Test.YtglpddfibcikgaaSeLPointMaps
namespace Go.Proofs.Ytglpddfibcikgaa
open Go Go.Ev Go.Sh Go.Proofs

/-! loop.example/g01297/laws.big -/
def laws_big_sh : List SkD := [.sl 5 (.int .u8)]
def laws_big_runG {α : Type} (F : T0 α) (n : Nat) (p : List P1) (κ : Res → Option α) : Option α := match p with
  | [.rows (.int .u8) code] => F n code (fun v1 => κ ⟨[.bool v1], []⟩)
  | _ => none
def laws_big_run {α : Type} (n : Nat) (p : List P1) (κ : Res → Option α) : Option α := laws_big_runG laws_big n p κ
def laws_big_CG {α : Type}  (n : Nat) : FuncId → List D → (Res → Option α) → Option α := tabC []
def laws_big_C {α : Type} (n : Nat) : FuncId → List D → (Res → Option α) → Option α := laws_big_CG n
def laws_big_M : FuncId → List Nat := tabM []
def laws_big_lpsG {α : Type}  : List (LoopT α) := []
def laws_big_lps {α : Type} : List (LoopT α) := laws_big_lpsG
def laws_big_jt : Nat → Option Tpl := jtOf []
def laws_big_XG {α : Type}   (n : Nat) : Ctx α := ⟨laws_big_CG n, laws_big_M, eqs, lpOf (laws_big_lpsG) n, laws_big_jt⟩
def laws_big_X {α : Type} (n : Nat) : Ctx α := laws_big_XG n
def laws_big_Lt (np : Nat) (lent : List (Bool × Nat × Blk)) : Prop := np = 1 ∧ lent = []
def laws_big_body {α : Type}   (k : Nat) (code : List Int) (r0 : Bool → Option α) : Option α :=
  r0 (decide (4096 < (((List.length code) : Nat) : Int)))
theorem laws_big_gen {α : Type}   (n : Nat) (code : List Int) (κ : Res → Option α) : evFn Try.prog (laws_big_XG n) Try.f4 (((buildDs laws_big_sh [.rows (.int .u8) code]).map Prod.fst).getD []) κ = laws_big_body n code (fun v1 => κ ⟨[.bool v1], []⟩) := by kernel_rfl
theorem laws_big_eq {α : Type} (n : Nat) (code : List Int) (r0 : Bool → Option α) : laws_big_body n code r0 = laws_big n code r0 := (laws_big_body.eq_1 n code r0).trans (laws_big.eq_1 n code r0).symm
theorem laws_big_rn {α : Type} (F : T0 α) (n : Nat) (code : List Int) (κ : Res → Option α) : laws_big_runG F n [.rows (.int .u8) code] κ = F n code (fun v1 => κ ⟨[.bool v1], []⟩) := rfl
theorem laws_big_ev {α : Type} (n : Nat) (code : List Int) (κ : Res → Option α) : evFn Try.prog (laws_big_X n) Try.f4 (((buildDs laws_big_sh [.rows (.int .u8) code]).map Prod.fst).getD []) κ = laws_big_run n [.rows (.int .u8) code] κ := (laws_big_gen n code κ).trans ((laws_big_eq n code (fun v1 => κ ⟨[.bool v1], []⟩)).trans ((laws_big_run.eq_1 n [.rows (.int .u8) code] κ).trans (laws_big_rn laws_big n code κ)).symm)
theorem laws_big_en (code : List Int) : (entry 0 (((buildDs laws_big_sh [.rows (.int .u8) code]).map Prod.fst).getD [])).map (fun x => (x.1.length, x.2.lent)) = some (1, []) := by kernel_rfl
theorem laws_big_good {α : Type} : ∀ n, GoodFn (α := α) Try.prog 4 (byShape laws_big_sh (laws_big_run n)) := by
  refine fn_good' Try.func4 (c := (Try.f4.body.getD .skip)) (by kernel_rfl) (by kernel_rfl) (by kernel_rfl) laws_big_C laws_big_M eqs laws_big_lps laws_big_jt (fun n => tabC_good (fun _ h => absurd h List.not_mem_nil)) eqs_ok laws_big_Lt ?_ ?_ laws_big_sh laws_big_run ?_
  · exact (fun _ h => absurd h List.not_mem_nil)
  · exact (fun _ h => absurd h List.not_mem_nil)
  · intro n p κ r ds hd hr
    have hr0 := hr
    unfold laws_big_run laws_big_runG at hr
    split at hr
    · rw [← ds_of hd]
      exact ⟨en_of (laws_big_en _) ⟨rfl, rfl⟩, (laws_big_ev n _ κ).trans hr0⟩
    · cases hr

/-! loop.example/g01297/spec.l01From -/
def spec_l01From_sh : List SkD := [.sl 5 (.int .u8)]
def spec_l01From_runG {α : Type} (F : T1 α) (n : Nat) (p : List P1) (κ : Res → Option α) : Option α := match p with
  | [.rows (.int .u8) code] => F n code (fun v1 v2 => κ ⟨[.ptr 81 [.same 0, .int .i64 v1, .int .u64 v2]], []⟩)
  | _ => none
def spec_l01From_run {α : Type} (n : Nat) (p : List P1) (κ : Res → Option α) : Option α := spec_l01From_runG spec_l01From n p κ
def spec_l01From_CG {α : Type}  (n : Nat) : FuncId → List D → (Res → Option α) → Option α := tabC []
def spec_l01From_C {α : Type} (n : Nat) : FuncId → List D → (Res → Option α) → Option α := spec_l01From_CG n
def spec_l01From_M : FuncId → List Nat := tabM []
def spec_l01From_t3 : Tpl := ⟨[.sl 0, .any, .any, .ptr 704 0 0, .int .i64, .any, .any, .any, .any, .any, .any, .any, .any, .any, .any, .any, .any, .any, .any, .any, .any, .any, .any, .any, .any, .any, .any, .any, .any, .any, .any, .any, .any, .any, .any, .any, .any, .any], [(0, .rows 0 5 (.int .u8)), (704, .mix 2 81 [.sl 0, .int .i64, .int .u64])], []⟩
def spec_l01From_uG3 {α : Type} (G : Nat → Int → List Int → Int → Int → (Int → List Int → Int → Int → Option α) → (Int → Int → Option α) → Option α) (n : Nat) (p : List P1) (brk : Nat → List P1 → Option α) (ret : Res → Option α) : Option α := match p with
  | [.int i, .rows (.int .u8) code1, .int s, .int s1] => G n i code1 s s1 (fun i code1 s s1 => brk 0 [.int i, .rows (.int .u8) code1, .int s, .int s1]) (fun v1 v2 => ret ⟨[.ptr 81 [.same 0, .int .i64 v1, .int .u64 v2]], []⟩)
  | _ => none
def spec_l01From_u3 {α : Type} (n : Nat) (p : List P1) (brk : Nat → List P1 → Option α) (ret : Res → Option α) : Option α := spec_l01From_uG3 spec_l01From_l3 n p brk ret
def spec_l01From_lpsG {α : Type} (G3 : Nat → Int → List Int → Int → Int → (Int → List Int → Int → Int → Option α) → (Int → Int → Option α) → Option α) : List (LoopT α) := [⟨3, spec_l01From_t3, spec_l01From_uG3 G3⟩]
def spec_l01From_lps {α : Type} : List (LoopT α) := spec_l01From_lpsG spec_l01From_l3
def spec_l01From_jt : Nat → Option Tpl := jtOf []
def spec_l01From_XG {α : Type}  (G3 : Nat → Int → List Int → Int → Int → (Int → List Int → Int → Int → Option α) → (Int → Int → Option α) → Option α) (n : Nat) : Ctx α := ⟨spec_l01From_CG n, spec_l01From_M, eqs, lpOf (spec_l01From_lpsG G3) n, spec_l01From_jt⟩
def spec_l01From_X {α : Type} (n : Nat) : Ctx α := spec_l01From_XG spec_l01From_l3 n
def spec_l01From_Lt (np : Nat) (lent : List (Bool × Nat × Blk)) : Prop := np = 1 ∧ lent = []
def spec_l01From_lb3 {α : Type}  (G3 : Nat → Int → List Int → Int → Int → (Int → List Int → Int → Int → Option α) → (Int → Int → Option α) → Option α) (k : Nat) (i : Int) (code1 : List Int) (s : Int) (s1 : Int) (b0 : Int → List Int → Int → Int → Option α) (r0 : Int → Int → Option α) : Option α :=
  bif decide (i < (((List.length code1) : Nat) : Int)) then
    bif decide (i < 4096) then
      bif (decide (0 ≤ i) && decide (i < (((List.length code1) : Nat) : Int))) then
        (code1[i.toNat]?).bind fun e_ =>
        G3 k (w64 (i + 1)) code1 s (IntKind.wrap .u64 ((IntKind.wrap .u64 ((IntKind.wrap .u64 (s1 * 1099511628211)) + (IntKind.wrap .u64 e_))) + 107)) b0 r0
      else
        none
    else
      b0 i code1 s s1
  else
    b0 i code1 s s1
theorem spec_l01From_l3_gen {α : Type}  (G3 : Nat → Int → List Int → Int → Int → (Int → List Int → Int → Int → Option α) → (Int → Int → Option α) → Option α) (n : Nat) (i : Int) (code1 : List Int) (s : Int) (s1 : Int) (brk : Nat → List P1 → Option α) (ret : Res → Option α) : ev ((spec_l01From_XG G3 n).env Try.prog Try.f36 1 []) (findLoop (loopsIn (Try.f36.body.getD .skip)) 3) ((spec_l01From_t3.build [.int i, .rows (.int .u8) code1, .int s, .int s1]).getD ⟨[], []⟩) (roundK (1 * 64) spec_l01From_t3 (fun q => spec_l01From_uG3 G3 n q brk ret) brk ret) = spec_l01From_lb3 G3 n i code1 s s1 (fun i code1 s s1 => brk 0 [.int i, .rows (.int .u8) code1, .int s, .int s1]) (fun v1 v2 => ret ⟨[.ptr 81 [.same 0, .int .i64 v1, .int .u64 v2]], []⟩) := by kernel_rfl
theorem spec_l01From_l3_eq {α : Type} (k : Nat) (i : Int) (code1 : List Int) (s : Int) (s1 : Int) (b0 : Int → List Int → Int → Int → Option α) (r0 : Int → Int → Option α) : spec_l01From_lb3 spec_l01From_l3 k i code1 s s1 b0 r0 = spec_l01From_l3 (k + 1) i code1 s s1 b0 r0 := (spec_l01From_lb3.eq_1 spec_l01From_l3 k i code1 s s1 b0 r0).trans (show spec_l01From_l3 (k + 1) i code1 s s1 b0 r0 = _ from spec_l01From_l3.eq_2 _ _ _ _ _ _ _ ).symm
theorem spec_l01From_l3_rn {α : Type} (G : Nat → Int → List Int → Int → Int → (Int → List Int → Int → Int → Option α) → (Int → Int → Option α) → Option α) (n : Nat) (i : Int) (code1 : List Int) (s : Int) (s1 : Int) (brk : Nat → List P1 → Option α) (ret : Res → Option α) : spec_l01From_uG3 G n [.int i, .rows (.int .u8) code1, .int s, .int s1] brk ret = G n i code1 s s1 (fun i code1 s s1 => brk 0 [.int i, .rows (.int .u8) code1, .int s, .int s1]) (fun v1 v2 => ret ⟨[.ptr 81 [.same 0, .int .i64 v1, .int .u64 v2]], []⟩) := rfl
theorem spec_l01From_l3_ev {α : Type} (n : Nat) (i : Int) (code1 : List Int) (s : Int) (s1 : Int) (brk : Nat → List P1 → Option α) (ret : Res → Option α) : ev ((spec_l01From_X n).env Try.prog Try.f36 1 []) (findLoop (loopsIn (Try.f36.body.getD .skip)) 3) ((spec_l01From_t3.build [.int i, .rows (.int .u8) code1, .int s, .int s1]).getD ⟨[], []⟩) (roundK (1 * 64) spec_l01From_t3 (fun q => spec_l01From_u3 n q brk ret) brk ret) = spec_l01From_u3 (n + 1) [.int i, .rows (.int .u8) code1, .int s, .int s1] brk ret := (spec_l01From_l3_gen spec_l01From_l3 n i code1 s s1 brk ret).trans ((spec_l01From_l3_eq n i code1 s s1 (fun i code1 s s1 => brk 0 [.int i, .rows (.int .u8) code1, .int s, .int s1]) (fun v1 v2 => ret ⟨[.ptr 81 [.same 0, .int .i64 v1, .int .u64 v2]], []⟩)).trans ((spec_l01From_u3.eq_1 (n + 1) [.int i, .rows (.int .u8) code1, .int s, .int s1] brk ret).trans (spec_l01From_l3_rn spec_l01From_l3 (n + 1) i code1 s s1 brk ret)).symm)
def spec_l01From_body {α : Type}  (G3 : Nat → Int → List Int → Int → Int → (Int → List Int → Int → Int → Option α) → (Int → Int → Option α) → Option α) (k : Nat) (code : List Int) (r0 : Int → Int → Option α) : Option α :=
  G3 k 0 code 0 (IntKind.wrap .u64 (12971 + (IntKind.wrap .u64 (((List.length code) : Nat) : Int))))
    (fun _ _ s2 s3 =>
      r0 s2 s3)
    r0
theorem spec_l01From_gen {α : Type}  (G3 : Nat → Int → List Int → Int → Int → (Int → List Int → Int → Int → Option α) → (Int → Int → Option α) → Option α) (n : Nat) (code : List Int) (κ : Res → Option α) : evFn Try.prog (spec_l01From_XG G3 n) Try.f36 (((buildDs spec_l01From_sh [.rows (.int .u8) code]).map Prod.fst).getD []) κ = spec_l01From_body G3 n code (fun v1 v2 => κ ⟨[.ptr 81 [.same 0, .int .i64 v1, .int .u64 v2]], []⟩) := by kernel_rfl
theorem spec_l01From_eq {α : Type} (n : Nat) (code : List Int) (r0 : Int → Int → Option α) : spec_l01From_body spec_l01From_l3 n code r0 = spec_l01From n code r0 := (spec_l01From_body.eq_1 spec_l01From_l3 n code r0).trans (spec_l01From.eq_1 n code r0).symm
theorem spec_l01From_rn {α : Type} (F : T1 α) (n : Nat) (code : List Int) (κ : Res → Option α) : spec_l01From_runG F n [.rows (.int .u8) code] κ = F n code (fun v1 v2 => κ ⟨[.ptr 81 [.same 0, .int .i64 v1, .int .u64 v2]], []⟩) := rfl
theorem spec_l01From_ev {α : Type} (n : Nat) (code : List Int) (κ : Res → Option α) : evFn Try.prog (spec_l01From_X n) Try.f36 (((buildDs spec_l01From_sh [.rows (.int .u8) code]).map Prod.fst).getD []) κ = spec_l01From_run n [.rows (.int .u8) code] κ := (spec_l01From_gen spec_l01From_l3 n code κ).trans ((spec_l01From_eq n code (fun v1 v2 => κ ⟨[.ptr 81 [.same 0, .int .i64 v1, .int .u64 v2]], []⟩)).trans ((spec_l01From_run.eq_1 n [.rows (.int .u8) code] κ).trans (spec_l01From_rn spec_l01From n code κ)).symm)
theorem spec_l01From_en (code : List Int) : (entry 0 (((buildDs spec_l01From_sh [.rows (.int .u8) code]).map Prod.fst).getD [])).map (fun x => (x.1.length, x.2.lent)) = some (1, []) := by kernel_rfl
theorem spec_l01From_good {α : Type} : ∀ n, GoodFn (α := α) Try.prog 36 (byShape spec_l01From_sh (spec_l01From_run n)) := by
  refine fn_good' Try.func36 (c := (Try.f36.body.getD .skip)) (by kernel_rfl) (by kernel_rfl) (by kernel_rfl) spec_l01From_C spec_l01From_M eqs spec_l01From_lps spec_l01From_jt (fun n => tabC_good (fun _ h => absurd h List.not_mem_nil)) eqs_ok spec_l01From_Lt ?_ ?_ spec_l01From_sh spec_l01From_run ?_
  · refine List.forall_mem_cons.2 ⟨?_, (fun _ h => absurd h List.not_mem_nil)⟩
    · intro p brk ret; show spec_l01From_u3 0 p brk ret = none; unfold spec_l01From_u3 spec_l01From_uG3; split <;> rfl
  · refine List.forall_mem_cons.2 ⟨?_, (fun _ h => absurd h List.not_mem_nil)⟩
    · intro np lent hL n p brk ret st r hb hr
      obtain ⟨rfl, rfl⟩ := hL
      rw [← tpl_of hb]
      change spec_l01From_u3 (n + 1) p brk ret = some r at hr
      have hr0 := hr
      unfold spec_l01From_u3 spec_l01From_uG3 at hr
      split at hr
      · exact (spec_l01From_l3_ev n _ _ _ _ brk ret).trans hr0
      · cases hr
  · intro n p κ r ds hd hr
    have hr0 := hr
    unfold spec_l01From_run spec_l01From_runG at hr
    split at hr
    · rw [← ds_of hd]
      exact ⟨en_of (spec_l01From_en _) ⟨rfl, rfl⟩, (spec_l01From_ev n _ κ).trans hr0⟩
    · cases hr

/-! loop.example/g01297/spec.l01Next -/
def spec_l01Next_sh : List SkD := [.mptr 81 [.sl 5 (.int .u8), .int .i64, .int .u64], .int .i64]
def spec_l01Next_runG {α : Type} (F : T2 α) (n : Nat) (p : List P1) (κ : Res → Option α) : Option α := match p with
  | [.rows (.int .u8) s, .int s1, .int s2, .int n_] => F n s s1 s2 n_ (fun v1 v2 v3 => κ ⟨[.int .i64 v1], [.ptr 81 [.keep, .int .i64 v2, .int .u64 v3]]⟩)
  | _ => none
def spec_l01Next_run {α : Type} (n : Nat) (p : List P1) (κ : Res → Option α) : Option α := spec_l01Next_runG spec_l01Next n p κ
def spec_l01Next_CG {α : Type}  (n : Nat) : FuncId → List D → (Res → Option α) → Option α := tabC []
def spec_l01Next_C {α : Type} (n : Nat) : FuncId → List D → (Res → Option α) → Option α := spec_l01Next_CG n
def spec_l01Next_M : FuncId → List Nat := tabM []
def spec_l01Next_lpsG {α : Type}  : List (LoopT α) := []
def spec_l01Next_lps {α : Type} : List (LoopT α) := spec_l01Next_lpsG
def spec_l01Next_jt : Nat → Option Tpl := jtOf []
def spec_l01Next_XG {α : Type}   (n : Nat) : Ctx α := ⟨spec_l01Next_CG n, spec_l01Next_M, eqs, lpOf (spec_l01Next_lpsG) n, spec_l01Next_jt⟩
def spec_l01Next_X {α : Type} (n : Nat) : Ctx α := spec_l01Next_XG n
def spec_l01Next_Lt (np : Nat) (lent : List (Bool × Nat × Blk)) : Prop := np = 2 ∧ ∃ (s1 : Int) (s2 : Int), lent = [(false, 0, boxBlk 1 81 [.sl 1, .int .i64 s1, .int .u64 s2])]
def spec_l01Next_body {α : Type}   (k : Nat) (s : List Int) (s1 : Int) (s2 : Int) (n_ : Int) (r0 : Int → Int → Int → Option α) : Option α :=
  bif decide (n_ < 1) then
    r0 0 s1 s2
  else
  bif decide (s1 < (((List.length s) : Nat) : Int)) then
    bif (decide (0 ≤ s1) && decide (s1 < (((List.length s) : Nat) : Int))) then
      (s[s1.toNat]?).bind fun e_ =>
      bif decide (n_ = 0) then
        none
      else
        r0 (Int.tmod (w64 ((w64 (IntKind.wrap .u64 ((BitVec.ofInt 64 (Int.fdiv (IntKind.wrap .u64 ((IntKind.wrap .u64 (s2 * 6364136223846793005)) + 1442695040888963407)) (2 ^ 31)) &&& BitVec.ofInt 64 1073741823).toNat))) + (w64 e_))) n_) (w64 (s1 + 1)) (IntKind.wrap .u64 ((IntKind.wrap .u64 (s2 * 6364136223846793005)) + 1442695040888963407))
    else
      none
  else
  bif decide (n_ = 0) then
    none
  else
    r0 (Int.tmod (w64 (IntKind.wrap .u64 ((BitVec.ofInt 64 (Int.fdiv (IntKind.wrap .u64 ((IntKind.wrap .u64 (s2 * 6364136223846793005)) + 1442695040888963407)) (2 ^ 31)) &&& BitVec.ofInt 64 1073741823).toNat))) n_) s1 (IntKind.wrap .u64 ((IntKind.wrap .u64 (s2 * 6364136223846793005)) + 1442695040888963407))
theorem spec_l01Next_gen {α : Type}   (n : Nat) (s : List Int) (s1 : Int) (s2 : Int) (n_ : Int) (κ : Res → Option α) : evFn Try.prog (spec_l01Next_XG n) Try.f54 (((buildDs spec_l01Next_sh [.rows (.int .u8) s, .int s1, .int s2, .int n_]).map Prod.fst).getD []) κ = spec_l01Next_body n s s1 s2 n_ (fun v1 v2 v3 => κ ⟨[.int .i64 v1], [.ptr 81 [.keep, .int .i64 v2, .int .u64 v3]]⟩) := by kernel_rfl
theorem spec_l01Next_eq {α : Type} (n : Nat) (s : List Int) (s1 : Int) (s2 : Int) (n_ : Int) (r0 : Int → Int → Int → Option α) : spec_l01Next_body n s s1 s2 n_ r0 = spec_l01Next n s s1 s2 n_ r0 := (spec_l01Next_body.eq_1 n s s1 s2 n_ r0).trans (spec_l01Next.eq_1 n s s1 s2 n_ r0).symm
theorem spec_l01Next_rn {α : Type} (F : T2 α) (n : Nat) (s : List Int) (s1 : Int) (s2 : Int) (n_ : Int) (κ : Res → Option α) : spec_l01Next_runG F n [.rows (.int .u8) s, .int s1, .int s2, .int n_] κ = F n s s1 s2 n_ (fun v1 v2 v3 => κ ⟨[.int .i64 v1], [.ptr 81 [.keep, .int .i64 v2, .int .u64 v3]]⟩) := rfl
theorem spec_l01Next_ev {α : Type} (n : Nat) (s : List Int) (s1 : Int) (s2 : Int) (n_ : Int) (κ : Res → Option α) : evFn Try.prog (spec_l01Next_X n) Try.f54 (((buildDs spec_l01Next_sh [.rows (.int .u8) s, .int s1, .int s2, .int n_]).map Prod.fst).getD []) κ = spec_l01Next_run n [.rows (.int .u8) s, .int s1, .int s2, .int n_] κ := (spec_l01Next_gen n s s1 s2 n_ κ).trans ((spec_l01Next_eq n s s1 s2 n_ (fun v1 v2 v3 => κ ⟨[.int .i64 v1], [.ptr 81 [.keep, .int .i64 v2, .int .u64 v3]]⟩)).trans ((spec_l01Next_run.eq_1 n [.rows (.int .u8) s, .int s1, .int s2, .int n_] κ).trans (spec_l01Next_rn spec_l01Next n s s1 s2 n_ κ)).symm)
theorem spec_l01Next_en (s : List Int) (s1 : Int) (s2 : Int) (n_ : Int) : (entry 0 (((buildDs spec_l01Next_sh [.rows (.int .u8) s, .int s1, .int s2, .int n_]).map Prod.fst).getD [])).map (fun x => (x.1.length, x.2.lent)) = some (2, [(false, 0, boxBlk 1 81 [.sl 1, .int .i64 s1, .int .u64 s2])]) := by kernel_rfl
theorem spec_l01Next_good {α : Type} : ∀ n, GoodFn (α := α) Try.prog 54 (byShape spec_l01Next_sh (spec_l01Next_run n)) := by
  refine fn_good' Try.func54 (c := (Try.f54.body.getD .skip)) (by kernel_rfl) (by kernel_rfl) (by kernel_rfl) spec_l01Next_C spec_l01Next_M eqs spec_l01Next_lps spec_l01Next_jt (fun n => tabC_good (fun _ h => absurd h List.not_mem_nil)) eqs_ok spec_l01Next_Lt ?_ ?_ spec_l01Next_sh spec_l01Next_run ?_
  · exact (fun _ h => absurd h List.not_mem_nil)
  · exact (fun _ h => absurd h List.not_mem_nil)
  · intro n p κ r ds hd hr
    have hr0 := hr
    unfold spec_l01Next_run spec_l01Next_runG at hr
    split at hr
    · rw [← ds_of hd]
      exact ⟨en_of (spec_l01Next_en _ _ _ _) ⟨rfl, _, _, rfl⟩, (spec_l01Next_ev n _ _ _ _ κ).trans hr0⟩
    · cases hr

/-! loop.example/g01297/spec.l01Times -/
def spec_l01Times_sh : List SkD := [.agg [.int .i64, .int .i64, .int .i64, .int .i64], .agg [.int .i64, .int .i64, .int .i64, .int .i64]]
def spec_l01Times_runG {α : Type} (F : T3 α) (n : Nat) (p : List P1) (κ : Res → Option α) : Option α := match p with
  | [.int m, .int m1, .int m2, .int m3, .int n_, .int n_1, .int n_2, .int n_3] => F n m m1 m2 m3 n_ n_1 n_2 n_3 (fun v1 v2 v3 v4 => κ ⟨[.agg [.int .i64 v1, .int .i64 v2, .int .i64 v3, .int .i64 v4]], []⟩)
  | _ => none
def spec_l01Times_run {α : Type} (n : Nat) (p : List P1) (κ : Res → Option α) : Option α := spec_l01Times_runG spec_l01Times n p κ
def spec_l01Times_CG {α : Type}  (n : Nat) : FuncId → List D → (Res → Option α) → Option α := tabC []
def spec_l01Times_C {α : Type} (n : Nat) : FuncId → List D → (Res → Option α) → Option α := spec_l01Times_CG n
def spec_l01Times_M : FuncId → List Nat := tabM []
def spec_l01Times_lpsG {α : Type}  : List (LoopT α) := []
def spec_l01Times_lps {α : Type} : List (LoopT α) := spec_l01Times_lpsG
def spec_l01Times_jt : Nat → Option Tpl := jtOf []
def spec_l01Times_XG {α : Type}   (n : Nat) : Ctx α := ⟨spec_l01Times_CG n, spec_l01Times_M, eqs, lpOf (spec_l01Times_lpsG) n, spec_l01Times_jt⟩
def spec_l01Times_X {α : Type} (n : Nat) : Ctx α := spec_l01Times_XG n
def spec_l01Times_Lt (np : Nat) (lent : List (Bool × Nat × Blk)) : Prop := np = 2 ∧ lent = []
def spec_l01Times_body {α : Type}   (k : Nat) (m : Int) (m1 : Int) (m2 : Int) (m3 : Int) (n_ : Int) (n_1 : Int) (n_2 : Int) (n_3 : Int) (r0 : Int → Int → Int → Int → Option α) : Option α :=
  r0 (w64 ((w64 (m * n_)) + (w64 (m1 * n_2)))) (w64 ((w64 (m * n_1)) + (w64 (m1 * n_3)))) (w64 ((w64 (m2 * n_)) + (w64 (m3 * n_2)))) (w64 ((w64 (m2 * n_1)) + (w64 (m3 * n_3))))
theorem spec_l01Times_gen {α : Type}   (n : Nat) (m : Int) (m1 : Int) (m2 : Int) (m3 : Int) (n_ : Int) (n_1 : Int) (n_2 : Int) (n_3 : Int) (κ : Res → Option α) : evFn Try.prog (spec_l01Times_XG n) Try.f74 (((buildDs spec_l01Times_sh [.int m, .int m1, .int m2, .int m3, .int n_, .int n_1, .int n_2, .int n_3]).map Prod.fst).getD []) κ = spec_l01Times_body n m m1 m2 m3 n_ n_1 n_2 n_3 (fun v1 v2 v3 v4 => κ ⟨[.agg [.int .i64 v1, .int .i64 v2, .int .i64 v3, .int .i64 v4]], []⟩) := by kernel_rfl
theorem spec_l01Times_eq {α : Type} (n : Nat) (m : Int) (m1 : Int) (m2 : Int) (m3 : Int) (n_ : Int) (n_1 : Int) (n_2 : Int) (n_3 : Int) (r0 : Int → Int → Int → Int → Option α) : spec_l01Times_body n m m1 m2 m3 n_ n_1 n_2 n_3 r0 = spec_l01Times n m m1 m2 m3 n_ n_1 n_2 n_3 r0 := (spec_l01Times_body.eq_1 n m m1 m2 m3 n_ n_1 n_2 n_3 r0).trans (spec_l01Times.eq_1 n m m1 m2 m3 n_ n_1 n_2 n_3 r0).symm
theorem spec_l01Times_rn {α : Type} (F : T3 α) (n : Nat) (m : Int) (m1 : Int) (m2 : Int) (m3 : Int) (n_ : Int) (n_1 : Int) (n_2 : Int) (n_3 : Int) (κ : Res → Option α) : spec_l01Times_runG F n [.int m, .int m1, .int m2, .int m3, .int n_, .int n_1, .int n_2, .int n_3] κ = F n m m1 m2 m3 n_ n_1 n_2 n_3 (fun v1 v2 v3 v4 => κ ⟨[.agg [.int .i64 v1, .int .i64 v2, .int .i64 v3, .int .i64 v4]], []⟩) := rfl
theorem spec_l01Times_ev {α : Type} (n : Nat) (m : Int) (m1 : Int) (m2 : Int) (m3 : Int) (n_ : Int) (n_1 : Int) (n_2 : Int) (n_3 : Int) (κ : Res → Option α) : evFn Try.prog (spec_l01Times_X n) Try.f74 (((buildDs spec_l01Times_sh [.int m, .int m1, .int m2, .int m3, .int n_, .int n_1, .int n_2, .int n_3]).map Prod.fst).getD []) κ = spec_l01Times_run n [.int m, .int m1, .int m2, .int m3, .int n_, .int n_1, .int n_2, .int n_3] κ := (spec_l01Times_gen n m m1 m2 m3 n_ n_1 n_2 n_3 κ).trans ((spec_l01Times_eq n m m1 m2 m3 n_ n_1 n_2 n_3 (fun v1 v2 v3 v4 => κ ⟨[.agg [.int .i64 v1, .int .i64 v2, .int .i64 v3, .int .i64 v4]], []⟩)).trans ((spec_l01Times_run.eq_1 n [.int m, .int m1, .int m2, .int m3, .int n_, .int n_1, .int n_2, .int n_3] κ).trans (spec_l01Times_rn spec_l01Times n m m1 m2 m3 n_ n_1 n_2 n_3 κ)).symm)
theorem spec_l01Times_en (m : Int) (m1 : Int) (m2 : Int) (m3 : Int) (n_ : Int) (n_1 : Int) (n_2 : Int) (n_3 : Int) : (entry 0 (((buildDs spec_l01Times_sh [.int m, .int m1, .int m2, .int m3, .int n_, .int n_1, .int n_2, .int n_3]).map Prod.fst).getD [])).map (fun x => (x.1.length, x.2.lent)) = some (2, []) := by kernel_rfl
theorem spec_l01Times_good {α : Type} : ∀ n, GoodFn (α := α) Try.prog 74 (byShape spec_l01Times_sh (spec_l01Times_run n)) := by
  refine fn_good' Try.func74 (c := (Try.f74.body.getD .skip)) (by kernel_rfl) (by kernel_rfl) (by kernel_rfl) spec_l01Times_C spec_l01Times_M eqs spec_l01Times_lps spec_l01Times_jt (fun n => tabC_good (fun _ h => absurd h List.not_mem_nil)) eqs_ok spec_l01Times_Lt ?_ ?_ spec_l01Times_sh spec_l01Times_run ?_
  · exact (fun _ h => absurd h List.not_mem_nil)
  · exact (fun _ h => absurd h List.not_mem_nil)
  · intro n p κ r ds hd hr
    have hr0 := hr
    unfold spec_l01Times_run spec_l01Times_runG at hr
    split at hr
    · rw [← ds_of hd]
      exact ⟨en_of (spec_l01Times_en _ _ _ _ _ _ _ _) ⟨rfl, rfl⟩, (spec_l01Times_ev n _ _ _ _ _ _ _ _ κ).trans hr0⟩
    · cases hr

/-! loop.example/g01297/spec.l01DrawUnit -/
def spec_l01DrawUnit_sh : List SkD := [.mptr 81 [.sl 5 (.int .u8), .int .i64, .int .u64]]
def spec_l01DrawUnit_runG {α : Type} (F : T4 α) (n : Nat) (p : List P1) (κ : Res → Option α) : Option α := match p with
  | [.rows (.int .u8) s, .int s1, .int s2] => F n s s1 s2 (fun v1 v2 v3 v4 v5 v6 => κ ⟨[.agg [.int .i64 v1, .int .i64 v2, .int .i64 v3, .int .i64 v4]], [.ptr 81 [.keep, .int .i64 v5, .int .u64 v6]]⟩)
  | _ => none
def spec_l01DrawUnit_run {α : Type} (n : Nat) (p : List P1) (κ : Res → Option α) : Option α := spec_l01DrawUnit_runG spec_l01DrawUnit n p κ
def spec_l01DrawUnit_CG {α : Type} (F0 : T2 α) (F1 : T3 α) (n : Nat) : FuncId → List D → (Res → Option α) → Option α := tabC [(54, (byShape spec_l01Next_sh (spec_l01Next_runG F0 n))), (74, (byShape spec_l01Times_sh (spec_l01Times_runG F1 n)))]
def spec_l01DrawUnit_C {α : Type} (n : Nat) : FuncId → List D → (Res → Option α) → Option α := spec_l01DrawUnit_CG spec_l01Next spec_l01Times n
def spec_l01DrawUnit_M : FuncId → List Nat := tabM [(54, [1])]
def spec_l01DrawUnit_t3 : Tpl := ⟨[.ptr 0 0 0, .any, .ptr 128 0 0, .ptr 192 0 0, .int .i64, .any, .any, .any, .any, .any, .any, .any, .any, .any, .any, .any, .any, .any, .any, .any, .any, .any, .any, .any, .any, .any, .any, .any, .any, .any, .any, .any, .any, .any, .any, .any, .any, .any, .any, .any, .any, .any], [(0, .mix 1 81 [.sl 1, .int .i64, .int .u64]), (128, .ints 2 26 .i64 4), (192, .ints 2 26 .i64 4), (1, .rows 0 5 (.int .u8))], []⟩
def spec_l01DrawUnit_uG3 {α : Type} (G : Nat → Int → Int → Int → Int → Int → Int → Int → Int → Int → Int → Int → List Int → (Int → Int → Int → Int → Int → Int → Int → Int → Int → Int → Int → List Int → Option α) → (Int → Int → Int → Int → Int → Int → Option α) → Option α) (n : Nat) (p : List P1) (brk : Nat → List P1 → Option α) (ret : Res → Option α) : Option α := match p with
  | [.int n_, .int s3, .int s4, .int x, .int x1, .int x2, .int x3, .int out, .int out1, .int out2, .int out3, .rows (.int .u8) b_] => G n n_ s3 s4 x x1 x2 x3 out out1 out2 out3 b_ (fun n_ s3 s4 x x1 x2 x3 out out1 out2 out3 b_ => brk 0 [.int n_, .int s3, .int s4, .int x, .int x1, .int x2, .int x3, .int out, .int out1, .int out2, .int out3, .rows (.int .u8) b_]) (fun v1 v2 v3 v4 v5 v6 => ret ⟨[.agg [.int .i64 v1, .int .i64 v2, .int .i64 v3, .int .i64 v4]], [.ptr 81 [.keep, .int .i64 v5, .int .u64 v6]]⟩)
  | _ => none
def spec_l01DrawUnit_u3 {α : Type} (n : Nat) (p : List P1) (brk : Nat → List P1 → Option α) (ret : Res → Option α) : Option α := spec_l01DrawUnit_uG3 spec_l01DrawUnit_l3 n p brk ret
def spec_l01DrawUnit_lpsG {α : Type} (G3 : Nat → Int → Int → Int → Int → Int → Int → Int → Int → Int → Int → Int → List Int → (Int → Int → Int → Int → Int → Int → Int → Int → Int → Int → Int → List Int → Option α) → (Int → Int → Int → Int → Int → Int → Option α) → Option α) : List (LoopT α) := [⟨3, spec_l01DrawUnit_t3, spec_l01DrawUnit_uG3 G3⟩]
def spec_l01DrawUnit_lps {α : Type} : List (LoopT α) := spec_l01DrawUnit_lpsG spec_l01DrawUnit_l3
def spec_l01DrawUnit_jt : Nat → Option Tpl := jtOf []
def spec_l01DrawUnit_XG {α : Type} (F0 : T2 α) (F1 : T3 α) (G3 : Nat → Int → Int → Int → Int → Int → Int → Int → Int → Int → Int → Int → List Int → (Int → Int → Int → Int → Int → Int → Int → Int → Int → Int → Int → List Int → Option α) → (Int → Int → Int → Int → Int → Int → Option α) → Option α) (n : Nat) : Ctx α := ⟨spec_l01DrawUnit_CG F0 F1 n, spec_l01DrawUnit_M, eqs, lpOf (spec_l01DrawUnit_lpsG G3) n, spec_l01DrawUnit_jt⟩
def spec_l01DrawUnit_X {α : Type} (n : Nat) : Ctx α := spec_l01DrawUnit_XG spec_l01Next spec_l01Times spec_l01DrawUnit_l3 n
def spec_l01DrawUnit_Lt (np : Nat) (lent : List (Bool × Nat × Blk)) : Prop := np = 1 ∧ ∃ (s1 : Int) (s2 : Int), lent = [(false, 0, boxBlk 1 81 [.sl 1, .int .i64 s1, .int .u64 s2])]
def spec_l01DrawUnit_lb3 {α : Type} (F0 : T2 α) (F1 : T3 α) (G3 : Nat → Int → Int → Int → Int → Int → Int → Int → Int → Int → Int → Int → List Int → (Int → Int → Int → Int → Int → Int → Int → Int → Int → Int → Int → List Int → Option α) → (Int → Int → Int → Int → Int → Int → Option α) → Option α) (k : Nat) (n_ : Int) (s3 : Int) (s4 : Int) (x : Int) (x1 : Int) (x2 : Int) (x3 : Int) (out : Int) (out1 : Int) (out2 : Int) (out3 : Int) (b_ : List Int) (b0 : Int → Int → Int → Int → Int → Int → Int → Int → Int → Int → Int → List Int → Option α) (r0 : Int → Int → Int → Int → Int → Int → Option α) : Option α :=
  bif decide (0 < n_) then
    F0 k b_ s3 s4 7 fun v3 v4 v5 =>
    F0 k b_ v4 v5 3 fun v6 v7 v8 =>
    bif decide (v6 = 0) then
      F1 k out out1 out2 out3 1 (w64 (v3 - 3)) 0 1 fun v9 v10 v11 v12 =>
      G3 k (w64 (n_ - 1)) v7 v8 x x1 x2 x3 v9 v10 v11 v12 b_ b0 r0
    else
    bif decide (v6 = 1) then
      F1 k out out1 out2 out3 1 0 (w64 (v3 - 3)) 1 fun v13 v14 v15 v16 =>
      G3 k (w64 (n_ - 1)) v7 v8 x x1 x2 x3 v13 v14 v15 v16 b_ b0 r0
    else
      F1 k out out1 out2 out3 0 1 1 0 fun v17 v18 v19 v20 =>
      G3 k (w64 (n_ - 1)) v7 v8 x x1 x2 x3 v17 v18 v19 v20 b_ b0 r0
  else
    b0 n_ s3 s4 x x1 x2 x3 out out1 out2 out3 b_
theorem spec_l01DrawUnit_l3_gen {α : Type} (F0 : T2 α) (F1 : T3 α) (G3 : Nat → Int → Int → Int → Int → Int → Int → Int → Int → Int → Int → Int → List Int → (Int → Int → Int → Int → Int → Int → Int → Int → Int → Int → Int → List Int → Option α) → (Int → Int → Int → Int → Int → Int → Option α) → Option α) (n : Nat) (s1_0 : Int) (s2_0 : Int) (n_ : Int) (s3 : Int) (s4 : Int) (x : Int) (x1 : Int) (x2 : Int) (x3 : Int) (out : Int) (out1 : Int) (out2 : Int) (out3 : Int) (b_ : List Int) (brk : Nat → List P1 → Option α) (ret : Res → Option α) : ev ((spec_l01DrawUnit_XG F0 F1 G3 n).env Try.prog Try.f76 1 [(false, 0, boxBlk 1 81 [.sl 1, .int .i64 s1_0, .int .u64 s2_0])]) (findLoop (loopsIn (Try.f76.body.getD .skip)) 3) ((spec_l01DrawUnit_t3.build [.int n_, .int s3, .int s4, .int x, .int x1, .int x2, .int x3, .int out, .int out1, .int out2, .int out3, .rows (.int .u8) b_]).getD ⟨[], []⟩) (roundK (1 * 64) spec_l01DrawUnit_t3 (fun q => spec_l01DrawUnit_uG3 G3 n q brk ret) brk ret) = spec_l01DrawUnit_lb3 F0 F1 G3 n n_ s3 s4 x x1 x2 x3 out out1 out2 out3 b_ (fun n_ s3 s4 x x1 x2 x3 out out1 out2 out3 b_ => brk 0 [.int n_, .int s3, .int s4, .int x, .int x1, .int x2, .int x3, .int out, .int out1, .int out2, .int out3, .rows (.int .u8) b_]) (fun v1 v2 v3 v4 v5 v6 => ret ⟨[.agg [.int .i64 v1, .int .i64 v2, .int .i64 v3, .int .i64 v4]], [.ptr 81 [.keep, .int .i64 v5, .int .u64 v6]]⟩) := by kernel_rfl
theorem spec_l01DrawUnit_l3_eq {α : Type} (k : Nat) (n_ : Int) (s3 : Int) (s4 : Int) (x : Int) (x1 : Int) (x2 : Int) (x3 : Int) (out : Int) (out1 : Int) (out2 : Int) (out3 : Int) (b_ : List Int) (b0 : Int → Int → Int → Int → Int → Int → Int → Int → Int → Int → Int → List Int → Option α) (r0 : Int → Int → Int → Int → Int → Int → Option α) : spec_l01DrawUnit_lb3 spec_l01Next spec_l01Times spec_l01DrawUnit_l3 k n_ s3 s4 x x1 x2 x3 out out1 out2 out3 b_ b0 r0 = spec_l01DrawUnit_l3 (k + 1) n_ s3 s4 x x1 x2 x3 out out1 out2 out3 b_ b0 r0 := (spec_l01DrawUnit_lb3.eq_1 spec_l01Next spec_l01Times spec_l01DrawUnit_l3 k n_ s3 s4 x x1 x2 x3 out out1 out2 out3 b_ b0 r0).trans (show spec_l01DrawUnit_l3 (k + 1) n_ s3 s4 x x1 x2 x3 out out1 out2 out3 b_ b0 r0 = _ from spec_l01DrawUnit_l3.eq_2 _ _ _ _ _ _ _ _ _ _ _ _ _ _ _ ).symm
theorem spec_l01DrawUnit_l3_rn {α : Type} (G : Nat → Int → Int → Int → Int → Int → Int → Int → Int → Int → Int → Int → List Int → (Int → Int → Int → Int → Int → Int → Int → Int → Int → Int → Int → List Int → Option α) → (Int → Int → Int → Int → Int → Int → Option α) → Option α) (n : Nat) (n_ : Int) (s3 : Int) (s4 : Int) (x : Int) (x1 : Int) (x2 : Int) (x3 : Int) (out : Int) (out1 : Int) (out2 : Int) (out3 : Int) (b_ : List Int) (brk : Nat → List P1 → Option α) (ret : Res → Option α) : spec_l01DrawUnit_uG3 G n [.int n_, .int s3, .int s4, .int x, .int x1, .int x2, .int x3, .int out, .int out1, .int out2, .int out3, .rows (.int .u8) b_] brk ret = G n n_ s3 s4 x x1 x2 x3 out out1 out2 out3 b_ (fun n_ s3 s4 x x1 x2 x3 out out1 out2 out3 b_ => brk 0 [.int n_, .int s3, .int s4, .int x, .int x1, .int x2, .int x3, .int out, .int out1, .int out2, .int out3, .rows (.int .u8) b_]) (fun v1 v2 v3 v4 v5 v6 => ret ⟨[.agg [.int .i64 v1, .int .i64 v2, .int .i64 v3, .int .i64 v4]], [.ptr 81 [.keep, .int .i64 v5, .int .u64 v6]]⟩) := rfl
theorem spec_l01DrawUnit_l3_ev {α : Type} (n : Nat) (s1_0 : Int) (s2_0 : Int) (n_ : Int) (s3 : Int) (s4 : Int) (x : Int) (x1 : Int) (x2 : Int) (x3 : Int) (out : Int) (out1 : Int) (out2 : Int) (out3 : Int) (b_ : List Int) (brk : Nat → List P1 → Option α) (ret : Res → Option α) : ev ((spec_l01DrawUnit_X n).env Try.prog Try.f76 1 [(false, 0, boxBlk 1 81 [.sl 1, .int .i64 s1_0, .int .u64 s2_0])]) (findLoop (loopsIn (Try.f76.body.getD .skip)) 3) ((spec_l01DrawUnit_t3.build [.int n_, .int s3, .int s4, .int x, .int x1, .int x2, .int x3, .int out, .int out1, .int out2, .int out3, .rows (.int .u8) b_]).getD ⟨[], []⟩) (roundK (1 * 64) spec_l01DrawUnit_t3 (fun q => spec_l01DrawUnit_u3 n q brk ret) brk ret) = spec_l01DrawUnit_u3 (n + 1) [.int n_, .int s3, .int s4, .int x, .int x1, .int x2, .int x3, .int out, .int out1, .int out2, .int out3, .rows (.int .u8) b_] brk ret := (spec_l01DrawUnit_l3_gen spec_l01Next spec_l01Times spec_l01DrawUnit_l3 n s1_0 s2_0 n_ s3 s4 x x1 x2 x3 out out1 out2 out3 b_ brk ret).trans ((spec_l01DrawUnit_l3_eq n n_ s3 s4 x x1 x2 x3 out out1 out2 out3 b_ (fun n_ s3 s4 x x1 x2 x3 out out1 out2 out3 b_ => brk 0 [.int n_, .int s3, .int s4, .int x, .int x1, .int x2, .int x3, .int out, .int out1, .int out2, .int out3, .rows (.int .u8) b_]) (fun v1 v2 v3 v4 v5 v6 => ret ⟨[.agg [.int .i64 v1, .int .i64 v2, .int .i64 v3, .int .i64 v4]], [.ptr 81 [.keep, .int .i64 v5, .int .u64 v6]]⟩)).trans ((spec_l01DrawUnit_u3.eq_1 (n + 1) [.int n_, .int s3, .int s4, .int x, .int x1, .int x2, .int x3, .int out, .int out1, .int out2, .int out3, .rows (.int .u8) b_] brk ret).trans (spec_l01DrawUnit_l3_rn spec_l01DrawUnit_l3 (n + 1) n_ s3 s4 x x1 x2 x3 out out1 out2 out3 b_ brk ret)).symm)
def spec_l01DrawUnit_body {α : Type} (F0 : T2 α) (F1 : T3 α) (G3 : Nat → Int → Int → Int → Int → Int → Int → Int → Int → Int → Int → Int → List Int → (Int → Int → Int → Int → Int → Int → Int → Int → Int → Int → Int → List Int → Option α) → (Int → Int → Int → Int → Int → Int → Option α) → Option α) (k : Nat) (s : List Int) (s1 : Int) (s2 : Int) (r0 : Int → Int → Int → Int → Int → Int → Option α) : Option α :=
  F0 k s s1 s2 5 fun v v1 v2 =>
  G3 k v v1 v2 0 0 0 0 1 0 0 1 s
    (fun _ s5 s6 _ _ _ _ out4 out5 out6 out7 _ =>
      r0 out4 out5 out6 out7 s5 s6)
    r0
theorem spec_l01DrawUnit_gen {α : Type} (F0 : T2 α) (F1 : T3 α) (G3 : Nat → Int → Int → Int → Int → Int → Int → Int → Int → Int → Int → Int → List Int → (Int → Int → Int → Int → Int → Int → Int → Int → Int → Int → Int → List Int → Option α) → (Int → Int → Int → Int → Int → Int → Option α) → Option α) (n : Nat) (s : List Int) (s1 : Int) (s2 : Int) (κ : Res → Option α) : evFn Try.prog (spec_l01DrawUnit_XG F0 F1 G3 n) Try.f76 (((buildDs spec_l01DrawUnit_sh [.rows (.int .u8) s, .int s1, .int s2]).map Prod.fst).getD []) κ = spec_l01DrawUnit_body F0 F1 G3 n s s1 s2 (fun v1 v2 v3 v4 v5 v6 => κ ⟨[.agg [.int .i64 v1, .int .i64 v2, .int .i64 v3, .int .i64 v4]], [.ptr 81 [.keep, .int .i64 v5, .int .u64 v6]]⟩) := by kernel_rfl
theorem spec_l01DrawUnit_eq {α : Type} (n : Nat) (s : List Int) (s1 : Int) (s2 : Int) (r0 : Int → Int → Int → Int → Int → Int → Option α) : spec_l01DrawUnit_body spec_l01Next spec_l01Times spec_l01DrawUnit_l3 n s s1 s2 r0 = spec_l01DrawUnit n s s1 s2 r0 := (spec_l01DrawUnit_body.eq_1 spec_l01Next spec_l01Times spec_l01DrawUnit_l3 n s s1 s2 r0).trans (spec_l01DrawUnit.eq_1 n s s1 s2 r0).symm
theorem spec_l01DrawUnit_rn {α : Type} (F : T4 α) (n : Nat) (s : List Int) (s1 : Int) (s2 : Int) (κ : Res → Option α) : spec_l01DrawUnit_runG F n [.rows (.int .u8) s, .int s1, .int s2] κ = F n s s1 s2 (fun v1 v2 v3 v4 v5 v6 => κ ⟨[.agg [.int .i64 v1, .int .i64 v2, .int .i64 v3, .int .i64 v4]], [.ptr 81 [.keep, .int .i64 v5, .int .u64 v6]]⟩) := rfl
theorem spec_l01DrawUnit_ev {α : Type} (n : Nat) (s : List Int) (s1 : Int) (s2 : Int) (κ : Res → Option α) : evFn Try.prog (spec_l01DrawUnit_X n) Try.f76 (((buildDs spec_l01DrawUnit_sh [.rows (.int .u8) s, .int s1, .int s2]).map Prod.fst).getD []) κ = spec_l01DrawUnit_run n [.rows (.int .u8) s, .int s1, .int s2] κ := (spec_l01DrawUnit_gen spec_l01Next spec_l01Times spec_l01DrawUnit_l3 n s s1 s2 κ).trans ((spec_l01DrawUnit_eq n s s1 s2 (fun v1 v2 v3 v4 v5 v6 => κ ⟨[.agg [.int .i64 v1, .int .i64 v2, .int .i64 v3, .int .i64 v4]], [.ptr 81 [.keep, .int .i64 v5, .int .u64 v6]]⟩)).trans ((spec_l01DrawUnit_run.eq_1 n [.rows (.int .u8) s, .int s1, .int s2] κ).trans (spec_l01DrawUnit_rn spec_l01DrawUnit n s s1 s2 κ)).symm)
theorem spec_l01DrawUnit_en (s : List Int) (s1 : Int) (s2 : Int) : (entry 0 (((buildDs spec_l01DrawUnit_sh [.rows (.int .u8) s, .int s1, .int s2]).map Prod.fst).getD [])).map (fun x => (x.1.length, x.2.lent)) = some (1, [(false, 0, boxBlk 1 81 [.sl 1, .int .i64 s1, .int .u64 s2])]) := by kernel_rfl
theorem spec_l01DrawUnit_good {α : Type} : ∀ n, GoodFn (α := α) Try.prog 76 (byShape spec_l01DrawUnit_sh (spec_l01DrawUnit_run n)) := by
  refine fn_good' Try.func76 (c := (Try.f76.body.getD .skip)) (by kernel_rfl) (by kernel_rfl) (by kernel_rfl) spec_l01DrawUnit_C spec_l01DrawUnit_M eqs spec_l01DrawUnit_lps spec_l01DrawUnit_jt (fun n => tabC_good (List.forall_mem_cons.2 ⟨(spec_l01Next_good n), (List.forall_mem_cons.2 ⟨(spec_l01Times_good n), (fun _ h => absurd h List.not_mem_nil)⟩)⟩)) eqs_ok spec_l01DrawUnit_Lt ?_ ?_ spec_l01DrawUnit_sh spec_l01DrawUnit_run ?_
  · refine List.forall_mem_cons.2 ⟨?_, (fun _ h => absurd h List.not_mem_nil)⟩
    · intro p brk ret; show spec_l01DrawUnit_u3 0 p brk ret = none; unfold spec_l01DrawUnit_u3 spec_l01DrawUnit_uG3; split <;> rfl
  · refine List.forall_mem_cons.2 ⟨?_, (fun _ h => absurd h List.not_mem_nil)⟩
    · intro np lent hL n p brk ret st r hb hr
      obtain ⟨rfl, s1_0, s2_0, rfl⟩ := hL
      rw [← tpl_of hb]
      change spec_l01DrawUnit_u3 (n + 1) p brk ret = some r at hr
      have hr0 := hr
      unfold spec_l01DrawUnit_u3 spec_l01DrawUnit_uG3 at hr
      split at hr
      · exact (spec_l01DrawUnit_l3_ev n _ _ _ _ _ _ _ _ _ _ _ _ _ _ brk ret).trans hr0
      · cases hr
  · intro n p κ r ds hd hr
    have hr0 := hr
    unfold spec_l01DrawUnit_run spec_l01DrawUnit_runG at hr
    split at hr
    · rw [← ds_of hd]
      exact ⟨en_of (spec_l01DrawUnit_en _ _ _) ⟨rfl, _, _, rfl⟩, (spec_l01DrawUnit_ev n _ _ _ κ).trans hr0⟩
    · cases hr

/-! loop.example/g01297/spec.l01Pick -/
def spec_l01Pick_sh : List SkD := [.mptr 81 [.sl 5 (.int .u8), .int .i64, .int .u64], .sl 2 (.int .i64)]
def spec_l01Pick_runG {α : Type} (F : T5 α) (n : Nat) (p : List P1) (κ : Res → Option α) : Option α := match p with
  | [.rows (.int .u8) s, .int s1, .int s2, .rows (.int .i64) list] => F n s s1 s2 list (fun v1 v2 v3 => κ ⟨[.int .i64 v1], [.ptr 81 [.keep, .int .i64 v2, .int .u64 v3]]⟩)
  | _ => none
def spec_l01Pick_run {α : Type} (n : Nat) (p : List P1) (κ : Res → Option α) : Option α := spec_l01Pick_runG spec_l01Pick n p κ
def spec_l01Pick_CG {α : Type} (F0 : T2 α) (n : Nat) : FuncId → List D → (Res → Option α) → Option α := tabC [(54, (byShape spec_l01Next_sh (spec_l01Next_runG F0 n)))]
def spec_l01Pick_C {α : Type} (n : Nat) : FuncId → List D → (Res → Option α) → Option α := spec_l01Pick_CG spec_l01Next n
def spec_l01Pick_M : FuncId → List Nat := tabM [(54, [1])]
def spec_l01Pick_lpsG {α : Type}  : List (LoopT α) := []
def spec_l01Pick_lps {α : Type} : List (LoopT α) := spec_l01Pick_lpsG
def spec_l01Pick_jt : Nat → Option Tpl := jtOf []
def spec_l01Pick_XG {α : Type} (F0 : T2 α)  (n : Nat) : Ctx α := ⟨spec_l01Pick_CG F0 n, spec_l01Pick_M, eqs, lpOf (spec_l01Pick_lpsG) n, spec_l01Pick_jt⟩
def spec_l01Pick_X {α : Type} (n : Nat) : Ctx α := spec_l01Pick_XG spec_l01Next n
def spec_l01Pick_Lt (np : Nat) (lent : List (Bool × Nat × Blk)) : Prop := np = 2 ∧ ∃ (s1 : Int) (s2 : Int), lent = [(false, 0, boxBlk 1 81 [.sl 1, .int .i64 s1, .int .u64 s2])]
def spec_l01Pick_body {α : Type} (F0 : T2 α)  (k : Nat) (s : List Int) (s1 : Int) (s2 : Int) (list : List Int) (r0 : Int → Int → Int → Option α) : Option α :=
  F0 k s s1 s2 (((List.length list) : Nat) : Int) fun v v1 v2 =>
  bif (decide (0 ≤ v) && decide (v < (((List.length list) : Nat) : Int))) then
    (list[v.toNat]?).bind fun e_ =>
    r0 e_ v1 v2
  else
    none
theorem spec_l01Pick_gen {α : Type} (F0 : T2 α)  (n : Nat) (s : List Int) (s1 : Int) (s2 : Int) (list : List Int) (κ : Res → Option α) : evFn Try.prog (spec_l01Pick_XG F0 n) Try.f67 (((buildDs spec_l01Pick_sh [.rows (.int .u8) s, .int s1, .int s2, .rows (.int .i64) list]).map Prod.fst).getD []) κ = spec_l01Pick_body F0 n s s1 s2 list (fun v1 v2 v3 => κ ⟨[.int .i64 v1], [.ptr 81 [.keep, .int .i64 v2, .int .u64 v3]]⟩) := by kernel_rfl
theorem spec_l01Pick_eq {α : Type} (n : Nat) (s : List Int) (s1 : Int) (s2 : Int) (list : List Int) (r0 : Int → Int → Int → Option α) : spec_l01Pick_body spec_l01Next n s s1 s2 list r0 = spec_l01Pick n s s1 s2 list r0 := (spec_l01Pick_body.eq_1 spec_l01Next n s s1 s2 list r0).trans (spec_l01Pick.eq_1 n s s1 s2 list r0).symm
theorem spec_l01Pick_rn {α : Type} (F : T5 α) (n : Nat) (s : List Int) (s1 : Int) (s2 : Int) (list : List Int) (κ : Res → Option α) : spec_l01Pick_runG F n [.rows (.int .u8) s, .int s1, .int s2, .rows (.int .i64) list] κ = F n s s1 s2 list (fun v1 v2 v3 => κ ⟨[.int .i64 v1], [.ptr 81 [.keep, .int .i64 v2, .int .u64 v3]]⟩) := rfl
theorem spec_l01Pick_ev {α : Type} (n : Nat) (s : List Int) (s1 : Int) (s2 : Int) (list : List Int) (κ : Res → Option α) : evFn Try.prog (spec_l01Pick_X n) Try.f67 (((buildDs spec_l01Pick_sh [.rows (.int .u8) s, .int s1, .int s2, .rows (.int .i64) list]).map Prod.fst).getD []) κ = spec_l01Pick_run n [.rows (.int .u8) s, .int s1, .int s2, .rows (.int .i64) list] κ := (spec_l01Pick_gen spec_l01Next n s s1 s2 list κ).trans ((spec_l01Pick_eq n s s1 s2 list (fun v1 v2 v3 => κ ⟨[.int .i64 v1], [.ptr 81 [.keep, .int .i64 v2, .int .u64 v3]]⟩)).trans ((spec_l01Pick_run.eq_1 n [.rows (.int .u8) s, .int s1, .int s2, .rows (.int .i64) list] κ).trans (spec_l01Pick_rn spec_l01Pick n s s1 s2 list κ)).symm)
theorem spec_l01Pick_en (s : List Int) (s1 : Int) (s2 : Int) (list : List Int) : (entry 0 (((buildDs spec_l01Pick_sh [.rows (.int .u8) s, .int s1, .int s2, .rows (.int .i64) list]).map Prod.fst).getD [])).map (fun x => (x.1.length, x.2.lent)) = some (2, [(false, 0, boxBlk 1 81 [.sl 1, .int .i64 s1, .int .u64 s2])]) := by kernel_rfl
theorem spec_l01Pick_good {α : Type} : ∀ n, GoodFn (α := α) Try.prog 67 (byShape spec_l01Pick_sh (spec_l01Pick_run n)) := by
  refine fn_good' Try.func67 (c := (Try.f67.body.getD .skip)) (by kernel_rfl) (by kernel_rfl) (by kernel_rfl) spec_l01Pick_C spec_l01Pick_M eqs spec_l01Pick_lps spec_l01Pick_jt (fun n => tabC_good (List.forall_mem_cons.2 ⟨(spec_l01Next_good n), (fun _ h => absurd h List.not_mem_nil)⟩)) eqs_ok spec_l01Pick_Lt ?_ ?_ spec_l01Pick_sh spec_l01Pick_run ?_
  · exact (fun _ h => absurd h List.not_mem_nil)
  · exact (fun _ h => absurd h List.not_mem_nil)
  · intro n p κ r ds hd hr
    have hr0 := hr
    unfold spec_l01Pick_run spec_l01Pick_runG at hr
    split at hr
    · rw [← ds_of hd]
      exact ⟨en_of (spec_l01Pick_en _ _ _ _) ⟨rfl, _, _, rfl⟩, (spec_l01Pick_ev n _ _ _ _ κ).trans hr0⟩
    · cases hr

/-! loop.example/g01297/spec.l01Size -/
def spec_l01Size_sh : List SkD := [.mptr 81 [.sl 5 (.int .u8), .int .i64, .int .u64]]
def spec_l01Size_runG {α : Type} (F : T6 α) (n : Nat) (p : List P1) (κ : Res → Option α) : Option α := match p with
  | [.rows (.int .u8) s, .int s1, .int s2] => F n s s1 s2 (fun v1 v2 v3 => κ ⟨[.int .i64 v1], [.ptr 81 [.keep, .int .i64 v2, .int .u64 v3]]⟩)
  | _ => none
def spec_l01Size_run {α : Type} (n : Nat) (p : List P1) (κ : Res → Option α) : Option α := spec_l01Size_runG spec_l01Size n p κ
def spec_l01Size_CG {α : Type} (F0 : T5 α) (n : Nat) : FuncId → List D → (Res → Option α) → Option α := tabC [(67, (byShape spec_l01Pick_sh (spec_l01Pick_runG F0 n)))]
def spec_l01Size_C {α : Type} (n : Nat) : FuncId → List D → (Res → Option α) → Option α := spec_l01Size_CG spec_l01Pick n
def spec_l01Size_M : FuncId → List Nat := tabM [(67, [1])]
def spec_l01Size_lpsG {α : Type}  : List (LoopT α) := []
def spec_l01Size_lps {α : Type} : List (LoopT α) := spec_l01Size_lpsG
def spec_l01Size_jt : Nat → Option Tpl := jtOf []
def spec_l01Size_XG {α : Type} (F0 : T5 α)  (n : Nat) : Ctx α := ⟨spec_l01Size_CG F0 n, spec_l01Size_M, eqs, lpOf (spec_l01Size_lpsG) n, spec_l01Size_jt⟩
def spec_l01Size_X {α : Type} (n : Nat) : Ctx α := spec_l01Size_XG spec_l01Pick n
def spec_l01Size_Lt (np : Nat) (lent : List (Bool × Nat × Blk)) : Prop := np = 1 ∧ ∃ (s1 : Int) (s2 : Int), lent = [(false, 0, boxBlk 1 81 [.sl 1, .int .i64 s1, .int .u64 s2])]
def spec_l01Size_body {α : Type} (F0 : T5 α)  (k : Nat) (s : List Int) (s1 : Int) (s2 : Int) (r0 : Int → Int → Int → Option α) : Option α :=
  F0 k s s1 s2 [3, 6, 12, 100, 1000, 1000000] fun v v1 v2 =>
  r0 v v1 v2
theorem spec_l01Size_gen {α : Type} (F0 : T5 α)  (n : Nat) (s : List Int) (s1 : Int) (s2 : Int) (κ : Res → Option α) : evFn Try.prog (spec_l01Size_XG F0 n) Try.f57 (((buildDs spec_l01Size_sh [.rows (.int .u8) s, .int s1, .int s2]).map Prod.fst).getD []) κ = spec_l01Size_body F0 n s s1 s2 (fun v1 v2 v3 => κ ⟨[.int .i64 v1], [.ptr 81 [.keep, .int .i64 v2, .int .u64 v3]]⟩) := by kernel_rfl
theorem spec_l01Size_eq {α : Type} (n : Nat) (s : List Int) (s1 : Int) (s2 : Int) (r0 : Int → Int → Int → Option α) : spec_l01Size_body spec_l01Pick n s s1 s2 r0 = spec_l01Size n s s1 s2 r0 := (spec_l01Size_body.eq_1 spec_l01Pick n s s1 s2 r0).trans (spec_l01Size.eq_1 n s s1 s2 r0).symm
theorem spec_l01Size_rn {α : Type} (F : T6 α) (n : Nat) (s : List Int) (s1 : Int) (s2 : Int) (κ : Res → Option α) : spec_l01Size_runG F n [.rows (.int .u8) s, .int s1, .int s2] κ = F n s s1 s2 (fun v1 v2 v3 => κ ⟨[.int .i64 v1], [.ptr 81 [.keep, .int .i64 v2, .int .u64 v3]]⟩) := rfl
theorem spec_l01Size_ev {α : Type} (n : Nat) (s : List Int) (s1 : Int) (s2 : Int) (κ : Res → Option α) : evFn Try.prog (spec_l01Size_X n) Try.f57 (((buildDs spec_l01Size_sh [.rows (.int .u8) s, .int s1, .int s2]).map Prod.fst).getD []) κ = spec_l01Size_run n [.rows (.int .u8) s, .int s1, .int s2] κ := (spec_l01Size_gen spec_l01Pick n s s1 s2 κ).trans ((spec_l01Size_eq n s s1 s2 (fun v1 v2 v3 => κ ⟨[.int .i64 v1], [.ptr 81 [.keep, .int .i64 v2, .int .u64 v3]]⟩)).trans ((spec_l01Size_run.eq_1 n [.rows (.int .u8) s, .int s1, .int s2] κ).trans (spec_l01Size_rn spec_l01Size n s s1 s2 κ)).symm)
theorem spec_l01Size_en (s : List Int) (s1 : Int) (s2 : Int) : (entry 0 (((buildDs spec_l01Size_sh [.rows (.int .u8) s, .int s1, .int s2]).map Prod.fst).getD [])).map (fun x => (x.1.length, x.2.lent)) = some (1, [(false, 0, boxBlk 1 81 [.sl 1, .int .i64 s1, .int .u64 s2])]) := by kernel_rfl
theorem spec_l01Size_good {α : Type} : ∀ n, GoodFn (α := α) Try.prog 57 (byShape spec_l01Size_sh (spec_l01Size_run n)) := by
  refine fn_good' Try.func57 (c := (Try.f57.body.getD .skip)) (by kernel_rfl) (by kernel_rfl) (by kernel_rfl) spec_l01Size_C spec_l01Size_M eqs spec_l01Size_lps spec_l01Size_jt (fun n => tabC_good (List.forall_mem_cons.2 ⟨(spec_l01Pick_good n), (fun _ h => absurd h List.not_mem_nil)⟩)) eqs_ok spec_l01Size_Lt ?_ ?_ spec_l01Size_sh spec_l01Size_run ?_
  · exact (fun _ h => absurd h List.not_mem_nil)
  · exact (fun _ h => absurd h List.not_mem_nil)
  · intro n p κ r ds hd hr
    have hr0 := hr
    unfold spec_l01Size_run spec_l01Size_runG at hr
    split at hr
    · rw [← ds_of hd]
      exact ⟨en_of (spec_l01Size_en _ _ _) ⟨rfl, _, _, rfl⟩, (spec_l01Size_ev n _ _ _ κ).trans hr0⟩
    · cases hr

/-! loop.example/g01297/spec.l01DrawPoint -/
def spec_l01DrawPoint_sh : List SkD := [.mptr 81 [.sl 5 (.int .u8), .int .i64, .int .u64], .int .i64]
def spec_l01DrawPoint_runG {α : Type} (F : T7 α) (n : Nat) (p : List P1) (κ : Res → Option α) : Option α := match p with
  | [.rows (.int .u8) s, .int s1, .int s2, .int most] => F n s s1 s2 most (fun v1 v2 v3 v4 => κ ⟨[.agg [.int .i64 v1, .int .i64 v2]], [.ptr 81 [.keep, .int .i64 v3, .int .u64 v4]]⟩)
  | _ => none
def spec_l01DrawPoint_run {α : Type} (n : Nat) (p : List P1) (κ : Res → Option α) : Option α := spec_l01DrawPoint_runG spec_l01DrawPoint n p κ
def spec_l01DrawPoint_CG {α : Type} (F0 : T2 α) (n : Nat) : FuncId → List D → (Res → Option α) → Option α := tabC [(54, (byShape spec_l01Next_sh (spec_l01Next_runG F0 n)))]
def spec_l01DrawPoint_C {α : Type} (n : Nat) : FuncId → List D → (Res → Option α) → Option α := spec_l01DrawPoint_CG spec_l01Next n
def spec_l01DrawPoint_M : FuncId → List Nat := tabM [(54, [1])]
def spec_l01DrawPoint_lpsG {α : Type}  : List (LoopT α) := []
def spec_l01DrawPoint_lps {α : Type} : List (LoopT α) := spec_l01DrawPoint_lpsG
def spec_l01DrawPoint_jt : Nat → Option Tpl := jtOf []
def spec_l01DrawPoint_XG {α : Type} (F0 : T2 α)  (n : Nat) : Ctx α := ⟨spec_l01DrawPoint_CG F0 n, spec_l01DrawPoint_M, eqs, lpOf (spec_l01DrawPoint_lpsG) n, spec_l01DrawPoint_jt⟩
def spec_l01DrawPoint_X {α : Type} (n : Nat) : Ctx α := spec_l01DrawPoint_XG spec_l01Next n
def spec_l01DrawPoint_Lt (np : Nat) (lent : List (Bool × Nat × Blk)) : Prop := np = 2 ∧ ∃ (s1 : Int) (s2 : Int), lent = [(false, 0, boxBlk 1 81 [.sl 1, .int .i64 s1, .int .u64 s2])]
def spec_l01DrawPoint_body {α : Type} (F0 : T2 α)  (k : Nat) (s : List Int) (s1 : Int) (s2 : Int) (most : Int) (r0 : Int → Int → Int → Int → Option α) : Option α :=
  F0 k s s1 s2 (w64 ((w64 (2 * most)) + 1)) fun v v1 v2 =>
  F0 k s v1 v2 (w64 ((w64 (2 * most)) + 1)) fun v3 v4 v5 =>
  r0 (w64 (v - most)) (w64 (v3 - most)) v4 v5
theorem spec_l01DrawPoint_gen {α : Type} (F0 : T2 α)  (n : Nat) (s : List Int) (s1 : Int) (s2 : Int) (most : Int) (κ : Res → Option α) : evFn Try.prog (spec_l01DrawPoint_XG F0 n) Try.f75 (((buildDs spec_l01DrawPoint_sh [.rows (.int .u8) s, .int s1, .int s2, .int most]).map Prod.fst).getD []) κ = spec_l01DrawPoint_body F0 n s s1 s2 most (fun v1 v2 v3 v4 => κ ⟨[.agg [.int .i64 v1, .int .i64 v2]], [.ptr 81 [.keep, .int .i64 v3, .int .u64 v4]]⟩) := by kernel_rfl
theorem spec_l01DrawPoint_eq {α : Type} (n : Nat) (s : List Int) (s1 : Int) (s2 : Int) (most : Int) (r0 : Int → Int → Int → Int → Option α) : spec_l01DrawPoint_body spec_l01Next n s s1 s2 most r0 = spec_l01DrawPoint n s s1 s2 most r0 := (spec_l01DrawPoint_body.eq_1 spec_l01Next n s s1 s2 most r0).trans (spec_l01DrawPoint.eq_1 n s s1 s2 most r0).symm
theorem spec_l01DrawPoint_rn {α : Type} (F : T7 α) (n : Nat) (s : List Int) (s1 : Int) (s2 : Int) (most : Int) (κ : Res → Option α) : spec_l01DrawPoint_runG F n [.rows (.int .u8) s, .int s1, .int s2, .int most] κ = F n s s1 s2 most (fun v1 v2 v3 v4 => κ ⟨[.agg [.int .i64 v1, .int .i64 v2]], [.ptr 81 [.keep, .int .i64 v3, .int .u64 v4]]⟩) := rfl
theorem spec_l01DrawPoint_ev {α : Type} (n : Nat) (s : List Int) (s1 : Int) (s2 : Int) (most : Int) (κ : Res → Option α) : evFn Try.prog (spec_l01DrawPoint_X n) Try.f75 (((buildDs spec_l01DrawPoint_sh [.rows (.int .u8) s, .int s1, .int s2, .int most]).map Prod.fst).getD []) κ = spec_l01DrawPoint_run n [.rows (.int .u8) s, .int s1, .int s2, .int most] κ := (spec_l01DrawPoint_gen spec_l01Next n s s1 s2 most κ).trans ((spec_l01DrawPoint_eq n s s1 s2 most (fun v1 v2 v3 v4 => κ ⟨[.agg [.int .i64 v1, .int .i64 v2]], [.ptr 81 [.keep, .int .i64 v3, .int .u64 v4]]⟩)).trans ((spec_l01DrawPoint_run.eq_1 n [.rows (.int .u8) s, .int s1, .int s2, .int most] κ).trans (spec_l01DrawPoint_rn spec_l01DrawPoint n s s1 s2 most κ)).symm)
theorem spec_l01DrawPoint_en (s : List Int) (s1 : Int) (s2 : Int) (most : Int) : (entry 0 (((buildDs spec_l01DrawPoint_sh [.rows (.int .u8) s, .int s1, .int s2, .int most]).map Prod.fst).getD [])).map (fun x => (x.1.length, x.2.lent)) = some (2, [(false, 0, boxBlk 1 81 [.sl 1, .int .i64 s1, .int .u64 s2])]) := by kernel_rfl
theorem spec_l01DrawPoint_good {α : Type} : ∀ n, GoodFn (α := α) Try.prog 75 (byShape spec_l01DrawPoint_sh (spec_l01DrawPoint_run n)) := by
  refine fn_good' Try.func75 (c := (Try.f75.body.getD .skip)) (by kernel_rfl) (by kernel_rfl) (by kernel_rfl) spec_l01DrawPoint_C spec_l01DrawPoint_M eqs spec_l01DrawPoint_lps spec_l01DrawPoint_jt (fun n => tabC_good (List.forall_mem_cons.2 ⟨(spec_l01Next_good n), (fun _ h => absurd h List.not_mem_nil)⟩)) eqs_ok spec_l01DrawPoint_Lt ?_ ?_ spec_l01DrawPoint_sh spec_l01DrawPoint_run ?_
  · exact (fun _ h => absurd h List.not_mem_nil)
  · exact (fun _ h => absurd h List.not_mem_nil)
  · intro n p κ r ds hd hr
    have hr0 := hr
    unfold spec_l01DrawPoint_run spec_l01DrawPoint_runG at hr
    split at hr
    · rw [← ds_of hd]
      exact ⟨en_of (spec_l01DrawPoint_en _ _ _ _) ⟨rfl, _, _, rfl⟩, (spec_l01DrawPoint_ev n _ _ _ _ κ).trans hr0⟩
    · cases hr

/-! loop.example/g01297/spec.l01AnyMatrix -/
def spec_l01AnyMatrix_sh : List SkD := [.mptr 81 [.sl 5 (.int .u8), .int .i64, .int .u64]]
def spec_l01AnyMatrix_runG {α : Type} (F : T4 α) (n : Nat) (p : List P1) (κ : Res → Option α) : Option α := match p with
  | [.rows (.int .u8) s, .int s1, .int s2] => F n s s1 s2 (fun v1 v2 v3 v4 v5 v6 => κ ⟨[.agg [.int .i64 v1, .int .i64 v2, .int .i64 v3, .int .i64 v4]], [.ptr 81 [.keep, .int .i64 v5, .int .u64 v6]]⟩)
  | _ => none
def spec_l01AnyMatrix_run {α : Type} (n : Nat) (p : List P1) (κ : Res → Option α) : Option α := spec_l01AnyMatrix_runG spec_l01AnyMatrix n p κ
def spec_l01AnyMatrix_CG {α : Type} (F0 : T4 α) (F1 : T2 α) (F2 : T6 α) (F3 : T7 α) (F4 : T5 α) (n : Nat) : FuncId → List D → (Res → Option α) → Option α := tabC [(76, (byShape spec_l01DrawUnit_sh (spec_l01DrawUnit_runG F0 n))), (54, (byShape spec_l01Next_sh (spec_l01Next_runG F1 n))), (57, (byShape spec_l01Size_sh (spec_l01Size_runG F2 n))), (75, (byShape spec_l01DrawPoint_sh (spec_l01DrawPoint_runG F3 n))), (67, (byShape spec_l01Pick_sh (spec_l01Pick_runG F4 n)))]
def spec_l01AnyMatrix_C {α : Type} (n : Nat) : FuncId → List D → (Res → Option α) → Option α := spec_l01AnyMatrix_CG spec_l01DrawUnit spec_l01Next spec_l01Size spec_l01DrawPoint spec_l01Pick n
def spec_l01AnyMatrix_M : FuncId → List Nat := tabM [(76, [1]), (54, [1]), (57, [1]), (75, [1]), (67, [1])]
def spec_l01AnyMatrix_lpsG {α : Type}  : List (LoopT α) := []
def spec_l01AnyMatrix_lps {α : Type} : List (LoopT α) := spec_l01AnyMatrix_lpsG
def spec_l01AnyMatrix_jt : Nat → Option Tpl := jtOf []
def spec_l01AnyMatrix_XG {α : Type} (F0 : T4 α) (F1 : T2 α) (F2 : T6 α) (F3 : T7 α) (F4 : T5 α)  (n : Nat) : Ctx α := ⟨spec_l01AnyMatrix_CG F0 F1 F2 F3 F4 n, spec_l01AnyMatrix_M, eqs, lpOf (spec_l01AnyMatrix_lpsG) n, spec_l01AnyMatrix_jt⟩
def spec_l01AnyMatrix_X {α : Type} (n : Nat) : Ctx α := spec_l01AnyMatrix_XG spec_l01DrawUnit spec_l01Next spec_l01Size spec_l01DrawPoint spec_l01Pick n
def spec_l01AnyMatrix_Lt (np : Nat) (lent : List (Bool × Nat × Blk)) : Prop := np = 1 ∧ ∃ (s1 : Int) (s2 : Int), lent = [(false, 0, boxBlk 1 81 [.sl 1, .int .i64 s1, .int .u64 s2])]
def spec_l01AnyMatrix_body {α : Type} (F0 : T4 α) (F1 : T2 α) (F2 : T6 α) (F3 : T7 α) (F4 : T5 α)  (k : Nat) (s : List Int) (s1 : Int) (s2 : Int) (r0 : Int → Int → Int → Int → Int → Int → Option α) : Option α :=
  F0 k s s1 s2 fun v v1 v2 v3 v4 v5 =>
  F1 k s v4 v5 3 fun v6 v7 v8 =>
  bif decide (v6 = 0) then
    F2 k s v7 v8 fun v9 v10 v11 =>
    F3 k s v10 v11 v9 fun v12 v13 v14 v15 =>
    F2 k s v14 v15 fun v16 v17 v18 =>
    F3 k s v17 v18 v16 fun v19 v20 v21 v22 =>
    F1 k s v21 v22 40 fun v23 v24 v25 =>
    bif decide (v23 = 0) then
      F1 k s v24 v25 2 fun v26 v27 v28 =>
      bif (decide (0 ≤ v26) && decide (v26 < 2)) then
        F1 k s v27 v28 2 fun v29 v30 v31 =>
        F4 k s v30 v31 [1000001, (-1099511627776)] fun v32 v33 v34 =>
        bif (decide (0 ≤ v29) && decide (v29 < 2)) then
          ([v12, v13, v19, v20][(moved (v26.toNat * 2) v29.toNat 1)]?).bind fun _ =>
          ((List.set [v12, v13, v19, v20] (moved (v26.toNat * 2) v29.toNat 1) v32)[0]?).bind fun e_ =>
          ((List.set [v12, v13, v19, v20] (moved (v26.toNat * 2) v29.toNat 1) v32)[1]?).bind fun e_1 =>
          ((List.set [v12, v13, v19, v20] (moved (v26.toNat * 2) v29.toNat 1) v32)[2]?).bind fun e_2 =>
          ((List.set [v12, v13, v19, v20] (moved (v26.toNat * 2) v29.toNat 1) v32)[3]?).bind fun e_3 =>
          r0 e_ e_1 e_2 e_3 v33 v34
        else
          none
      else
        none
    else
      r0 v12 v13 v19 v20 v24 v25
  else
    F1 k s v7 v8 40 fun v35 v36 v37 =>
    bif decide (v35 = 0) then
      F1 k s v36 v37 2 fun v38 v39 v40 =>
      bif (decide (0 ≤ v38) && decide (v38 < 2)) then
        F1 k s v39 v40 2 fun v41 v42 v43 =>
        F4 k s v42 v43 [1000001, (-1099511627776)] fun v44 v45 v46 =>
        bif (decide (0 ≤ v41) && decide (v41 < 2)) then
          ([v, v1, v2, v3][(moved (v38.toNat * 2) v41.toNat 1)]?).bind fun _ =>
          ((List.set [v, v1, v2, v3] (moved (v38.toNat * 2) v41.toNat 1) v44)[0]?).bind fun e_4 =>
          ((List.set [v, v1, v2, v3] (moved (v38.toNat * 2) v41.toNat 1) v44)[1]?).bind fun e_5 =>
          ((List.set [v, v1, v2, v3] (moved (v38.toNat * 2) v41.toNat 1) v44)[2]?).bind fun e_6 =>
          ((List.set [v, v1, v2, v3] (moved (v38.toNat * 2) v41.toNat 1) v44)[3]?).bind fun e_7 =>
          r0 e_4 e_5 e_6 e_7 v45 v46
        else
          none
      else
        none
    else
      r0 v v1 v2 v3 v36 v37
theorem spec_l01AnyMatrix_gen {α : Type} (F0 : T4 α) (F1 : T2 α) (F2 : T6 α) (F3 : T7 α) (F4 : T5 α)  (n : Nat) (s : List Int) (s1 : Int) (s2 : Int) (κ : Res → Option α) : evFn Try.prog (spec_l01AnyMatrix_XG F0 F1 F2 F3 F4 n) Try.f35 (((buildDs spec_l01AnyMatrix_sh [.rows (.int .u8) s, .int s1, .int s2]).map Prod.fst).getD []) κ = spec_l01AnyMatrix_body F0 F1 F2 F3 F4 n s s1 s2 (fun v1 v2 v3 v4 v5 v6 => κ ⟨[.agg [.int .i64 v1, .int .i64 v2, .int .i64 v3, .int .i64 v4]], [.ptr 81 [.keep, .int .i64 v5, .int .u64 v6]]⟩) := by kernel_rfl
theorem spec_l01AnyMatrix_eq {α : Type} (n : Nat) (s : List Int) (s1 : Int) (s2 : Int) (r0 : Int → Int → Int → Int → Int → Int → Option α) : spec_l01AnyMatrix_body spec_l01DrawUnit spec_l01Next spec_l01Size spec_l01DrawPoint spec_l01Pick n s s1 s2 r0 = spec_l01AnyMatrix n s s1 s2 r0 := (spec_l01AnyMatrix_body.eq_1 spec_l01DrawUnit spec_l01Next spec_l01Size spec_l01DrawPoint spec_l01Pick n s s1 s2 r0).trans (spec_l01AnyMatrix.eq_1 n s s1 s2 r0).symm
theorem spec_l01AnyMatrix_rn {α : Type} (F : T4 α) (n : Nat) (s : List Int) (s1 : Int) (s2 : Int) (κ : Res → Option α) : spec_l01AnyMatrix_runG F n [.rows (.int .u8) s, .int s1, .int s2] κ = F n s s1 s2 (fun v1 v2 v3 v4 v5 v6 => κ ⟨[.agg [.int .i64 v1, .int .i64 v2, .int .i64 v3, .int .i64 v4]], [.ptr 81 [.keep, .int .i64 v5, .int .u64 v6]]⟩) := rfl
theorem spec_l01AnyMatrix_ev {α : Type} (n : Nat) (s : List Int) (s1 : Int) (s2 : Int) (κ : Res → Option α) : evFn Try.prog (spec_l01AnyMatrix_X n) Try.f35 (((buildDs spec_l01AnyMatrix_sh [.rows (.int .u8) s, .int s1, .int s2]).map Prod.fst).getD []) κ = spec_l01AnyMatrix_run n [.rows (.int .u8) s, .int s1, .int s2] κ := (spec_l01AnyMatrix_gen spec_l01DrawUnit spec_l01Next spec_l01Size spec_l01DrawPoint spec_l01Pick n s s1 s2 κ).trans ((spec_l01AnyMatrix_eq n s s1 s2 (fun v1 v2 v3 v4 v5 v6 => κ ⟨[.agg [.int .i64 v1, .int .i64 v2, .int .i64 v3, .int .i64 v4]], [.ptr 81 [.keep, .int .i64 v5, .int .u64 v6]]⟩)).trans ((spec_l01AnyMatrix_run.eq_1 n [.rows (.int .u8) s, .int s1, .int s2] κ).trans (spec_l01AnyMatrix_rn spec_l01AnyMatrix n s s1 s2 κ)).symm)
theorem spec_l01AnyMatrix_en (s : List Int) (s1 : Int) (s2 : Int) : (entry 0 (((buildDs spec_l01AnyMatrix_sh [.rows (.int .u8) s, .int s1, .int s2]).map Prod.fst).getD [])).map (fun x => (x.1.length, x.2.lent)) = some (1, [(false, 0, boxBlk 1 81 [.sl 1, .int .i64 s1, .int .u64 s2])]) := by kernel_rfl
theorem spec_l01AnyMatrix_good {α : Type} : ∀ n, GoodFn (α := α) Try.prog 35 (byShape spec_l01AnyMatrix_sh (spec_l01AnyMatrix_run n)) := by
  refine fn_good' Try.func35 (c := (Try.f35.body.getD .skip)) (by kernel_rfl) (by kernel_rfl) (by kernel_rfl) spec_l01AnyMatrix_C spec_l01AnyMatrix_M eqs spec_l01AnyMatrix_lps spec_l01AnyMatrix_jt (fun n => tabC_good (List.forall_mem_cons.2 ⟨(spec_l01DrawUnit_good n), (List.forall_mem_cons.2 ⟨(spec_l01Next_good n), (List.forall_mem_cons.2 ⟨(spec_l01Size_good n), (List.forall_mem_cons.2 ⟨(spec_l01DrawPoint_good n), (List.forall_mem_cons.2 ⟨(spec_l01Pick_good n), (fun _ h => absurd h List.not_mem_nil)⟩)⟩)⟩)⟩)⟩)) eqs_ok spec_l01AnyMatrix_Lt ?_ ?_ spec_l01AnyMatrix_sh spec_l01AnyMatrix_run ?_
  · exact (fun _ h => absurd h List.not_mem_nil)
  · exact (fun _ h => absurd h List.not_mem_nil)
  · intro n p κ r ds hd hr
    have hr0 := hr
    unfold spec_l01AnyMatrix_run spec_l01AnyMatrix_runG at hr
    split at hr
    · rw [← ds_of hd]
      exact ⟨en_of (spec_l01AnyMatrix_en _ _ _) ⟨rfl, _, _, rfl⟩, (spec_l01AnyMatrix_ev n _ _ _ κ).trans hr0⟩
    · cases hr

/-! loop.example/g01297/spec.DrawInverseMatrix -/
def spec_DrawInverseMatrix_sh : List SkD := [.sl 5 (.int .u8)]
def spec_DrawInverseMatrix_runG {α : Type} (F : T8 α) (n : Nat) (p : List P1) (κ : Res → Option α) : Option α := match p with
  | [.rows (.int .u8) code] => F n code (fun v1 v2 v3 v4 => κ ⟨[.agg [.int .i64 v1, .int .i64 v2, .int .i64 v3, .int .i64 v4]], []⟩)
  | _ => none
def spec_DrawInverseMatrix_run {α : Type} (n : Nat) (p : List P1) (κ : Res → Option α) : Option α := spec_DrawInverseMatrix_runG spec_DrawInverseMatrix n p κ
def spec_DrawInverseMatrix_CG {α : Type} (F0 : T1 α) (F1 : T4 α) (n : Nat) : FuncId → List D → (Res → Option α) → Option α := tabC [(36, (byShape spec_l01From_sh (spec_l01From_runG F0 n))), (35, (byShape spec_l01AnyMatrix_sh (spec_l01AnyMatrix_runG F1 n)))]
def spec_DrawInverseMatrix_C {α : Type} (n : Nat) : FuncId → List D → (Res → Option α) → Option α := spec_DrawInverseMatrix_CG spec_l01From spec_l01AnyMatrix n
def spec_DrawInverseMatrix_M : FuncId → List Nat := tabM [(35, [1])]
def spec_DrawInverseMatrix_lpsG {α : Type}  : List (LoopT α) := []
def spec_DrawInverseMatrix_lps {α : Type} : List (LoopT α) := spec_DrawInverseMatrix_lpsG
def spec_DrawInverseMatrix_jt : Nat → Option Tpl := jtOf []
def spec_DrawInverseMatrix_XG {α : Type} (F0 : T1 α) (F1 : T4 α)  (n : Nat) : Ctx α := ⟨spec_DrawInverseMatrix_CG F0 F1 n, spec_DrawInverseMatrix_M, eqs, lpOf (spec_DrawInverseMatrix_lpsG) n, spec_DrawInverseMatrix_jt⟩
def spec_DrawInverseMatrix_X {α : Type} (n : Nat) : Ctx α := spec_DrawInverseMatrix_XG spec_l01From spec_l01AnyMatrix n
def spec_DrawInverseMatrix_Lt (np : Nat) (lent : List (Bool × Nat × Blk)) : Prop := np = 1 ∧ lent = []
def spec_DrawInverseMatrix_body {α : Type} (F0 : T1 α) (F1 : T4 α)  (k : Nat) (code : List Int) (r0 : Int → Int → Int → Int → Option α) : Option α :=
  F0 k code fun v v1 =>
  F1 k code v v1 fun v2 v3 v4 v5 _ _ =>
  r0 v2 v3 v4 v5
theorem spec_DrawInverseMatrix_gen {α : Type} (F0 : T1 α) (F1 : T4 α)  (n : Nat) (code : List Int) (κ : Res → Option α) : evFn Try.prog (spec_DrawInverseMatrix_XG F0 F1 n) Try.f5 (((buildDs spec_DrawInverseMatrix_sh [.rows (.int .u8) code]).map Prod.fst).getD []) κ = spec_DrawInverseMatrix_body F0 F1 n code (fun v1 v2 v3 v4 => κ ⟨[.agg [.int .i64 v1, .int .i64 v2, .int .i64 v3, .int .i64 v4]], []⟩) := by kernel_rfl
theorem spec_DrawInverseMatrix_eq {α : Type} (n : Nat) (code : List Int) (r0 : Int → Int → Int → Int → Option α) : spec_DrawInverseMatrix_body spec_l01From spec_l01AnyMatrix n code r0 = spec_DrawInverseMatrix n code r0 := (spec_DrawInverseMatrix_body.eq_1 spec_l01From spec_l01AnyMatrix n code r0).trans (spec_DrawInverseMatrix.eq_1 n code r0).symm
theorem spec_DrawInverseMatrix_rn {α : Type} (F : T8 α) (n : Nat) (code : List Int) (κ : Res → Option α) : spec_DrawInverseMatrix_runG F n [.rows (.int .u8) code] κ = F n code (fun v1 v2 v3 v4 => κ ⟨[.agg [.int .i64 v1, .int .i64 v2, .int .i64 v3, .int .i64 v4]], []⟩) := rfl
theorem spec_DrawInverseMatrix_ev {α : Type} (n : Nat) (code : List Int) (κ : Res → Option α) : evFn Try.prog (spec_DrawInverseMatrix_X n) Try.f5 (((buildDs spec_DrawInverseMatrix_sh [.rows (.int .u8) code]).map Prod.fst).getD []) κ = spec_DrawInverseMatrix_run n [.rows (.int .u8) code] κ := (spec_DrawInverseMatrix_gen spec_l01From spec_l01AnyMatrix n code κ).trans ((spec_DrawInverseMatrix_eq n code (fun v1 v2 v3 v4 => κ ⟨[.agg [.int .i64 v1, .int .i64 v2, .int .i64 v3, .int .i64 v4]], []⟩)).trans ((spec_DrawInverseMatrix_run.eq_1 n [.rows (.int .u8) code] κ).trans (spec_DrawInverseMatrix_rn spec_DrawInverseMatrix n code κ)).symm)
theorem spec_DrawInverseMatrix_en (code : List Int) : (entry 0 (((buildDs spec_DrawInverseMatrix_sh [.rows (.int .u8) code]).map Prod.fst).getD [])).map (fun x => (x.1.length, x.2.lent)) = some (1, []) := by kernel_rfl
theorem spec_DrawInverseMatrix_good {α : Type} : ∀ n, GoodFn (α := α) Try.prog 5 (byShape spec_DrawInverseMatrix_sh (spec_DrawInverseMatrix_run n)) := by
  refine fn_good' Try.func5 (c := (Try.f5.body.getD .skip)) (by kernel_rfl) (by kernel_rfl) (by kernel_rfl) spec_DrawInverseMatrix_C spec_DrawInverseMatrix_M eqs spec_DrawInverseMatrix_lps spec_DrawInverseMatrix_jt (fun n => tabC_good (List.forall_mem_cons.2 ⟨(spec_l01From_good n), (List.forall_mem_cons.2 ⟨(spec_l01AnyMatrix_good n), (fun _ h => absurd h List.not_mem_nil)⟩)⟩)) eqs_ok spec_DrawInverseMatrix_Lt ?_ ?_ spec_DrawInverseMatrix_sh spec_DrawInverseMatrix_run ?_
  · exact (fun _ h => absurd h List.not_mem_nil)
  · exact (fun _ h => absurd h List.not_mem_nil)
  · intro n p κ r ds hd hr
    have hr0 := hr
    unfold spec_DrawInverseMatrix_run spec_DrawInverseMatrix_runG at hr
    split at hr
    · rw [← ds_of hd]
      exact ⟨en_of (spec_DrawInverseMatrix_en _) ⟨rfl, rfl⟩, (spec_DrawInverseMatrix_ev n _ κ).trans hr0⟩
    · cases hr

/-! loop.example/g01297/impl.in -/
def impl_in_sh : List SkD := [.int .i64, .int .i64, .int .i64]
def impl_in_runG {α : Type} (F : T9 α) (n : Nat) (p : List P1) (κ : Res → Option α) : Option α := match p with
  | [.int n_, .int low, .int high] => F n n_ low high (fun v1 => κ ⟨[.bool v1], []⟩)
  | _ => none
def impl_in_run {α : Type} (n : Nat) (p : List P1) (κ : Res → Option α) : Option α := impl_in_runG impl_in n p κ
def impl_in_CG {α : Type}  (n : Nat) : FuncId → List D → (Res → Option α) → Option α := tabC []
def impl_in_C {α : Type} (n : Nat) : FuncId → List D → (Res → Option α) → Option α := impl_in_CG n
def impl_in_M : FuncId → List Nat := tabM []
def impl_in_lpsG {α : Type}  : List (LoopT α) := []
def impl_in_lps {α : Type} : List (LoopT α) := impl_in_lpsG
def impl_in_jt : Nat → Option Tpl := jtOf []
def impl_in_XG {α : Type}   (n : Nat) : Ctx α := ⟨impl_in_CG n, impl_in_M, eqs, lpOf (impl_in_lpsG) n, impl_in_jt⟩
def impl_in_X {α : Type} (n : Nat) : Ctx α := impl_in_XG n
def impl_in_Lt (np : Nat) (lent : List (Bool × Nat × Blk)) : Prop := np = 3 ∧ lent = []
def impl_in_body {α : Type}   (k : Nat) (n_ : Int) (low : Int) (high : Int) (r0 : Bool → Option α) : Option α :=
  bif decide (low ≤ n_) then
    r0 (decide (n_ ≤ high))
  else
    r0 false
theorem impl_in_gen {α : Type}   (n : Nat) (n_ : Int) (low : Int) (high : Int) (κ : Res → Option α) : evFn Try.prog (impl_in_XG n) Try.f88 (((buildDs impl_in_sh [.int n_, .int low, .int high]).map Prod.fst).getD []) κ = impl_in_body n n_ low high (fun v1 => κ ⟨[.bool v1], []⟩) := by kernel_rfl
theorem impl_in_eq {α : Type} (n : Nat) (n_ : Int) (low : Int) (high : Int) (r0 : Bool → Option α) : impl_in_body n n_ low high r0 = impl_in n n_ low high r0 := (impl_in_body.eq_1 n n_ low high r0).trans (impl_in.eq_1 n n_ low high r0).symm
theorem impl_in_rn {α : Type} (F : T9 α) (n : Nat) (n_ : Int) (low : Int) (high : Int) (κ : Res → Option α) : impl_in_runG F n [.int n_, .int low, .int high] κ = F n n_ low high (fun v1 => κ ⟨[.bool v1], []⟩) := rfl
theorem impl_in_ev {α : Type} (n : Nat) (n_ : Int) (low : Int) (high : Int) (κ : Res → Option α) : evFn Try.prog (impl_in_X n) Try.f88 (((buildDs impl_in_sh [.int n_, .int low, .int high]).map Prod.fst).getD []) κ = impl_in_run n [.int n_, .int low, .int high] κ := (impl_in_gen n n_ low high κ).trans ((impl_in_eq n n_ low high (fun v1 => κ ⟨[.bool v1], []⟩)).trans ((impl_in_run.eq_1 n [.int n_, .int low, .int high] κ).trans (impl_in_rn impl_in n n_ low high κ)).symm)
theorem impl_in_en (n_ : Int) (low : Int) (high : Int) : (entry 0 (((buildDs impl_in_sh [.int n_, .int low, .int high]).map Prod.fst).getD [])).map (fun x => (x.1.length, x.2.lent)) = some (3, []) := by kernel_rfl
theorem impl_in_good {α : Type} : ∀ n, GoodFn (α := α) Try.prog 88 (byShape impl_in_sh (impl_in_run n)) := by
  refine fn_good' Try.func88 (c := (Try.f88.body.getD .skip)) (by kernel_rfl) (by kernel_rfl) (by kernel_rfl) impl_in_C impl_in_M eqs impl_in_lps impl_in_jt (fun n => tabC_good (fun _ h => absurd h List.not_mem_nil)) eqs_ok impl_in_Lt ?_ ?_ impl_in_sh impl_in_run ?_
  · exact (fun _ h => absurd h List.not_mem_nil)
  · exact (fun _ h => absurd h List.not_mem_nil)
  · intro n p κ r ds hd hr
    have hr0 := hr
    unfold impl_in_run impl_in_runG at hr
    split at hr
    · rw [← ds_of hd]
      exact ⟨en_of (impl_in_en _ _ _) ⟨rfl, rfl⟩, (impl_in_ev n _ _ _ κ).trans hr0⟩
    · cases hr

/-! loop.example/g01297/impl.isCoord -/
def impl_isCoord_sh : List SkD := [.int .i64]
def impl_isCoord_runG {α : Type} (F : T10 α) (n : Nat) (p : List P1) (κ : Res → Option α) : Option α := match p with
  | [.int n_] => F n n_ (fun v1 => κ ⟨[.bool v1], []⟩)
  | _ => none
def impl_isCoord_run {α : Type} (n : Nat) (p : List P1) (κ : Res → Option α) : Option α := impl_isCoord_runG impl_isCoord n p κ
def impl_isCoord_CG {α : Type} (F0 : T9 α) (n : Nat) : FuncId → List D → (Res → Option α) → Option α := tabC [(88, (byShape impl_in_sh (impl_in_runG F0 n)))]
def impl_isCoord_C {α : Type} (n : Nat) : FuncId → List D → (Res → Option α) → Option α := impl_isCoord_CG impl_in n
def impl_isCoord_M : FuncId → List Nat := tabM []
def impl_isCoord_lpsG {α : Type}  : List (LoopT α) := []
def impl_isCoord_lps {α : Type} : List (LoopT α) := impl_isCoord_lpsG
def impl_isCoord_jt : Nat → Option Tpl := jtOf []
def impl_isCoord_XG {α : Type} (F0 : T9 α)  (n : Nat) : Ctx α := ⟨impl_isCoord_CG F0 n, impl_isCoord_M, eqs, lpOf (impl_isCoord_lpsG) n, impl_isCoord_jt⟩
def impl_isCoord_X {α : Type} (n : Nat) : Ctx α := impl_isCoord_XG impl_in n
def impl_isCoord_Lt (np : Nat) (lent : List (Bool × Nat × Blk)) : Prop := np = 1 ∧ lent = []
def impl_isCoord_body {α : Type} (F0 : T9 α)  (k : Nat) (n_ : Int) (r0 : Bool → Option α) : Option α :=
  F0 k n_ (-1000000) 1000000 fun v =>
  r0 v
theorem impl_isCoord_gen {α : Type} (F0 : T9 α)  (n : Nat) (n_ : Int) (κ : Res → Option α) : evFn Try.prog (impl_isCoord_XG F0 n) Try.f68 (((buildDs impl_isCoord_sh [.int n_]).map Prod.fst).getD []) κ = impl_isCoord_body F0 n n_ (fun v1 => κ ⟨[.bool v1], []⟩) := by kernel_rfl
theorem impl_isCoord_eq {α : Type} (n : Nat) (n_ : Int) (r0 : Bool → Option α) : impl_isCoord_body impl_in n n_ r0 = impl_isCoord n n_ r0 := (impl_isCoord_body.eq_1 impl_in n n_ r0).trans (impl_isCoord.eq_1 n n_ r0).symm
theorem impl_isCoord_rn {α : Type} (F : T10 α) (n : Nat) (n_ : Int) (κ : Res → Option α) : impl_isCoord_runG F n [.int n_] κ = F n n_ (fun v1 => κ ⟨[.bool v1], []⟩) := rfl
theorem impl_isCoord_ev {α : Type} (n : Nat) (n_ : Int) (κ : Res → Option α) : evFn Try.prog (impl_isCoord_X n) Try.f68 (((buildDs impl_isCoord_sh [.int n_]).map Prod.fst).getD []) κ = impl_isCoord_run n [.int n_] κ := (impl_isCoord_gen impl_in n n_ κ).trans ((impl_isCoord_eq n n_ (fun v1 => κ ⟨[.bool v1], []⟩)).trans ((impl_isCoord_run.eq_1 n [.int n_] κ).trans (impl_isCoord_rn impl_isCoord n n_ κ)).symm)
theorem impl_isCoord_en (n_ : Int) : (entry 0 (((buildDs impl_isCoord_sh [.int n_]).map Prod.fst).getD [])).map (fun x => (x.1.length, x.2.lent)) = some (1, []) := by kernel_rfl
theorem impl_isCoord_good {α : Type} : ∀ n, GoodFn (α := α) Try.prog 68 (byShape impl_isCoord_sh (impl_isCoord_run n)) := by
  refine fn_good' Try.func68 (c := (Try.f68.body.getD .skip)) (by kernel_rfl) (by kernel_rfl) (by kernel_rfl) impl_isCoord_C impl_isCoord_M eqs impl_isCoord_lps impl_isCoord_jt (fun n => tabC_good (List.forall_mem_cons.2 ⟨(impl_in_good n), (fun _ h => absurd h List.not_mem_nil)⟩)) eqs_ok impl_isCoord_Lt ?_ ?_ impl_isCoord_sh impl_isCoord_run ?_
  · exact (fun _ h => absurd h List.not_mem_nil)
  · exact (fun _ h => absurd h List.not_mem_nil)
  · intro n p κ r ds hd hr
    have hr0 := hr
    unfold impl_isCoord_run impl_isCoord_runG at hr
    split at hr
    · rw [← ds_of hd]
      exact ⟨en_of (impl_isCoord_en _) ⟨rfl, rfl⟩, (impl_isCoord_ev n _ κ).trans hr0⟩
    · cases hr

/-! loop.example/g01297/impl.IsPoint -/
def impl_IsPoint_sh : List SkD := [.agg [.int .i64, .int .i64]]
def impl_IsPoint_runG {α : Type} (F : T11 α) (n : Nat) (p : List P1) (κ : Res → Option α) : Option α := match p with
  | [.int a, .int a1] => F n a a1 (fun v1 => κ ⟨[.bool v1], []⟩)
  | _ => none
def impl_IsPoint_run {α : Type} (n : Nat) (p : List P1) (κ : Res → Option α) : Option α := impl_IsPoint_runG impl_IsPoint n p κ
def impl_IsPoint_CG {α : Type} (F0 : T10 α) (n : Nat) : FuncId → List D → (Res → Option α) → Option α := tabC [(68, (byShape impl_isCoord_sh (impl_isCoord_runG F0 n)))]
def impl_IsPoint_C {α : Type} (n : Nat) : FuncId → List D → (Res → Option α) → Option α := impl_IsPoint_CG impl_isCoord n
def impl_IsPoint_M : FuncId → List Nat := tabM []
def impl_IsPoint_lpsG {α : Type}  : List (LoopT α) := []
def impl_IsPoint_lps {α : Type} : List (LoopT α) := impl_IsPoint_lpsG
def impl_IsPoint_jt : Nat → Option Tpl := jtOf []
def impl_IsPoint_XG {α : Type} (F0 : T10 α)  (n : Nat) : Ctx α := ⟨impl_IsPoint_CG F0 n, impl_IsPoint_M, eqs, lpOf (impl_IsPoint_lpsG) n, impl_IsPoint_jt⟩
def impl_IsPoint_X {α : Type} (n : Nat) : Ctx α := impl_IsPoint_XG impl_isCoord n
def impl_IsPoint_Lt (np : Nat) (lent : List (Bool × Nat × Blk)) : Prop := np = 1 ∧ lent = []
def impl_IsPoint_body {α : Type} (F0 : T10 α)  (k : Nat) (a : Int) (a1 : Int) (r0 : Bool → Option α) : Option α :=
  F0 k a fun v =>
  bif v then
    F0 k a1 fun v1 =>
    r0 v1
  else
    r0 false
theorem impl_IsPoint_gen {α : Type} (F0 : T10 α)  (n : Nat) (a : Int) (a1 : Int) (κ : Res → Option α) : evFn Try.prog (impl_IsPoint_XG F0 n) Try.f49 (((buildDs impl_IsPoint_sh [.int a, .int a1]).map Prod.fst).getD []) κ = impl_IsPoint_body F0 n a a1 (fun v1 => κ ⟨[.bool v1], []⟩) := by kernel_rfl
theorem impl_IsPoint_eq {α : Type} (n : Nat) (a : Int) (a1 : Int) (r0 : Bool → Option α) : impl_IsPoint_body impl_isCoord n a a1 r0 = impl_IsPoint n a a1 r0 := (impl_IsPoint_body.eq_1 impl_isCoord n a a1 r0).trans (impl_IsPoint.eq_1 n a a1 r0).symm
theorem impl_IsPoint_rn {α : Type} (F : T11 α) (n : Nat) (a : Int) (a1 : Int) (κ : Res → Option α) : impl_IsPoint_runG F n [.int a, .int a1] κ = F n a a1 (fun v1 => κ ⟨[.bool v1], []⟩) := rfl
theorem impl_IsPoint_ev {α : Type} (n : Nat) (a : Int) (a1 : Int) (κ : Res → Option α) : evFn Try.prog (impl_IsPoint_X n) Try.f49 (((buildDs impl_IsPoint_sh [.int a, .int a1]).map Prod.fst).getD []) κ = impl_IsPoint_run n [.int a, .int a1] κ := (impl_IsPoint_gen impl_isCoord n a a1 κ).trans ((impl_IsPoint_eq n a a1 (fun v1 => κ ⟨[.bool v1], []⟩)).trans ((impl_IsPoint_run.eq_1 n [.int a, .int a1] κ).trans (impl_IsPoint_rn impl_IsPoint n a a1 κ)).symm)
theorem impl_IsPoint_en (a : Int) (a1 : Int) : (entry 0 (((buildDs impl_IsPoint_sh [.int a, .int a1]).map Prod.fst).getD [])).map (fun x => (x.1.length, x.2.lent)) = some (1, []) := by kernel_rfl
theorem impl_IsPoint_good {α : Type} : ∀ n, GoodFn (α := α) Try.prog 49 (byShape impl_IsPoint_sh (impl_IsPoint_run n)) := by
  refine fn_good' Try.func49 (c := (Try.f49.body.getD .skip)) (by kernel_rfl) (by kernel_rfl) (by kernel_rfl) impl_IsPoint_C impl_IsPoint_M eqs impl_IsPoint_lps impl_IsPoint_jt (fun n => tabC_good (List.forall_mem_cons.2 ⟨(impl_isCoord_good n), (fun _ h => absurd h List.not_mem_nil)⟩)) eqs_ok impl_IsPoint_Lt ?_ ?_ impl_IsPoint_sh impl_IsPoint_run ?_
  · exact (fun _ h => absurd h List.not_mem_nil)
  · exact (fun _ h => absurd h List.not_mem_nil)
  · intro n p κ r ds hd hr
    have hr0 := hr
    unfold impl_IsPoint_run impl_IsPoint_runG at hr
    split at hr
    · rw [← ds_of hd]
      exact ⟨en_of (impl_IsPoint_en _ _) ⟨rfl, rfl⟩, (impl_IsPoint_ev n _ _ κ).trans hr0⟩
    · cases hr

/-! loop.example/g01297/impl.points$1 -/
def impl_points_1_sh : List SkD := [.agg [.int .i64, .int .i64]]
def impl_points_1_runG {α : Type} (F : T11 α) (n : Nat) (p : List P1) (κ : Res → Option α) : Option α := match p with
  | [.int a, .int a1] => F n a a1 (fun v1 => κ ⟨[.bool v1], []⟩)
  | _ => none
def impl_points_1_run {α : Type} (n : Nat) (p : List P1) (κ : Res → Option α) : Option α := impl_points_1_runG impl_points_1 n p κ
def impl_points_1_CG {α : Type} (F0 : T11 α) (n : Nat) : FuncId → List D → (Res → Option α) → Option α := tabC [(49, (byShape impl_IsPoint_sh (impl_IsPoint_runG F0 n)))]
def impl_points_1_C {α : Type} (n : Nat) : FuncId → List D → (Res → Option α) → Option α := impl_points_1_CG impl_IsPoint n
def impl_points_1_M : FuncId → List Nat := tabM []
def impl_points_1_lpsG {α : Type}  : List (LoopT α) := []
def impl_points_1_lps {α : Type} : List (LoopT α) := impl_points_1_lpsG
def impl_points_1_jt : Nat → Option Tpl := jtOf []
def impl_points_1_XG {α : Type} (F0 : T11 α)  (n : Nat) : Ctx α := ⟨impl_points_1_CG F0 n, impl_points_1_M, eqs, lpOf (impl_points_1_lpsG) n, impl_points_1_jt⟩
def impl_points_1_X {α : Type} (n : Nat) : Ctx α := impl_points_1_XG impl_IsPoint n
def impl_points_1_Lt (np : Nat) (lent : List (Bool × Nat × Blk)) : Prop := np = 1 ∧ lent = []
def impl_points_1_body {α : Type} (F0 : T11 α)  (k : Nat) (a : Int) (a1 : Int) (r0 : Bool → Option α) : Option α :=
  F0 k a a1 fun v =>
  r0 (!v)
theorem impl_points_1_gen {α : Type} (F0 : T11 α)  (n : Nat) (a : Int) (a1 : Int) (κ : Res → Option α) : evFn Try.prog (impl_points_1_XG F0 n) Try.f81 (((buildDs impl_points_1_sh [.int a, .int a1]).map Prod.fst).getD []) κ = impl_points_1_body F0 n a a1 (fun v1 => κ ⟨[.bool v1], []⟩) := by kernel_rfl
theorem impl_points_1_eq {α : Type} (n : Nat) (a : Int) (a1 : Int) (r0 : Bool → Option α) : impl_points_1_body impl_IsPoint n a a1 r0 = impl_points_1 n a a1 r0 := (impl_points_1_body.eq_1 impl_IsPoint n a a1 r0).trans (impl_points_1.eq_1 n a a1 r0).symm
theorem impl_points_1_rn {α : Type} (F : T11 α) (n : Nat) (a : Int) (a1 : Int) (κ : Res → Option α) : impl_points_1_runG F n [.int a, .int a1] κ = F n a a1 (fun v1 => κ ⟨[.bool v1], []⟩) := rfl
theorem impl_points_1_ev {α : Type} (n : Nat) (a : Int) (a1 : Int) (κ : Res → Option α) : evFn Try.prog (impl_points_1_X n) Try.f81 (((buildDs impl_points_1_sh [.int a, .int a1]).map Prod.fst).getD []) κ = impl_points_1_run n [.int a, .int a1] κ := (impl_points_1_gen impl_IsPoint n a a1 κ).trans ((impl_points_1_eq n a a1 (fun v1 => κ ⟨[.bool v1], []⟩)).trans ((impl_points_1_run.eq_1 n [.int a, .int a1] κ).trans (impl_points_1_rn impl_points_1 n a a1 κ)).symm)
theorem impl_points_1_en (a : Int) (a1 : Int) : (entry 0 (((buildDs impl_points_1_sh [.int a, .int a1]).map Prod.fst).getD [])).map (fun x => (x.1.length, x.2.lent)) = some (1, []) := by kernel_rfl
theorem impl_points_1_good {α : Type} : ∀ n, GoodFn (α := α) Try.prog 81 (byShape impl_points_1_sh (impl_points_1_run n)) := by
  refine fn_good' Try.func81 (c := (Try.f81.body.getD .skip)) (by kernel_rfl) (by kernel_rfl) (by kernel_rfl) impl_points_1_C impl_points_1_M eqs impl_points_1_lps impl_points_1_jt (fun n => tabC_good (List.forall_mem_cons.2 ⟨(impl_IsPoint_good n), (fun _ h => absurd h List.not_mem_nil)⟩)) eqs_ok impl_points_1_Lt ?_ ?_ impl_points_1_sh impl_points_1_run ?_
  · exact (fun _ h => absurd h List.not_mem_nil)
  · exact (fun _ h => absurd h List.not_mem_nil)
  · intro n p κ r ds hd hr
    have hr0 := hr
    unfold impl_points_1_run impl_points_1_runG at hr
    split at hr
    · rw [← ds_of hd]
      exact ⟨en_of (impl_points_1_en _ _) ⟨rfl, rfl⟩, (impl_points_1_ev n _ _ κ).trans hr0⟩
    · cases hr

/-! slices.IndexFunc[[]loop.example/g01297/impl.Point,loop.example/g01297/impl.Point] -/
def slices_IndexFunc_impl_Point_impl_Point_1F_impl_points_1_sh : List SkD := [.sl 30 .pt, .fn 81 []]
def slices_IndexFunc_impl_Point_impl_Point_1F_impl_points_1_runG {α : Type} (F : T12 α) (n : Nat) (p : List P1) (κ : Res → Option α) : Option α := match p with
  | [.rows .pt s] => F n s (fun v1 => κ ⟨[.int .i64 v1], []⟩)
  | _ => none
def slices_IndexFunc_impl_Point_impl_Point_1F_impl_points_1_run {α : Type} (n : Nat) (p : List P1) (κ : Res → Option α) : Option α := slices_IndexFunc_impl_Point_impl_Point_1F_impl_points_1_runG slices_IndexFunc_impl_Point_impl_Point_1F_impl_points_1 n p κ
def slices_IndexFunc_impl_Point_impl_Point_1F_impl_points_1_CG {α : Type} (F0 : T11 α) (n : Nat) : FuncId → List D → (Res → Option α) → Option α := tabC [(81, (byShape impl_points_1_sh (impl_points_1_runG F0 n)))]
def slices_IndexFunc_impl_Point_impl_Point_1F_impl_points_1_C {α : Type} (n : Nat) : FuncId → List D → (Res → Option α) → Option α := slices_IndexFunc_impl_Point_impl_Point_1F_impl_points_1_CG impl_points_1 n
def slices_IndexFunc_impl_Point_impl_Point_1F_impl_points_1_M : FuncId → List Nat := tabM []
def slices_IndexFunc_impl_Point_impl_Point_1F_impl_points_1_t2 : Tpl := ⟨[.sl 0, .fn 81 [], .any, .any, .any, .any, .any, .int .i64, .int .i64, .any, .any, .any, .any, .any, .any, .any, .any, .any, .any], [(0, .rows 0 30 .pt)], []⟩
def slices_IndexFunc_impl_Point_impl_Point_1F_impl_points_1_uG2 {α : Type} (G : Nat → Int → Int → (List (Int × Int)) → (Int → Int → (List (Int × Int)) → Option α) → (Int → Option α) → Option α) (n : Nat) (p : List P1) (brk : Nat → List P1 → Option α) (ret : Res → Option α) : Option α := match p with
  | [.int x, .int x1, .rows .pt s1] => G n x x1 s1 (fun x x1 s1 => brk 0 [.int x, .int x1, .rows .pt s1]) (fun v1 => ret ⟨[.int .i64 v1], []⟩)
  | _ => none
def slices_IndexFunc_impl_Point_impl_Point_1F_impl_points_1_u2 {α : Type} (n : Nat) (p : List P1) (brk : Nat → List P1 → Option α) (ret : Res → Option α) : Option α := slices_IndexFunc_impl_Point_impl_Point_1F_impl_points_1_uG2 slices_IndexFunc_impl_Point_impl_Point_1F_impl_points_1_l2 n p brk ret
def slices_IndexFunc_impl_Point_impl_Point_1F_impl_points_1_lpsG {α : Type} (G2 : Nat → Int → Int → (List (Int × Int)) → (Int → Int → (List (Int × Int)) → Option α) → (Int → Option α) → Option α) : List (LoopT α) := [⟨2, slices_IndexFunc_impl_Point_impl_Point_1F_impl_points_1_t2, slices_IndexFunc_impl_Point_impl_Point_1F_impl_points_1_uG2 G2⟩]
def slices_IndexFunc_impl_Point_impl_Point_1F_impl_points_1_lps {α : Type} : List (LoopT α) := slices_IndexFunc_impl_Point_impl_Point_1F_impl_points_1_lpsG slices_IndexFunc_impl_Point_impl_Point_1F_impl_points_1_l2
def slices_IndexFunc_impl_Point_impl_Point_1F_impl_points_1_jt : Nat → Option Tpl := jtOf []
def slices_IndexFunc_impl_Point_impl_Point_1F_impl_points_1_XG {α : Type} (F0 : T11 α) (G2 : Nat → Int → Int → (List (Int × Int)) → (Int → Int → (List (Int × Int)) → Option α) → (Int → Option α) → Option α) (n : Nat) : Ctx α := ⟨slices_IndexFunc_impl_Point_impl_Point_1F_impl_points_1_CG F0 n, slices_IndexFunc_impl_Point_impl_Point_1F_impl_points_1_M, eqs, lpOf (slices_IndexFunc_impl_Point_impl_Point_1F_impl_points_1_lpsG G2) n, slices_IndexFunc_impl_Point_impl_Point_1F_impl_points_1_jt⟩
def slices_IndexFunc_impl_Point_impl_Point_1F_impl_points_1_X {α : Type} (n : Nat) : Ctx α := slices_IndexFunc_impl_Point_impl_Point_1F_impl_points_1_XG impl_points_1 slices_IndexFunc_impl_Point_impl_Point_1F_impl_points_1_l2 n
def slices_IndexFunc_impl_Point_impl_Point_1F_impl_points_1_Lt (np : Nat) (lent : List (Bool × Nat × Blk)) : Prop := np = 2 ∧ lent = []
def slices_IndexFunc_impl_Point_impl_Point_1F_impl_points_1_lb2 {α : Type} (F0 : T11 α) (G2 : Nat → Int → Int → (List (Int × Int)) → (Int → Int → (List (Int × Int)) → Option α) → (Int → Option α) → Option α) (k : Nat) (x : Int) (x1 : Int) (s1 : List (Int × Int)) (b0 : Int → Int → (List (Int × Int)) → Option α) (r0 : Int → Option α) : Option α :=
  bif decide (x1 < x) then
    bif (decide (0 ≤ x1) && decide (x1 < (((List.length s1) : Nat) : Int))) then
      (s1[x1.toNat]?).bind fun e_ =>
      F0 k e_.1 e_.2 fun v =>
      bif v then
        r0 x1
      else
        G2 k x (w64 (x1 + 1)) s1 b0 r0
    else
      none
  else
    b0 x x1 s1
theorem slices_IndexFunc_impl_Point_impl_Point_1F_impl_points_1_l2_gen {α : Type} (F0 : T11 α) (G2 : Nat → Int → Int → (List (Int × Int)) → (Int → Int → (List (Int × Int)) → Option α) → (Int → Option α) → Option α) (n : Nat) (x : Int) (x1 : Int) (s1 : List (Int × Int)) (brk : Nat → List P1 → Option α) (ret : Res → Option α) : ev ((slices_IndexFunc_impl_Point_impl_Point_1F_impl_points_1_XG F0 G2 n).env Try.prog Try.f90 2 []) (findLoop (loopsIn (Try.f90.body.getD .skip)) 2) ((slices_IndexFunc_impl_Point_impl_Point_1F_impl_points_1_t2.build [.int x, .int x1, .rows .pt s1]).getD ⟨[], []⟩) (roundK (2 * 64) slices_IndexFunc_impl_Point_impl_Point_1F_impl_points_1_t2 (fun q => slices_IndexFunc_impl_Point_impl_Point_1F_impl_points_1_uG2 G2 n q brk ret) brk ret) = slices_IndexFunc_impl_Point_impl_Point_1F_impl_points_1_lb2 F0 G2 n x x1 s1 (fun x x1 s1 => brk 0 [.int x, .int x1, .rows .pt s1]) (fun v1 => ret ⟨[.int .i64 v1], []⟩) := by kernel_rfl
theorem slices_IndexFunc_impl_Point_impl_Point_1F_impl_points_1_l2_eq {α : Type} (k : Nat) (x : Int) (x1 : Int) (s1 : List (Int × Int)) (b0 : Int → Int → (List (Int × Int)) → Option α) (r0 : Int → Option α) : slices_IndexFunc_impl_Point_impl_Point_1F_impl_points_1_lb2 impl_points_1 slices_IndexFunc_impl_Point_impl_Point_1F_impl_points_1_l2 k x x1 s1 b0 r0 = slices_IndexFunc_impl_Point_impl_Point_1F_impl_points_1_l2 (k + 1) x x1 s1 b0 r0 := (slices_IndexFunc_impl_Point_impl_Point_1F_impl_points_1_lb2.eq_1 impl_points_1 slices_IndexFunc_impl_Point_impl_Point_1F_impl_points_1_l2 k x x1 s1 b0 r0).trans (show slices_IndexFunc_impl_Point_impl_Point_1F_impl_points_1_l2 (k + 1) x x1 s1 b0 r0 = _ from slices_IndexFunc_impl_Point_impl_Point_1F_impl_points_1_l2.eq_2 _ _ _ _ _ _ ).symm
theorem slices_IndexFunc_impl_Point_impl_Point_1F_impl_points_1_l2_rn {α : Type} (G : Nat → Int → Int → (List (Int × Int)) → (Int → Int → (List (Int × Int)) → Option α) → (Int → Option α) → Option α) (n : Nat) (x : Int) (x1 : Int) (s1 : List (Int × Int)) (brk : Nat → List P1 → Option α) (ret : Res → Option α) : slices_IndexFunc_impl_Point_impl_Point_1F_impl_points_1_uG2 G n [.int x, .int x1, .rows .pt s1] brk ret = G n x x1 s1 (fun x x1 s1 => brk 0 [.int x, .int x1, .rows .pt s1]) (fun v1 => ret ⟨[.int .i64 v1], []⟩) := rfl
theorem slices_IndexFunc_impl_Point_impl_Point_1F_impl_points_1_l2_ev {α : Type} (n : Nat) (x : Int) (x1 : Int) (s1 : List (Int × Int)) (brk : Nat → List P1 → Option α) (ret : Res → Option α) : ev ((slices_IndexFunc_impl_Point_impl_Point_1F_impl_points_1_X n).env Try.prog Try.f90 2 []) (findLoop (loopsIn (Try.f90.body.getD .skip)) 2) ((slices_IndexFunc_impl_Point_impl_Point_1F_impl_points_1_t2.build [.int x, .int x1, .rows .pt s1]).getD ⟨[], []⟩) (roundK (2 * 64) slices_IndexFunc_impl_Point_impl_Point_1F_impl_points_1_t2 (fun q => slices_IndexFunc_impl_Point_impl_Point_1F_impl_points_1_u2 n q brk ret) brk ret) = slices_IndexFunc_impl_Point_impl_Point_1F_impl_points_1_u2 (n + 1) [.int x, .int x1, .rows .pt s1] brk ret := (slices_IndexFunc_impl_Point_impl_Point_1F_impl_points_1_l2_gen impl_points_1 slices_IndexFunc_impl_Point_impl_Point_1F_impl_points_1_l2 n x x1 s1 brk ret).trans ((slices_IndexFunc_impl_Point_impl_Point_1F_impl_points_1_l2_eq n x x1 s1 (fun x x1 s1 => brk 0 [.int x, .int x1, .rows .pt s1]) (fun v1 => ret ⟨[.int .i64 v1], []⟩)).trans ((slices_IndexFunc_impl_Point_impl_Point_1F_impl_points_1_u2.eq_1 (n + 1) [.int x, .int x1, .rows .pt s1] brk ret).trans (slices_IndexFunc_impl_Point_impl_Point_1F_impl_points_1_l2_rn slices_IndexFunc_impl_Point_impl_Point_1F_impl_points_1_l2 (n + 1) x x1 s1 brk ret)).symm)
def slices_IndexFunc_impl_Point_impl_Point_1F_impl_points_1_body {α : Type} (F0 : T11 α) (G2 : Nat → Int → Int → (List (Int × Int)) → (Int → Int → (List (Int × Int)) → Option α) → (Int → Option α) → Option α) (k : Nat) (s : List (Int × Int)) (r0 : Int → Option α) : Option α :=
  G2 k (((List.length s) : Nat) : Int) 0 s
    (fun _ _ _ =>
      r0 (-1))
    r0
theorem slices_IndexFunc_impl_Point_impl_Point_1F_impl_points_1_gen {α : Type} (F0 : T11 α) (G2 : Nat → Int → Int → (List (Int × Int)) → (Int → Int → (List (Int × Int)) → Option α) → (Int → Option α) → Option α) (n : Nat) (s : List (Int × Int)) (κ : Res → Option α) : evFn Try.prog (slices_IndexFunc_impl_Point_impl_Point_1F_impl_points_1_XG F0 G2 n) Try.f90 (((buildDs slices_IndexFunc_impl_Point_impl_Point_1F_impl_points_1_sh [.rows .pt s]).map Prod.fst).getD []) κ = slices_IndexFunc_impl_Point_impl_Point_1F_impl_points_1_body F0 G2 n s (fun v1 => κ ⟨[.int .i64 v1], []⟩) := by kernel_rfl
theorem slices_IndexFunc_impl_Point_impl_Point_1F_impl_points_1_eq {α : Type} (n : Nat) (s : List (Int × Int)) (r0 : Int → Option α) : slices_IndexFunc_impl_Point_impl_Point_1F_impl_points_1_body impl_points_1 slices_IndexFunc_impl_Point_impl_Point_1F_impl_points_1_l2 n s r0 = slices_IndexFunc_impl_Point_impl_Point_1F_impl_points_1 n s r0 := (slices_IndexFunc_impl_Point_impl_Point_1F_impl_points_1_body.eq_1 impl_points_1 slices_IndexFunc_impl_Point_impl_Point_1F_impl_points_1_l2 n s r0).trans (slices_IndexFunc_impl_Point_impl_Point_1F_impl_points_1.eq_1 n s r0).symm
theorem slices_IndexFunc_impl_Point_impl_Point_1F_impl_points_1_rn {α : Type} (F : T12 α) (n : Nat) (s : List (Int × Int)) (κ : Res → Option α) : slices_IndexFunc_impl_Point_impl_Point_1F_impl_points_1_runG F n [.rows .pt s] κ = F n s (fun v1 => κ ⟨[.int .i64 v1], []⟩) := rfl
theorem slices_IndexFunc_impl_Point_impl_Point_1F_impl_points_1_ev {α : Type} (n : Nat) (s : List (Int × Int)) (κ : Res → Option α) : evFn Try.prog (slices_IndexFunc_impl_Point_impl_Point_1F_impl_points_1_X n) Try.f90 (((buildDs slices_IndexFunc_impl_Point_impl_Point_1F_impl_points_1_sh [.rows .pt s]).map Prod.fst).getD []) κ = slices_IndexFunc_impl_Point_impl_Point_1F_impl_points_1_run n [.rows .pt s] κ := (slices_IndexFunc_impl_Point_impl_Point_1F_impl_points_1_gen impl_points_1 slices_IndexFunc_impl_Point_impl_Point_1F_impl_points_1_l2 n s κ).trans ((slices_IndexFunc_impl_Point_impl_Point_1F_impl_points_1_eq n s (fun v1 => κ ⟨[.int .i64 v1], []⟩)).trans ((slices_IndexFunc_impl_Point_impl_Point_1F_impl_points_1_run.eq_1 n [.rows .pt s] κ).trans (slices_IndexFunc_impl_Point_impl_Point_1F_impl_points_1_rn slices_IndexFunc_impl_Point_impl_Point_1F_impl_points_1 n s κ)).symm)
theorem slices_IndexFunc_impl_Point_impl_Point_1F_impl_points_1_en (s : List (Int × Int)) : (entry 0 (((buildDs slices_IndexFunc_impl_Point_impl_Point_1F_impl_points_1_sh [.rows .pt s]).map Prod.fst).getD [])).map (fun x => (x.1.length, x.2.lent)) = some (2, []) := by kernel_rfl
theorem slices_IndexFunc_impl_Point_impl_Point_1F_impl_points_1_good {α : Type} : ∀ n, GoodFn (α := α) Try.prog 90 (byShape slices_IndexFunc_impl_Point_impl_Point_1F_impl_points_1_sh (slices_IndexFunc_impl_Point_impl_Point_1F_impl_points_1_run n)) := by
  refine fn_good' Try.func90 (c := (Try.f90.body.getD .skip)) (by kernel_rfl) (by kernel_rfl) (by kernel_rfl) slices_IndexFunc_impl_Point_impl_Point_1F_impl_points_1_C slices_IndexFunc_impl_Point_impl_Point_1F_impl_points_1_M eqs slices_IndexFunc_impl_Point_impl_Point_1F_impl_points_1_lps slices_IndexFunc_impl_Point_impl_Point_1F_impl_points_1_jt (fun n => tabC_good (List.forall_mem_cons.2 ⟨(impl_points_1_good n), (fun _ h => absurd h List.not_mem_nil)⟩)) eqs_ok slices_IndexFunc_impl_Point_impl_Point_1F_impl_points_1_Lt ?_ ?_ slices_IndexFunc_impl_Point_impl_Point_1F_impl_points_1_sh slices_IndexFunc_impl_Point_impl_Point_1F_impl_points_1_run ?_
  · refine List.forall_mem_cons.2 ⟨?_, (fun _ h => absurd h List.not_mem_nil)⟩
    · intro p brk ret; show slices_IndexFunc_impl_Point_impl_Point_1F_impl_points_1_u2 0 p brk ret = none; unfold slices_IndexFunc_impl_Point_impl_Point_1F_impl_points_1_u2 slices_IndexFunc_impl_Point_impl_Point_1F_impl_points_1_uG2; split <;> rfl
  · refine List.forall_mem_cons.2 ⟨?_, (fun _ h => absurd h List.not_mem_nil)⟩
    · intro np lent hL n p brk ret st r hb hr
      obtain ⟨rfl, rfl⟩ := hL
      rw [← tpl_of hb]
      change slices_IndexFunc_impl_Point_impl_Point_1F_impl_points_1_u2 (n + 1) p brk ret = some r at hr
      have hr0 := hr
      unfold slices_IndexFunc_impl_Point_impl_Point_1F_impl_points_1_u2 slices_IndexFunc_impl_Point_impl_Point_1F_impl_points_1_uG2 at hr
      split at hr
      · exact (slices_IndexFunc_impl_Point_impl_Point_1F_impl_points_1_l2_ev n _ _ _ brk ret).trans hr0
      · cases hr
  · intro n p κ r ds hd hr
    have hr0 := hr
    unfold slices_IndexFunc_impl_Point_impl_Point_1F_impl_points_1_run slices_IndexFunc_impl_Point_impl_Point_1F_impl_points_1_runG at hr
    split at hr
    · rw [← ds_of hd]
      exact ⟨en_of (slices_IndexFunc_impl_Point_impl_Point_1F_impl_points_1_en _) ⟨rfl, rfl⟩, (slices_IndexFunc_impl_Point_impl_Point_1F_impl_points_1_ev n _ κ).trans hr0⟩
    · cases hr

/-! slices.ContainsFunc[[]loop.example/g01297/impl.Point,loop.example/g01297/impl.Point] -/
def slices_ContainsFunc_impl_Point_impl_Point_1F_impl_points_1_sh : List SkD := [.sl 30 .pt, .fn 81 []]
def slices_ContainsFunc_impl_Point_impl_Point_1F_impl_points_1_runG {α : Type} (F : T13 α) (n : Nat) (p : List P1) (κ : Res → Option α) : Option α := match p with
  | [.rows .pt s] => F n s (fun v1 => κ ⟨[.bool v1], []⟩)
  | _ => none
def slices_ContainsFunc_impl_Point_impl_Point_1F_impl_points_1_run {α : Type} (n : Nat) (p : List P1) (κ : Res → Option α) : Option α := slices_ContainsFunc_impl_Point_impl_Point_1F_impl_points_1_runG slices_ContainsFunc_impl_Point_impl_Point_1F_impl_points_1 n p κ
def slices_ContainsFunc_impl_Point_impl_Point_1F_impl_points_1_CG {α : Type} (F0 : T12 α) (n : Nat) : FuncId → List D → (Res → Option α) → Option α := tabC [(90, (byShape slices_IndexFunc_impl_Point_impl_Point_1F_impl_points_1_sh (slices_IndexFunc_impl_Point_impl_Point_1F_impl_points_1_runG F0 n)))]
def slices_ContainsFunc_impl_Point_impl_Point_1F_impl_points_1_C {α : Type} (n : Nat) : FuncId → List D → (Res → Option α) → Option α := slices_ContainsFunc_impl_Point_impl_Point_1F_impl_points_1_CG slices_IndexFunc_impl_Point_impl_Point_1F_impl_points_1 n
def slices_ContainsFunc_impl_Point_impl_Point_1F_impl_points_1_M : FuncId → List Nat := tabM []
def slices_ContainsFunc_impl_Point_impl_Point_1F_impl_points_1_lpsG {α : Type}  : List (LoopT α) := []
def slices_ContainsFunc_impl_Point_impl_Point_1F_impl_points_1_lps {α : Type} : List (LoopT α) := slices_ContainsFunc_impl_Point_impl_Point_1F_impl_points_1_lpsG
def slices_ContainsFunc_impl_Point_impl_Point_1F_impl_points_1_jt : Nat → Option Tpl := jtOf []
def slices_ContainsFunc_impl_Point_impl_Point_1F_impl_points_1_XG {α : Type} (F0 : T12 α)  (n : Nat) : Ctx α := ⟨slices_ContainsFunc_impl_Point_impl_Point_1F_impl_points_1_CG F0 n, slices_ContainsFunc_impl_Point_impl_Point_1F_impl_points_1_M, eqs, lpOf (slices_ContainsFunc_impl_Point_impl_Point_1F_impl_points_1_lpsG) n, slices_ContainsFunc_impl_Point_impl_Point_1F_impl_points_1_jt⟩
def slices_ContainsFunc_impl_Point_impl_Point_1F_impl_points_1_X {α : Type} (n : Nat) : Ctx α := slices_ContainsFunc_impl_Point_impl_Point_1F_impl_points_1_XG slices_IndexFunc_impl_Point_impl_Point_1F_impl_points_1 n
def slices_ContainsFunc_impl_Point_impl_Point_1F_impl_points_1_Lt (np : Nat) (lent : List (Bool × Nat × Blk)) : Prop := np = 2 ∧ lent = []
def slices_ContainsFunc_impl_Point_impl_Point_1F_impl_points_1_body {α : Type} (F0 : T12 α)  (k : Nat) (s : List (Int × Int)) (r0 : Bool → Option α) : Option α :=
  F0 k s fun v =>
  r0 (decide (0 ≤ v))
theorem slices_ContainsFunc_impl_Point_impl_Point_1F_impl_points_1_gen {α : Type} (F0 : T12 α)  (n : Nat) (s : List (Int × Int)) (κ : Res → Option α) : evFn Try.prog (slices_ContainsFunc_impl_Point_impl_Point_1F_impl_points_1_XG F0 n) Try.f80 (((buildDs slices_ContainsFunc_impl_Point_impl_Point_1F_impl_points_1_sh [.rows .pt s]).map Prod.fst).getD []) κ = slices_ContainsFunc_impl_Point_impl_Point_1F_impl_points_1_body F0 n s (fun v1 => κ ⟨[.bool v1], []⟩) := by kernel_rfl
theorem slices_ContainsFunc_impl_Point_impl_Point_1F_impl_points_1_eq {α : Type} (n : Nat) (s : List (Int × Int)) (r0 : Bool → Option α) : slices_ContainsFunc_impl_Point_impl_Point_1F_impl_points_1_body slices_IndexFunc_impl_Point_impl_Point_1F_impl_points_1 n s r0 = slices_ContainsFunc_impl_Point_impl_Point_1F_impl_points_1 n s r0 := (slices_ContainsFunc_impl_Point_impl_Point_1F_impl_points_1_body.eq_1 slices_IndexFunc_impl_Point_impl_Point_1F_impl_points_1 n s r0).trans (slices_ContainsFunc_impl_Point_impl_Point_1F_impl_points_1.eq_1 n s r0).symm
theorem slices_ContainsFunc_impl_Point_impl_Point_1F_impl_points_1_rn {α : Type} (F : T13 α) (n : Nat) (s : List (Int × Int)) (κ : Res → Option α) : slices_ContainsFunc_impl_Point_impl_Point_1F_impl_points_1_runG F n [.rows .pt s] κ = F n s (fun v1 => κ ⟨[.bool v1], []⟩) := rfl
theorem slices_ContainsFunc_impl_Point_impl_Point_1F_impl_points_1_ev {α : Type} (n : Nat) (s : List (Int × Int)) (κ : Res → Option α) : evFn Try.prog (slices_ContainsFunc_impl_Point_impl_Point_1F_impl_points_1_X n) Try.f80 (((buildDs slices_ContainsFunc_impl_Point_impl_Point_1F_impl_points_1_sh [.rows .pt s]).map Prod.fst).getD []) κ = slices_ContainsFunc_impl_Point_impl_Point_1F_impl_points_1_run n [.rows .pt s] κ := (slices_ContainsFunc_impl_Point_impl_Point_1F_impl_points_1_gen slices_IndexFunc_impl_Point_impl_Point_1F_impl_points_1 n s κ).trans ((slices_ContainsFunc_impl_Point_impl_Point_1F_impl_points_1_eq n s (fun v1 => κ ⟨[.bool v1], []⟩)).trans ((slices_ContainsFunc_impl_Point_impl_Point_1F_impl_points_1_run.eq_1 n [.rows .pt s] κ).trans (slices_ContainsFunc_impl_Point_impl_Point_1F_impl_points_1_rn slices_ContainsFunc_impl_Point_impl_Point_1F_impl_points_1 n s κ)).symm)
theorem slices_ContainsFunc_impl_Point_impl_Point_1F_impl_points_1_en (s : List (Int × Int)) : (entry 0 (((buildDs slices_ContainsFunc_impl_Point_impl_Point_1F_impl_points_1_sh [.rows .pt s]).map Prod.fst).getD [])).map (fun x => (x.1.length, x.2.lent)) = some (2, []) := by kernel_rfl
theorem slices_ContainsFunc_impl_Point_impl_Point_1F_impl_points_1_good {α : Type} : ∀ n, GoodFn (α := α) Try.prog 80 (byShape slices_ContainsFunc_impl_Point_impl_Point_1F_impl_points_1_sh (slices_ContainsFunc_impl_Point_impl_Point_1F_impl_points_1_run n)) := by
  refine fn_good' Try.func80 (c := (Try.f80.body.getD .skip)) (by kernel_rfl) (by kernel_rfl) (by kernel_rfl) slices_ContainsFunc_impl_Point_impl_Point_1F_impl_points_1_C slices_ContainsFunc_impl_Point_impl_Point_1F_impl_points_1_M eqs slices_ContainsFunc_impl_Point_impl_Point_1F_impl_points_1_lps slices_ContainsFunc_impl_Point_impl_Point_1F_impl_points_1_jt (fun n => tabC_good (List.forall_mem_cons.2 ⟨(slices_IndexFunc_impl_Point_impl_Point_1F_impl_points_1_good n), (fun _ h => absurd h List.not_mem_nil)⟩)) eqs_ok slices_ContainsFunc_impl_Point_impl_Point_1F_impl_points_1_Lt ?_ ?_ slices_ContainsFunc_impl_Point_impl_Point_1F_impl_points_1_sh slices_ContainsFunc_impl_Point_impl_Point_1F_impl_points_1_run ?_
  · exact (fun _ h => absurd h List.not_mem_nil)
  · exact (fun _ h => absurd h List.not_mem_nil)
  · intro n p κ r ds hd hr
    have hr0 := hr
    unfold slices_ContainsFunc_impl_Point_impl_Point_1F_impl_points_1_run slices_ContainsFunc_impl_Point_impl_Point_1F_impl_points_1_runG at hr
    split at hr
    · rw [← ds_of hd]
      exact ⟨en_of (slices_ContainsFunc_impl_Point_impl_Point_1F_impl_points_1_en _) ⟨rfl, rfl⟩, (slices_ContainsFunc_impl_Point_impl_Point_1F_impl_points_1_ev n _ κ).trans hr0⟩
    · cases hr

/-! loop.example/g01297/impl.points -/
def impl_points_sh : List SkD := [.sl 30 .pt]
def impl_points_runG {α : Type} (F : T13 α) (n : Nat) (p : List P1) (κ : Res → Option α) : Option α := match p with
  | [.rows .pt list] => F n list (fun v1 => κ ⟨[.bool v1], []⟩)
  | _ => none
def impl_points_run {α : Type} (n : Nat) (p : List P1) (κ : Res → Option α) : Option α := impl_points_runG impl_points n p κ
def impl_points_CG {α : Type} (F0 : T13 α) (n : Nat) : FuncId → List D → (Res → Option α) → Option α := tabC [(80, (byShape slices_ContainsFunc_impl_Point_impl_Point_1F_impl_points_1_sh (slices_ContainsFunc_impl_Point_impl_Point_1F_impl_points_1_runG F0 n)))]
def impl_points_C {α : Type} (n : Nat) : FuncId → List D → (Res → Option α) → Option α := impl_points_CG slices_ContainsFunc_impl_Point_impl_Point_1F_impl_points_1 n
def impl_points_M : FuncId → List Nat := tabM []
def impl_points_lpsG {α : Type}  : List (LoopT α) := []
def impl_points_lps {α : Type} : List (LoopT α) := impl_points_lpsG
def impl_points_jt : Nat → Option Tpl := jtOf []
def impl_points_XG {α : Type} (F0 : T13 α)  (n : Nat) : Ctx α := ⟨impl_points_CG F0 n, impl_points_M, eqs, lpOf (impl_points_lpsG) n, impl_points_jt⟩
def impl_points_X {α : Type} (n : Nat) : Ctx α := impl_points_XG slices_ContainsFunc_impl_Point_impl_Point_1F_impl_points_1 n
def impl_points_Lt (np : Nat) (lent : List (Bool × Nat × Blk)) : Prop := np = 1 ∧ lent = []
def impl_points_body {α : Type} (F0 : T13 α)  (k : Nat) (list : List (Int × Int)) (r0 : Bool → Option α) : Option α :=
  F0 k list fun v =>
  r0 (!v)
theorem impl_points_gen {α : Type} (F0 : T13 α)  (n : Nat) (list : List (Int × Int)) (κ : Res → Option α) : evFn Try.prog (impl_points_XG F0 n) Try.f44 (((buildDs impl_points_sh [.rows .pt list]).map Prod.fst).getD []) κ = impl_points_body F0 n list (fun v1 => κ ⟨[.bool v1], []⟩) := by kernel_rfl
theorem impl_points_eq {α : Type} (n : Nat) (list : List (Int × Int)) (r0 : Bool → Option α) : impl_points_body slices_ContainsFunc_impl_Point_impl_Point_1F_impl_points_1 n list r0 = impl_points n list r0 := (impl_points_body.eq_1 slices_ContainsFunc_impl_Point_impl_Point_1F_impl_points_1 n list r0).trans (impl_points.eq_1 n list r0).symm
theorem impl_points_rn {α : Type} (F : T13 α) (n : Nat) (list : List (Int × Int)) (κ : Res → Option α) : impl_points_runG F n [.rows .pt list] κ = F n list (fun v1 => κ ⟨[.bool v1], []⟩) := rfl
theorem impl_points_ev {α : Type} (n : Nat) (list : List (Int × Int)) (κ : Res → Option α) : evFn Try.prog (impl_points_X n) Try.f44 (((buildDs impl_points_sh [.rows .pt list]).map Prod.fst).getD []) κ = impl_points_run n [.rows .pt list] κ := (impl_points_gen slices_ContainsFunc_impl_Point_impl_Point_1F_impl_points_1 n list κ).trans ((impl_points_eq n list (fun v1 => κ ⟨[.bool v1], []⟩)).trans ((impl_points_run.eq_1 n [.rows .pt list] κ).trans (impl_points_rn impl_points n list κ)).symm)
theorem impl_points_en (list : List (Int × Int)) : (entry 0 (((buildDs impl_points_sh [.rows .pt list]).map Prod.fst).getD [])).map (fun x => (x.1.length, x.2.lent)) = some (1, []) := by kernel_rfl
theorem impl_points_good {α : Type} : ∀ n, GoodFn (α := α) Try.prog 44 (byShape impl_points_sh (impl_points_run n)) := by
  refine fn_good' Try.func44 (c := (Try.f44.body.getD .skip)) (by kernel_rfl) (by kernel_rfl) (by kernel_rfl) impl_points_C impl_points_M eqs impl_points_lps impl_points_jt (fun n => tabC_good (List.forall_mem_cons.2 ⟨(slices_ContainsFunc_impl_Point_impl_Point_1F_impl_points_1_good n), (fun _ h => absurd h List.not_mem_nil)⟩)) eqs_ok impl_points_Lt ?_ ?_ impl_points_sh impl_points_run ?_
  · exact (fun _ h => absurd h List.not_mem_nil)
  · exact (fun _ h => absurd h List.not_mem_nil)
  · intro n p κ r ds hd hr
    have hr0 := hr
    unfold impl_points_run impl_points_runG at hr
    split at hr
    · rw [← ds_of hd]
      exact ⟨en_of (impl_points_en _) ⟨rfl, rfl⟩, (impl_points_ev n _ κ).trans hr0⟩
    · cases hr

/-! loop.example/g01297/impl.IsMatrix -/
def impl_IsMatrix_sh : List SkD := [.agg [.int .i64, .int .i64, .int .i64, .int .i64]]
def impl_IsMatrix_runG {α : Type} (F : T14 α) (n : Nat) (p : List P1) (κ : Res → Option α) : Option α := match p with
  | [.int m, .int m1, .int m2, .int m3] => F n m m1 m2 m3 (fun v1 => κ ⟨[.bool v1], []⟩)
  | _ => none
def impl_IsMatrix_run {α : Type} (n : Nat) (p : List P1) (κ : Res → Option α) : Option α := impl_IsMatrix_runG impl_IsMatrix n p κ
def impl_IsMatrix_CG {α : Type} (F0 : T13 α) (n : Nat) : FuncId → List D → (Res → Option α) → Option α := tabC [(44, (byShape impl_points_sh (impl_points_runG F0 n)))]
def impl_IsMatrix_C {α : Type} (n : Nat) : FuncId → List D → (Res → Option α) → Option α := impl_IsMatrix_CG impl_points n
def impl_IsMatrix_M : FuncId → List Nat := tabM []
def impl_IsMatrix_lpsG {α : Type}  : List (LoopT α) := []
def impl_IsMatrix_lps {α : Type} : List (LoopT α) := impl_IsMatrix_lpsG
def impl_IsMatrix_jt : Nat → Option Tpl := jtOf []
def impl_IsMatrix_XG {α : Type} (F0 : T13 α)  (n : Nat) : Ctx α := ⟨impl_IsMatrix_CG F0 n, impl_IsMatrix_M, eqs, lpOf (impl_IsMatrix_lpsG) n, impl_IsMatrix_jt⟩
def impl_IsMatrix_X {α : Type} (n : Nat) : Ctx α := impl_IsMatrix_XG impl_points n
def impl_IsMatrix_Lt (np : Nat) (lent : List (Bool × Nat × Blk)) : Prop := np = 1 ∧ lent = []
def impl_IsMatrix_body {α : Type} (F0 : T13 α)  (k : Nat) (m : Int) (m1 : Int) (m2 : Int) (m3 : Int) (r0 : Bool → Option α) : Option α :=
  F0 k [(m, m1), (m2, m3)] fun v =>
  r0 v
theorem impl_IsMatrix_gen {α : Type} (F0 : T13 α)  (n : Nat) (m : Int) (m1 : Int) (m2 : Int) (m3 : Int) (κ : Res → Option α) : evFn Try.prog (impl_IsMatrix_XG F0 n) Try.f11 (((buildDs impl_IsMatrix_sh [.int m, .int m1, .int m2, .int m3]).map Prod.fst).getD []) κ = impl_IsMatrix_body F0 n m m1 m2 m3 (fun v1 => κ ⟨[.bool v1], []⟩) := by kernel_rfl
theorem impl_IsMatrix_eq {α : Type} (n : Nat) (m : Int) (m1 : Int) (m2 : Int) (m3 : Int) (r0 : Bool → Option α) : impl_IsMatrix_body impl_points n m m1 m2 m3 r0 = impl_IsMatrix n m m1 m2 m3 r0 := (impl_IsMatrix_body.eq_1 impl_points n m m1 m2 m3 r0).trans (impl_IsMatrix.eq_1 n m m1 m2 m3 r0).symm
theorem impl_IsMatrix_rn {α : Type} (F : T14 α) (n : Nat) (m : Int) (m1 : Int) (m2 : Int) (m3 : Int) (κ : Res → Option α) : impl_IsMatrix_runG F n [.int m, .int m1, .int m2, .int m3] κ = F n m m1 m2 m3 (fun v1 => κ ⟨[.bool v1], []⟩) := rfl
theorem impl_IsMatrix_ev {α : Type} (n : Nat) (m : Int) (m1 : Int) (m2 : Int) (m3 : Int) (κ : Res → Option α) : evFn Try.prog (impl_IsMatrix_X n) Try.f11 (((buildDs impl_IsMatrix_sh [.int m, .int m1, .int m2, .int m3]).map Prod.fst).getD []) κ = impl_IsMatrix_run n [.int m, .int m1, .int m2, .int m3] κ := (impl_IsMatrix_gen impl_points n m m1 m2 m3 κ).trans ((impl_IsMatrix_eq n m m1 m2 m3 (fun v1 => κ ⟨[.bool v1], []⟩)).trans ((impl_IsMatrix_run.eq_1 n [.int m, .int m1, .int m2, .int m3] κ).trans (impl_IsMatrix_rn impl_IsMatrix n m m1 m2 m3 κ)).symm)
theorem impl_IsMatrix_en (m : Int) (m1 : Int) (m2 : Int) (m3 : Int) : (entry 0 (((buildDs impl_IsMatrix_sh [.int m, .int m1, .int m2, .int m3]).map Prod.fst).getD [])).map (fun x => (x.1.length, x.2.lent)) = some (1, []) := by kernel_rfl
theorem impl_IsMatrix_good {α : Type} : ∀ n, GoodFn (α := α) Try.prog 11 (byShape impl_IsMatrix_sh (impl_IsMatrix_run n)) := by
  refine fn_good' Try.func11 (c := (Try.f11.body.getD .skip)) (by kernel_rfl) (by kernel_rfl) (by kernel_rfl) impl_IsMatrix_C impl_IsMatrix_M eqs impl_IsMatrix_lps impl_IsMatrix_jt (fun n => tabC_good (List.forall_mem_cons.2 ⟨(impl_points_good n), (fun _ h => absurd h List.not_mem_nil)⟩)) eqs_ok impl_IsMatrix_Lt ?_ ?_ impl_IsMatrix_sh impl_IsMatrix_run ?_
  · exact (fun _ h => absurd h List.not_mem_nil)
  · exact (fun _ h => absurd h List.not_mem_nil)
  · intro n p κ r ds hd hr
    have hr0 := hr
    unfold impl_IsMatrix_run impl_IsMatrix_runG at hr
    split at hr
    · rw [← ds_of hd]
      exact ⟨en_of (impl_IsMatrix_en _ _ _ _) ⟨rfl, rfl⟩, (impl_IsMatrix_ev n _ _ _ _ κ).trans hr0⟩
    · cases hr

/-! loop.example/g01297/impl.det -/
def impl_det_sh : List SkD := [.agg [.int .i64, .int .i64], .agg [.int .i64, .int .i64]]
def impl_det_runG {α : Type} (F : T15 α) (n : Nat) (p : List P1) (κ : Res → Option α) : Option α := match p with
  | [.int a, .int a1, .int b_, .int b_1] => F n a a1 b_ b_1 (fun v1 => κ ⟨[.int .i64 v1], []⟩)
  | _ => none
def impl_det_run {α : Type} (n : Nat) (p : List P1) (κ : Res → Option α) : Option α := impl_det_runG impl_det n p κ
def impl_det_CG {α : Type}  (n : Nat) : FuncId → List D → (Res → Option α) → Option α := tabC []
def impl_det_C {α : Type} (n : Nat) : FuncId → List D → (Res → Option α) → Option α := impl_det_CG n
def impl_det_M : FuncId → List Nat := tabM []
def impl_det_lpsG {α : Type}  : List (LoopT α) := []
def impl_det_lps {α : Type} : List (LoopT α) := impl_det_lpsG
def impl_det_jt : Nat → Option Tpl := jtOf []
def impl_det_XG {α : Type}   (n : Nat) : Ctx α := ⟨impl_det_CG n, impl_det_M, eqs, lpOf (impl_det_lpsG) n, impl_det_jt⟩
def impl_det_X {α : Type} (n : Nat) : Ctx α := impl_det_XG n
def impl_det_Lt (np : Nat) (lent : List (Bool × Nat × Blk)) : Prop := np = 2 ∧ lent = []
def impl_det_body {α : Type}   (k : Nat) (a : Int) (a1 : Int) (b_ : Int) (b_1 : Int) (r0 : Int → Option α) : Option α :=
  r0 (w64 ((w64 (a * b_1)) - (w64 (a1 * b_))))
theorem impl_det_gen {α : Type}   (n : Nat) (a : Int) (a1 : Int) (b_ : Int) (b_1 : Int) (κ : Res → Option α) : evFn Try.prog (impl_det_XG n) Try.f63 (((buildDs impl_det_sh [.int a, .int a1, .int b_, .int b_1]).map Prod.fst).getD []) κ = impl_det_body n a a1 b_ b_1 (fun v1 => κ ⟨[.int .i64 v1], []⟩) := by kernel_rfl
theorem impl_det_eq {α : Type} (n : Nat) (a : Int) (a1 : Int) (b_ : Int) (b_1 : Int) (r0 : Int → Option α) : impl_det_body n a a1 b_ b_1 r0 = impl_det n a a1 b_ b_1 r0 := (impl_det_body.eq_1 n a a1 b_ b_1 r0).trans (impl_det.eq_1 n a a1 b_ b_1 r0).symm
theorem impl_det_rn {α : Type} (F : T15 α) (n : Nat) (a : Int) (a1 : Int) (b_ : Int) (b_1 : Int) (κ : Res → Option α) : impl_det_runG F n [.int a, .int a1, .int b_, .int b_1] κ = F n a a1 b_ b_1 (fun v1 => κ ⟨[.int .i64 v1], []⟩) := rfl
theorem impl_det_ev {α : Type} (n : Nat) (a : Int) (a1 : Int) (b_ : Int) (b_1 : Int) (κ : Res → Option α) : evFn Try.prog (impl_det_X n) Try.f63 (((buildDs impl_det_sh [.int a, .int a1, .int b_, .int b_1]).map Prod.fst).getD []) κ = impl_det_run n [.int a, .int a1, .int b_, .int b_1] κ := (impl_det_gen n a a1 b_ b_1 κ).trans ((impl_det_eq n a a1 b_ b_1 (fun v1 => κ ⟨[.int .i64 v1], []⟩)).trans ((impl_det_run.eq_1 n [.int a, .int a1, .int b_, .int b_1] κ).trans (impl_det_rn impl_det n a a1 b_ b_1 κ)).symm)
theorem impl_det_en (a : Int) (a1 : Int) (b_ : Int) (b_1 : Int) : (entry 0 (((buildDs impl_det_sh [.int a, .int a1, .int b_, .int b_1]).map Prod.fst).getD [])).map (fun x => (x.1.length, x.2.lent)) = some (2, []) := by kernel_rfl
theorem impl_det_good {α : Type} : ∀ n, GoodFn (α := α) Try.prog 63 (byShape impl_det_sh (impl_det_run n)) := by
  refine fn_good' Try.func63 (c := (Try.f63.body.getD .skip)) (by kernel_rfl) (by kernel_rfl) (by kernel_rfl) impl_det_C impl_det_M eqs impl_det_lps impl_det_jt (fun n => tabC_good (fun _ h => absurd h List.not_mem_nil)) eqs_ok impl_det_Lt ?_ ?_ impl_det_sh impl_det_run ?_
  · exact (fun _ h => absurd h List.not_mem_nil)
  · exact (fun _ h => absurd h List.not_mem_nil)
  · intro n p κ r ds hd hr
    have hr0 := hr
    unfold impl_det_run impl_det_runG at hr
    split at hr
    · rw [← ds_of hd]
      exact ⟨en_of (impl_det_en _ _ _ _) ⟨rfl, rfl⟩, (impl_det_ev n _ _ _ _ κ).trans hr0⟩
    · cases hr

/-! (loop.example/g01297/impl.Matrix).det -/
def impl_Matrix_det_sh : List SkD := [.agg [.int .i64, .int .i64, .int .i64, .int .i64]]
def impl_Matrix_det_runG {α : Type} (F : T15 α) (n : Nat) (p : List P1) (κ : Res → Option α) : Option α := match p with
  | [.int m, .int m1, .int m2, .int m3] => F n m m1 m2 m3 (fun v1 => κ ⟨[.int .i64 v1], []⟩)
  | _ => none
def impl_Matrix_det_run {α : Type} (n : Nat) (p : List P1) (κ : Res → Option α) : Option α := impl_Matrix_det_runG impl_Matrix_det n p κ
def impl_Matrix_det_CG {α : Type} (F0 : T15 α) (n : Nat) : FuncId → List D → (Res → Option α) → Option α := tabC [(63, (byShape impl_det_sh (impl_det_runG F0 n)))]
def impl_Matrix_det_C {α : Type} (n : Nat) : FuncId → List D → (Res → Option α) → Option α := impl_Matrix_det_CG impl_det n
def impl_Matrix_det_M : FuncId → List Nat := tabM []
def impl_Matrix_det_lpsG {α : Type}  : List (LoopT α) := []
def impl_Matrix_det_lps {α : Type} : List (LoopT α) := impl_Matrix_det_lpsG
def impl_Matrix_det_jt : Nat → Option Tpl := jtOf []
def impl_Matrix_det_XG {α : Type} (F0 : T15 α)  (n : Nat) : Ctx α := ⟨impl_Matrix_det_CG F0 n, impl_Matrix_det_M, eqs, lpOf (impl_Matrix_det_lpsG) n, impl_Matrix_det_jt⟩
def impl_Matrix_det_X {α : Type} (n : Nat) : Ctx α := impl_Matrix_det_XG impl_det n
def impl_Matrix_det_Lt (np : Nat) (lent : List (Bool × Nat × Blk)) : Prop := np = 1 ∧ lent = []
def impl_Matrix_det_body {α : Type} (F0 : T15 α)  (k : Nat) (m : Int) (m1 : Int) (m2 : Int) (m3 : Int) (r0 : Int → Option α) : Option α :=
  F0 k m m1 m2 m3 fun v =>
  r0 v
theorem impl_Matrix_det_gen {α : Type} (F0 : T15 α)  (n : Nat) (m : Int) (m1 : Int) (m2 : Int) (m3 : Int) (κ : Res → Option α) : evFn Try.prog (impl_Matrix_det_XG F0 n) Try.f78 (((buildDs impl_Matrix_det_sh [.int m, .int m1, .int m2, .int m3]).map Prod.fst).getD []) κ = impl_Matrix_det_body F0 n m m1 m2 m3 (fun v1 => κ ⟨[.int .i64 v1], []⟩) := by kernel_rfl
theorem impl_Matrix_det_eq {α : Type} (n : Nat) (m : Int) (m1 : Int) (m2 : Int) (m3 : Int) (r0 : Int → Option α) : impl_Matrix_det_body impl_det n m m1 m2 m3 r0 = impl_Matrix_det n m m1 m2 m3 r0 := (impl_Matrix_det_body.eq_1 impl_det n m m1 m2 m3 r0).trans (impl_Matrix_det.eq_1 n m m1 m2 m3 r0).symm
theorem impl_Matrix_det_rn {α : Type} (F : T15 α) (n : Nat) (m : Int) (m1 : Int) (m2 : Int) (m3 : Int) (κ : Res → Option α) : impl_Matrix_det_runG F n [.int m, .int m1, .int m2, .int m3] κ = F n m m1 m2 m3 (fun v1 => κ ⟨[.int .i64 v1], []⟩) := rfl
theorem impl_Matrix_det_ev {α : Type} (n : Nat) (m : Int) (m1 : Int) (m2 : Int) (m3 : Int) (κ : Res → Option α) : evFn Try.prog (impl_Matrix_det_X n) Try.f78 (((buildDs impl_Matrix_det_sh [.int m, .int m1, .int m2, .int m3]).map Prod.fst).getD []) κ = impl_Matrix_det_run n [.int m, .int m1, .int m2, .int m3] κ := (impl_Matrix_det_gen impl_det n m m1 m2 m3 κ).trans ((impl_Matrix_det_eq n m m1 m2 m3 (fun v1 => κ ⟨[.int .i64 v1], []⟩)).trans ((impl_Matrix_det_run.eq_1 n [.int m, .int m1, .int m2, .int m3] κ).trans (impl_Matrix_det_rn impl_Matrix_det n m m1 m2 m3 κ)).symm)
theorem impl_Matrix_det_en (m : Int) (m1 : Int) (m2 : Int) (m3 : Int) : (entry 0 (((buildDs impl_Matrix_det_sh [.int m, .int m1, .int m2, .int m3]).map Prod.fst).getD [])).map (fun x => (x.1.length, x.2.lent)) = some (1, []) := by kernel_rfl
theorem impl_Matrix_det_good {α : Type} : ∀ n, GoodFn (α := α) Try.prog 78 (byShape impl_Matrix_det_sh (impl_Matrix_det_run n)) := by
  refine fn_good' Try.func78 (c := (Try.f78.body.getD .skip)) (by kernel_rfl) (by kernel_rfl) (by kernel_rfl) impl_Matrix_det_C impl_Matrix_det_M eqs impl_Matrix_det_lps impl_Matrix_det_jt (fun n => tabC_good (List.forall_mem_cons.2 ⟨(impl_det_good n), (fun _ h => absurd h List.not_mem_nil)⟩)) eqs_ok impl_Matrix_det_Lt ?_ ?_ impl_Matrix_det_sh impl_Matrix_det_run ?_
  · exact (fun _ h => absurd h List.not_mem_nil)
  · exact (fun _ h => absurd h List.not_mem_nil)
  · intro n p κ r ds hd hr
    have hr0 := hr
    unfold impl_Matrix_det_run impl_Matrix_det_runG at hr
    split at hr
    · rw [← ds_of hd]
      exact ⟨en_of (impl_Matrix_det_en _ _ _ _) ⟨rfl, rfl⟩, (impl_Matrix_det_ev n _ _ _ _ κ).trans hr0⟩
    · cases hr

/-! loop.example/g01297/impl.size -/
def impl_size_sh : List SkD := [.int .i64]
def impl_size_runG {α : Type} (F : T16 α) (n : Nat) (p : List P1) (κ : Res → Option α) : Option α := match p with
  | [.int n_] => F n n_ (fun v1 => κ ⟨[.int .i64 v1], []⟩)
  | _ => none
def impl_size_run {α : Type} (n : Nat) (p : List P1) (κ : Res → Option α) : Option α := impl_size_runG impl_size n p κ
def impl_size_CG {α : Type}  (n : Nat) : FuncId → List D → (Res → Option α) → Option α := tabC []
def impl_size_C {α : Type} (n : Nat) : FuncId → List D → (Res → Option α) → Option α := impl_size_CG n
def impl_size_M : FuncId → List Nat := tabM []
def impl_size_lpsG {α : Type}  : List (LoopT α) := []
def impl_size_lps {α : Type} : List (LoopT α) := impl_size_lpsG
def impl_size_jt : Nat → Option Tpl := jtOf []
def impl_size_XG {α : Type}   (n : Nat) : Ctx α := ⟨impl_size_CG n, impl_size_M, eqs, lpOf (impl_size_lpsG) n, impl_size_jt⟩
def impl_size_X {α : Type} (n : Nat) : Ctx α := impl_size_XG n
def impl_size_Lt (np : Nat) (lent : List (Bool × Nat × Blk)) : Prop := np = 1 ∧ lent = []
def impl_size_body {α : Type}   (k : Nat) (n_ : Int) (r0 : Int → Option α) : Option α :=
  r0 (max n_ (w64 (0 - n_)))
theorem impl_size_gen {α : Type}   (n : Nat) (n_ : Int) (κ : Res → Option α) : evFn Try.prog (impl_size_XG n) Try.f77 (((buildDs impl_size_sh [.int n_]).map Prod.fst).getD []) κ = impl_size_body n n_ (fun v1 => κ ⟨[.int .i64 v1], []⟩) := by kernel_rfl
theorem impl_size_eq {α : Type} (n : Nat) (n_ : Int) (r0 : Int → Option α) : impl_size_body n n_ r0 = impl_size n n_ r0 := (impl_size_body.eq_1 n n_ r0).trans (impl_size.eq_1 n n_ r0).symm
theorem impl_size_rn {α : Type} (F : T16 α) (n : Nat) (n_ : Int) (κ : Res → Option α) : impl_size_runG F n [.int n_] κ = F n n_ (fun v1 => κ ⟨[.int .i64 v1], []⟩) := rfl
theorem impl_size_ev {α : Type} (n : Nat) (n_ : Int) (κ : Res → Option α) : evFn Try.prog (impl_size_X n) Try.f77 (((buildDs impl_size_sh [.int n_]).map Prod.fst).getD []) κ = impl_size_run n [.int n_] κ := (impl_size_gen n n_ κ).trans ((impl_size_eq n n_ (fun v1 => κ ⟨[.int .i64 v1], []⟩)).trans ((impl_size_run.eq_1 n [.int n_] κ).trans (impl_size_rn impl_size n n_ κ)).symm)
theorem impl_size_en (n_ : Int) : (entry 0 (((buildDs impl_size_sh [.int n_]).map Prod.fst).getD [])).map (fun x => (x.1.length, x.2.lent)) = some (1, []) := by kernel_rfl
theorem impl_size_good {α : Type} : ∀ n, GoodFn (α := α) Try.prog 77 (byShape impl_size_sh (impl_size_run n)) := by
  refine fn_good' Try.func77 (c := (Try.f77.body.getD .skip)) (by kernel_rfl) (by kernel_rfl) (by kernel_rfl) impl_size_C impl_size_M eqs impl_size_lps impl_size_jt (fun n => tabC_good (fun _ h => absurd h List.not_mem_nil)) eqs_ok impl_size_Lt ?_ ?_ impl_size_sh impl_size_run ?_
  · exact (fun _ h => absurd h List.not_mem_nil)
  · exact (fun _ h => absurd h List.not_mem_nil)
  · intro n p κ r ds hd hr
    have hr0 := hr
    unfold impl_size_run impl_size_runG at hr
    split at hr
    · rw [← ds_of hd]
      exact ⟨en_of (impl_size_en _) ⟨rfl, rfl⟩, (impl_size_ev n _ κ).trans hr0⟩
    · cases hr

/-! (loop.example/g01297/impl.Matrix).unimodular -/
def impl_Matrix_unimodular_sh : List SkD := [.agg [.int .i64, .int .i64, .int .i64, .int .i64]]
def impl_Matrix_unimodular_runG {α : Type} (F : T14 α) (n : Nat) (p : List P1) (κ : Res → Option α) : Option α := match p with
  | [.int m, .int m1, .int m2, .int m3] => F n m m1 m2 m3 (fun v1 => κ ⟨[.bool v1], []⟩)
  | _ => none
def impl_Matrix_unimodular_run {α : Type} (n : Nat) (p : List P1) (κ : Res → Option α) : Option α := impl_Matrix_unimodular_runG impl_Matrix_unimodular n p κ
def impl_Matrix_unimodular_CG {α : Type} (F0 : T15 α) (F1 : T16 α) (n : Nat) : FuncId → List D → (Res → Option α) → Option α := tabC [(78, (byShape impl_Matrix_det_sh (impl_Matrix_det_runG F0 n))), (77, (byShape impl_size_sh (impl_size_runG F1 n)))]
def impl_Matrix_unimodular_C {α : Type} (n : Nat) : FuncId → List D → (Res → Option α) → Option α := impl_Matrix_unimodular_CG impl_Matrix_det impl_size n
def impl_Matrix_unimodular_M : FuncId → List Nat := tabM []
def impl_Matrix_unimodular_lpsG {α : Type}  : List (LoopT α) := []
def impl_Matrix_unimodular_lps {α : Type} : List (LoopT α) := impl_Matrix_unimodular_lpsG
def impl_Matrix_unimodular_jt : Nat → Option Tpl := jtOf []
def impl_Matrix_unimodular_XG {α : Type} (F0 : T15 α) (F1 : T16 α)  (n : Nat) : Ctx α := ⟨impl_Matrix_unimodular_CG F0 F1 n, impl_Matrix_unimodular_M, eqs, lpOf (impl_Matrix_unimodular_lpsG) n, impl_Matrix_unimodular_jt⟩
def impl_Matrix_unimodular_X {α : Type} (n : Nat) : Ctx α := impl_Matrix_unimodular_XG impl_Matrix_det impl_size n
def impl_Matrix_unimodular_Lt (np : Nat) (lent : List (Bool × Nat × Blk)) : Prop := np = 1 ∧ lent = []
def impl_Matrix_unimodular_body {α : Type} (F0 : T15 α) (F1 : T16 α)  (k : Nat) (m : Int) (m1 : Int) (m2 : Int) (m3 : Int) (r0 : Bool → Option α) : Option α :=
  F0 k m m1 m2 m3 fun v =>
  F1 k v fun v1 =>
  r0 (decide (v1 = 1))
theorem impl_Matrix_unimodular_gen {α : Type} (F0 : T15 α) (F1 : T16 α)  (n : Nat) (m : Int) (m1 : Int) (m2 : Int) (m3 : Int) (κ : Res → Option α) : evFn Try.prog (impl_Matrix_unimodular_XG F0 F1 n) Try.f37 (((buildDs impl_Matrix_unimodular_sh [.int m, .int m1, .int m2, .int m3]).map Prod.fst).getD []) κ = impl_Matrix_unimodular_body F0 F1 n m m1 m2 m3 (fun v1 => κ ⟨[.bool v1], []⟩) := by kernel_rfl
theorem impl_Matrix_unimodular_eq {α : Type} (n : Nat) (m : Int) (m1 : Int) (m2 : Int) (m3 : Int) (r0 : Bool → Option α) : impl_Matrix_unimodular_body impl_Matrix_det impl_size n m m1 m2 m3 r0 = impl_Matrix_unimodular n m m1 m2 m3 r0 := (impl_Matrix_unimodular_body.eq_1 impl_Matrix_det impl_size n m m1 m2 m3 r0).trans (impl_Matrix_unimodular.eq_1 n m m1 m2 m3 r0).symm
theorem impl_Matrix_unimodular_rn {α : Type} (F : T14 α) (n : Nat) (m : Int) (m1 : Int) (m2 : Int) (m3 : Int) (κ : Res → Option α) : impl_Matrix_unimodular_runG F n [.int m, .int m1, .int m2, .int m3] κ = F n m m1 m2 m3 (fun v1 => κ ⟨[.bool v1], []⟩) := rfl
theorem impl_Matrix_unimodular_ev {α : Type} (n : Nat) (m : Int) (m1 : Int) (m2 : Int) (m3 : Int) (κ : Res → Option α) : evFn Try.prog (impl_Matrix_unimodular_X n) Try.f37 (((buildDs impl_Matrix_unimodular_sh [.int m, .int m1, .int m2, .int m3]).map Prod.fst).getD []) κ = impl_Matrix_unimodular_run n [.int m, .int m1, .int m2, .int m3] κ := (impl_Matrix_unimodular_gen impl_Matrix_det impl_size n m m1 m2 m3 κ).trans ((impl_Matrix_unimodular_eq n m m1 m2 m3 (fun v1 => κ ⟨[.bool v1], []⟩)).trans ((impl_Matrix_unimodular_run.eq_1 n [.int m, .int m1, .int m2, .int m3] κ).trans (impl_Matrix_unimodular_rn impl_Matrix_unimodular n m m1 m2 m3 κ)).symm)
theorem impl_Matrix_unimodular_en (m : Int) (m1 : Int) (m2 : Int) (m3 : Int) : (entry 0 (((buildDs impl_Matrix_unimodular_sh [.int m, .int m1, .int m2, .int m3]).map Prod.fst).getD [])).map (fun x => (x.1.length, x.2.lent)) = some (1, []) := by kernel_rfl
theorem impl_Matrix_unimodular_good {α : Type} : ∀ n, GoodFn (α := α) Try.prog 37 (byShape impl_Matrix_unimodular_sh (impl_Matrix_unimodular_run n)) := by
  refine fn_good' Try.func37 (c := (Try.f37.body.getD .skip)) (by kernel_rfl) (by kernel_rfl) (by kernel_rfl) impl_Matrix_unimodular_C impl_Matrix_unimodular_M eqs impl_Matrix_unimodular_lps impl_Matrix_unimodular_jt (fun n => tabC_good (List.forall_mem_cons.2 ⟨(impl_Matrix_det_good n), (List.forall_mem_cons.2 ⟨(impl_size_good n), (fun _ h => absurd h List.not_mem_nil)⟩)⟩)) eqs_ok impl_Matrix_unimodular_Lt ?_ ?_ impl_Matrix_unimodular_sh impl_Matrix_unimodular_run ?_
  · exact (fun _ h => absurd h List.not_mem_nil)
  · exact (fun _ h => absurd h List.not_mem_nil)
  · intro n p κ r ds hd hr
    have hr0 := hr
    unfold impl_Matrix_unimodular_run impl_Matrix_unimodular_runG at hr
    split at hr
    · rw [← ds_of hd]
      exact ⟨en_of (impl_Matrix_unimodular_en _ _ _ _) ⟨rfl, rfl⟩, (impl_Matrix_unimodular_ev n _ _ _ _ κ).trans hr0⟩
    · cases hr

/-! (loop.example/g01297/impl.Matrix).inverse -/
def impl_Matrix_inverse_sh : List SkD := [.agg [.int .i64, .int .i64, .int .i64, .int .i64]]
def impl_Matrix_inverse_runG {α : Type} (F : T17 α) (n : Nat) (p : List P1) (κ : Res → Option α) : Option α := match p with
  | [.int m, .int m1, .int m2, .int m3] => F n m m1 m2 m3 (fun v1 v2 v3 v4 => κ ⟨[.agg [.int .i64 v1, .int .i64 v2, .int .i64 v3, .int .i64 v4]], []⟩)
  | _ => none
def impl_Matrix_inverse_run {α : Type} (n : Nat) (p : List P1) (κ : Res → Option α) : Option α := impl_Matrix_inverse_runG impl_Matrix_inverse n p κ
def impl_Matrix_inverse_CG {α : Type} (F0 : T15 α) (n : Nat) : FuncId → List D → (Res → Option α) → Option α := tabC [(78, (byShape impl_Matrix_det_sh (impl_Matrix_det_runG F0 n)))]
def impl_Matrix_inverse_C {α : Type} (n : Nat) : FuncId → List D → (Res → Option α) → Option α := impl_Matrix_inverse_CG impl_Matrix_det n
def impl_Matrix_inverse_M : FuncId → List Nat := tabM []
def impl_Matrix_inverse_lpsG {α : Type}  : List (LoopT α) := []
def impl_Matrix_inverse_lps {α : Type} : List (LoopT α) := impl_Matrix_inverse_lpsG
def impl_Matrix_inverse_jt : Nat → Option Tpl := jtOf []
def impl_Matrix_inverse_XG {α : Type} (F0 : T15 α)  (n : Nat) : Ctx α := ⟨impl_Matrix_inverse_CG F0 n, impl_Matrix_inverse_M, eqs, lpOf (impl_Matrix_inverse_lpsG) n, impl_Matrix_inverse_jt⟩
def impl_Matrix_inverse_X {α : Type} (n : Nat) : Ctx α := impl_Matrix_inverse_XG impl_Matrix_det n
def impl_Matrix_inverse_Lt (np : Nat) (lent : List (Bool × Nat × Blk)) : Prop := np = 1 ∧ lent = []
def impl_Matrix_inverse_body {α : Type} (F0 : T15 α)  (k : Nat) (m : Int) (m1 : Int) (m2 : Int) (m3 : Int) (r0 : Int → Int → Int → Int → Option α) : Option α :=
  F0 k m m1 m2 m3 fun v =>
  r0 (w64 (v * m3)) (w64 ((w64 (0 - v)) * m1)) (w64 ((w64 (0 - v)) * m2)) (w64 (v * m))
theorem impl_Matrix_inverse_gen {α : Type} (F0 : T15 α)  (n : Nat) (m : Int) (m1 : Int) (m2 : Int) (m3 : Int) (κ : Res → Option α) : evFn Try.prog (impl_Matrix_inverse_XG F0 n) Try.f38 (((buildDs impl_Matrix_inverse_sh [.int m, .int m1, .int m2, .int m3]).map Prod.fst).getD []) κ = impl_Matrix_inverse_body F0 n m m1 m2 m3 (fun v1 v2 v3 v4 => κ ⟨[.agg [.int .i64 v1, .int .i64 v2, .int .i64 v3, .int .i64 v4]], []⟩) := by kernel_rfl
theorem impl_Matrix_inverse_eq {α : Type} (n : Nat) (m : Int) (m1 : Int) (m2 : Int) (m3 : Int) (r0 : Int → Int → Int → Int → Option α) : impl_Matrix_inverse_body impl_Matrix_det n m m1 m2 m3 r0 = impl_Matrix_inverse n m m1 m2 m3 r0 := (impl_Matrix_inverse_body.eq_1 impl_Matrix_det n m m1 m2 m3 r0).trans (impl_Matrix_inverse.eq_1 n m m1 m2 m3 r0).symm
theorem impl_Matrix_inverse_rn {α : Type} (F : T17 α) (n : Nat) (m : Int) (m1 : Int) (m2 : Int) (m3 : Int) (κ : Res → Option α) : impl_Matrix_inverse_runG F n [.int m, .int m1, .int m2, .int m3] κ = F n m m1 m2 m3 (fun v1 v2 v3 v4 => κ ⟨[.agg [.int .i64 v1, .int .i64 v2, .int .i64 v3, .int .i64 v4]], []⟩) := rfl
theorem impl_Matrix_inverse_ev {α : Type} (n : Nat) (m : Int) (m1 : Int) (m2 : Int) (m3 : Int) (κ : Res → Option α) : evFn Try.prog (impl_Matrix_inverse_X n) Try.f38 (((buildDs impl_Matrix_inverse_sh [.int m, .int m1, .int m2, .int m3]).map Prod.fst).getD []) κ = impl_Matrix_inverse_run n [.int m, .int m1, .int m2, .int m3] κ := (impl_Matrix_inverse_gen impl_Matrix_det n m m1 m2 m3 κ).trans ((impl_Matrix_inverse_eq n m m1 m2 m3 (fun v1 v2 v3 v4 => κ ⟨[.agg [.int .i64 v1, .int .i64 v2, .int .i64 v3, .int .i64 v4]], []⟩)).trans ((impl_Matrix_inverse_run.eq_1 n [.int m, .int m1, .int m2, .int m3] κ).trans (impl_Matrix_inverse_rn impl_Matrix_inverse n m m1 m2 m3 κ)).symm)
theorem impl_Matrix_inverse_en (m : Int) (m1 : Int) (m2 : Int) (m3 : Int) : (entry 0 (((buildDs impl_Matrix_inverse_sh [.int m, .int m1, .int m2, .int m3]).map Prod.fst).getD [])).map (fun x => (x.1.length, x.2.lent)) = some (1, []) := by kernel_rfl
theorem impl_Matrix_inverse_good {α : Type} : ∀ n, GoodFn (α := α) Try.prog 38 (byShape impl_Matrix_inverse_sh (impl_Matrix_inverse_run n)) := by
  refine fn_good' Try.func38 (c := (Try.f38.body.getD .skip)) (by kernel_rfl) (by kernel_rfl) (by kernel_rfl) impl_Matrix_inverse_C impl_Matrix_inverse_M eqs impl_Matrix_inverse_lps impl_Matrix_inverse_jt (fun n => tabC_good (List.forall_mem_cons.2 ⟨(impl_Matrix_det_good n), (fun _ h => absurd h List.not_mem_nil)⟩)) eqs_ok impl_Matrix_inverse_Lt ?_ ?_ impl_Matrix_inverse_sh impl_Matrix_inverse_run ?_
  · exact (fun _ h => absurd h List.not_mem_nil)
  · exact (fun _ h => absurd h List.not_mem_nil)
  · intro n p κ r ds hd hr
    have hr0 := hr
    unfold impl_Matrix_inverse_run impl_Matrix_inverse_runG at hr
    split at hr
    · rw [← ds_of hd]
      exact ⟨en_of (impl_Matrix_inverse_en _ _ _ _) ⟨rfl, rfl⟩, (impl_Matrix_inverse_ev n _ _ _ _ κ).trans hr0⟩
    · cases hr

/-! (loop.example/g01297/impl.Matrix).told -/
def impl_Matrix_told_sh : List SkD := [.agg [.int .i64, .int .i64, .int .i64, .int .i64]]
def impl_Matrix_told_runG {α : Type} (F : T18 α) (n : Nat) (p : List P1) (κ : Res → Option α) : Option α := match p with
  | [.int m, .int m1, .int m2, .int m3] => F n m m1 m2 m3 (fun v1 v2 v3 v4 v5 => κ ⟨[.agg [.int .i64 v1, .int .i64 v2, .int .i64 v3, .int .i64 v4], .int .i64 v5], []⟩)
  | _ => none
def impl_Matrix_told_run {α : Type} (n : Nat) (p : List P1) (κ : Res → Option α) : Option α := impl_Matrix_told_runG impl_Matrix_told n p κ
def impl_Matrix_told_CG {α : Type} (F0 : T14 α) (n : Nat) : FuncId → List D → (Res → Option α) → Option α := tabC [(11, (byShape impl_IsMatrix_sh (impl_IsMatrix_runG F0 n)))]
def impl_Matrix_told_C {α : Type} (n : Nat) : FuncId → List D → (Res → Option α) → Option α := impl_Matrix_told_CG impl_IsMatrix n
def impl_Matrix_told_M : FuncId → List Nat := tabM []
def impl_Matrix_told_lpsG {α : Type}  : List (LoopT α) := []
def impl_Matrix_told_lps {α : Type} : List (LoopT α) := impl_Matrix_told_lpsG
def impl_Matrix_told_jt : Nat → Option Tpl := jtOf []
def impl_Matrix_told_XG {α : Type} (F0 : T14 α)  (n : Nat) : Ctx α := ⟨impl_Matrix_told_CG F0 n, impl_Matrix_told_M, eqs, lpOf (impl_Matrix_told_lpsG) n, impl_Matrix_told_jt⟩
def impl_Matrix_told_X {α : Type} (n : Nat) : Ctx α := impl_Matrix_told_XG impl_IsMatrix n
def impl_Matrix_told_Lt (np : Nat) (lent : List (Bool × Nat × Blk)) : Prop := np = 1 ∧ lent = []
def impl_Matrix_told_body {α : Type} (F0 : T14 α)  (k : Nat) (m : Int) (m1 : Int) (m2 : Int) (m3 : Int) (r0 : Int → Int → Int → Int → Int → Option α) : Option α :=
  F0 k m m1 m2 m3 fun v =>
  bif (!v) then
    r0 0 0 0 0 3
  else
    r0 m m1 m2 m3 0
theorem impl_Matrix_told_gen {α : Type} (F0 : T14 α)  (n : Nat) (m : Int) (m1 : Int) (m2 : Int) (m3 : Int) (κ : Res → Option α) : evFn Try.prog (impl_Matrix_told_XG F0 n) Try.f39 (((buildDs impl_Matrix_told_sh [.int m, .int m1, .int m2, .int m3]).map Prod.fst).getD []) κ = impl_Matrix_told_body F0 n m m1 m2 m3 (fun v1 v2 v3 v4 v5 => κ ⟨[.agg [.int .i64 v1, .int .i64 v2, .int .i64 v3, .int .i64 v4], .int .i64 v5], []⟩) := by kernel_rfl
theorem impl_Matrix_told_eq {α : Type} (n : Nat) (m : Int) (m1 : Int) (m2 : Int) (m3 : Int) (r0 : Int → Int → Int → Int → Int → Option α) : impl_Matrix_told_body impl_IsMatrix n m m1 m2 m3 r0 = impl_Matrix_told n m m1 m2 m3 r0 := (impl_Matrix_told_body.eq_1 impl_IsMatrix n m m1 m2 m3 r0).trans (impl_Matrix_told.eq_1 n m m1 m2 m3 r0).symm
theorem impl_Matrix_told_rn {α : Type} (F : T18 α) (n : Nat) (m : Int) (m1 : Int) (m2 : Int) (m3 : Int) (κ : Res → Option α) : impl_Matrix_told_runG F n [.int m, .int m1, .int m2, .int m3] κ = F n m m1 m2 m3 (fun v1 v2 v3 v4 v5 => κ ⟨[.agg [.int .i64 v1, .int .i64 v2, .int .i64 v3, .int .i64 v4], .int .i64 v5], []⟩) := rfl
theorem impl_Matrix_told_ev {α : Type} (n : Nat) (m : Int) (m1 : Int) (m2 : Int) (m3 : Int) (κ : Res → Option α) : evFn Try.prog (impl_Matrix_told_X n) Try.f39 (((buildDs impl_Matrix_told_sh [.int m, .int m1, .int m2, .int m3]).map Prod.fst).getD []) κ = impl_Matrix_told_run n [.int m, .int m1, .int m2, .int m3] κ := (impl_Matrix_told_gen impl_IsMatrix n m m1 m2 m3 κ).trans ((impl_Matrix_told_eq n m m1 m2 m3 (fun v1 v2 v3 v4 v5 => κ ⟨[.agg [.int .i64 v1, .int .i64 v2, .int .i64 v3, .int .i64 v4], .int .i64 v5], []⟩)).trans ((impl_Matrix_told_run.eq_1 n [.int m, .int m1, .int m2, .int m3] κ).trans (impl_Matrix_told_rn impl_Matrix_told n m m1 m2 m3 κ)).symm)
theorem impl_Matrix_told_en (m : Int) (m1 : Int) (m2 : Int) (m3 : Int) : (entry 0 (((buildDs impl_Matrix_told_sh [.int m, .int m1, .int m2, .int m3]).map Prod.fst).getD [])).map (fun x => (x.1.length, x.2.lent)) = some (1, []) := by kernel_rfl
theorem impl_Matrix_told_good {α : Type} : ∀ n, GoodFn (α := α) Try.prog 39 (byShape impl_Matrix_told_sh (impl_Matrix_told_run n)) := by
  refine fn_good' Try.func39 (c := (Try.f39.body.getD .skip)) (by kernel_rfl) (by kernel_rfl) (by kernel_rfl) impl_Matrix_told_C impl_Matrix_told_M eqs impl_Matrix_told_lps impl_Matrix_told_jt (fun n => tabC_good (List.forall_mem_cons.2 ⟨(impl_IsMatrix_good n), (fun _ h => absurd h List.not_mem_nil)⟩)) eqs_ok impl_Matrix_told_Lt ?_ ?_ impl_Matrix_told_sh impl_Matrix_told_run ?_
  · exact (fun _ h => absurd h List.not_mem_nil)
  · exact (fun _ h => absurd h List.not_mem_nil)
  · intro n p κ r ds hd hr
    have hr0 := hr
    unfold impl_Matrix_told_run impl_Matrix_told_runG at hr
    split at hr
    · rw [← ds_of hd]
      exact ⟨en_of (impl_Matrix_told_en _ _ _ _) ⟨rfl, rfl⟩, (impl_Matrix_told_ev n _ _ _ _ κ).trans hr0⟩
    · cases hr

/-! loop.example/g01297/impl.InverseMatrix -/
def impl_InverseMatrix_sh : List SkD := [.agg [.int .i64, .int .i64, .int .i64, .int .i64]]
def impl_InverseMatrix_runG {α : Type} (F : T18 α) (n : Nat) (p : List P1) (κ : Res → Option α) : Option α := match p with
  | [.int m, .int m1, .int m2, .int m3] => F n m m1 m2 m3 (fun v1 v2 v3 v4 v5 => κ ⟨[.agg [.int .i64 v1, .int .i64 v2, .int .i64 v3, .int .i64 v4], .int .i64 v5], []⟩)
  | _ => none
def impl_InverseMatrix_run {α : Type} (n : Nat) (p : List P1) (κ : Res → Option α) : Option α := impl_InverseMatrix_runG impl_InverseMatrix n p κ
def impl_InverseMatrix_CG {α : Type} (F0 : T14 α) (F1 : T14 α) (F2 : T17 α) (F3 : T18 α) (n : Nat) : FuncId → List D → (Res → Option α) → Option α := tabC [(11, (byShape impl_IsMatrix_sh (impl_IsMatrix_runG F0 n))), (37, (byShape impl_Matrix_unimodular_sh (impl_Matrix_unimodular_runG F1 n))), (38, (byShape impl_Matrix_inverse_sh (impl_Matrix_inverse_runG F2 n))), (39, (byShape impl_Matrix_told_sh (impl_Matrix_told_runG F3 n)))]
def impl_InverseMatrix_C {α : Type} (n : Nat) : FuncId → List D → (Res → Option α) → Option α := impl_InverseMatrix_CG impl_IsMatrix impl_Matrix_unimodular impl_Matrix_inverse impl_Matrix_told n
def impl_InverseMatrix_M : FuncId → List Nat := tabM []
def impl_InverseMatrix_lpsG {α : Type}  : List (LoopT α) := []
def impl_InverseMatrix_lps {α : Type} : List (LoopT α) := impl_InverseMatrix_lpsG
def impl_InverseMatrix_jt : Nat → Option Tpl := jtOf []
def impl_InverseMatrix_XG {α : Type} (F0 : T14 α) (F1 : T14 α) (F2 : T17 α) (F3 : T18 α)  (n : Nat) : Ctx α := ⟨impl_InverseMatrix_CG F0 F1 F2 F3 n, impl_InverseMatrix_M, eqs, lpOf (impl_InverseMatrix_lpsG) n, impl_InverseMatrix_jt⟩
def impl_InverseMatrix_X {α : Type} (n : Nat) : Ctx α := impl_InverseMatrix_XG impl_IsMatrix impl_Matrix_unimodular impl_Matrix_inverse impl_Matrix_told n
def impl_InverseMatrix_Lt (np : Nat) (lent : List (Bool × Nat × Blk)) : Prop := np = 1 ∧ lent = []
def impl_InverseMatrix_body {α : Type} (F0 : T14 α) (F1 : T14 α) (F2 : T17 α) (F3 : T18 α)  (k : Nat) (m : Int) (m1 : Int) (m2 : Int) (m3 : Int) (r0 : Int → Int → Int → Int → Int → Option α) : Option α :=
  F0 k m m1 m2 m3 fun v =>
  bif (!v) then
    r0 0 0 0 0 1
  else
    F1 k m m1 m2 m3 fun v1 =>
    bif (!v1) then
      r0 0 0 0 0 5
    else
      F2 k m m1 m2 m3 fun v2 v3 v4 v5 =>
      F3 k v2 v3 v4 v5 fun v6 v7 v8 v9 v10 =>
      r0 v6 v7 v8 v9 v10
theorem impl_InverseMatrix_gen {α : Type} (F0 : T14 α) (F1 : T14 α) (F2 : T17 α) (F3 : T18 α)  (n : Nat) (m : Int) (m1 : Int) (m2 : Int) (m3 : Int) (κ : Res → Option α) : evFn Try.prog (impl_InverseMatrix_XG F0 F1 F2 F3 n) Try.f6 (((buildDs impl_InverseMatrix_sh [.int m, .int m1, .int m2, .int m3]).map Prod.fst).getD []) κ = impl_InverseMatrix_body F0 F1 F2 F3 n m m1 m2 m3 (fun v1 v2 v3 v4 v5 => κ ⟨[.agg [.int .i64 v1, .int .i64 v2, .int .i64 v3, .int .i64 v4], .int .i64 v5], []⟩) := by kernel_rfl
theorem impl_InverseMatrix_eq {α : Type} (n : Nat) (m : Int) (m1 : Int) (m2 : Int) (m3 : Int) (r0 : Int → Int → Int → Int → Int → Option α) : impl_InverseMatrix_body impl_IsMatrix impl_Matrix_unimodular impl_Matrix_inverse impl_Matrix_told n m m1 m2 m3 r0 = impl_InverseMatrix n m m1 m2 m3 r0 := (impl_InverseMatrix_body.eq_1 impl_IsMatrix impl_Matrix_unimodular impl_Matrix_inverse impl_Matrix_told n m m1 m2 m3 r0).trans (impl_InverseMatrix.eq_1 n m m1 m2 m3 r0).symm
theorem impl_InverseMatrix_rn {α : Type} (F : T18 α) (n : Nat) (m : Int) (m1 : Int) (m2 : Int) (m3 : Int) (κ : Res → Option α) : impl_InverseMatrix_runG F n [.int m, .int m1, .int m2, .int m3] κ = F n m m1 m2 m3 (fun v1 v2 v3 v4 v5 => κ ⟨[.agg [.int .i64 v1, .int .i64 v2, .int .i64 v3, .int .i64 v4], .int .i64 v5], []⟩) := rfl
theorem impl_InverseMatrix_ev {α : Type} (n : Nat) (m : Int) (m1 : Int) (m2 : Int) (m3 : Int) (κ : Res → Option α) : evFn Try.prog (impl_InverseMatrix_X n) Try.f6 (((buildDs impl_InverseMatrix_sh [.int m, .int m1, .int m2, .int m3]).map Prod.fst).getD []) κ = impl_InverseMatrix_run n [.int m, .int m1, .int m2, .int m3] κ := (impl_InverseMatrix_gen impl_IsMatrix impl_Matrix_unimodular impl_Matrix_inverse impl_Matrix_told n m m1 m2 m3 κ).trans ((impl_InverseMatrix_eq n m m1 m2 m3 (fun v1 v2 v3 v4 v5 => κ ⟨[.agg [.int .i64 v1, .int .i64 v2, .int .i64 v3, .int .i64 v4], .int .i64 v5], []⟩)).trans ((impl_InverseMatrix_run.eq_1 n [.int m, .int m1, .int m2, .int m3] κ).trans (impl_InverseMatrix_rn impl_InverseMatrix n m m1 m2 m3 κ)).symm)
theorem impl_InverseMatrix_en (m : Int) (m1 : Int) (m2 : Int) (m3 : Int) : (entry 0 (((buildDs impl_InverseMatrix_sh [.int m, .int m1, .int m2, .int m3]).map Prod.fst).getD [])).map (fun x => (x.1.length, x.2.lent)) = some (1, []) := by kernel_rfl
theorem impl_InverseMatrix_good {α : Type} : ∀ n, GoodFn (α := α) Try.prog 6 (byShape impl_InverseMatrix_sh (impl_InverseMatrix_run n)) := by
  refine fn_good' Try.func6 (c := (Try.f6.body.getD .skip)) (by kernel_rfl) (by kernel_rfl) (by kernel_rfl) impl_InverseMatrix_C impl_InverseMatrix_M eqs impl_InverseMatrix_lps impl_InverseMatrix_jt (fun n => tabC_good (List.forall_mem_cons.2 ⟨(impl_IsMatrix_good n), (List.forall_mem_cons.2 ⟨(impl_Matrix_unimodular_good n), (List.forall_mem_cons.2 ⟨(impl_Matrix_inverse_good n), (List.forall_mem_cons.2 ⟨(impl_Matrix_told_good n), (fun _ h => absurd h List.not_mem_nil)⟩)⟩)⟩)⟩)) eqs_ok impl_InverseMatrix_Lt ?_ ?_ impl_InverseMatrix_sh impl_InverseMatrix_run ?_
  · exact (fun _ h => absurd h List.not_mem_nil)
  · exact (fun _ h => absurd h List.not_mem_nil)
  · intro n p κ r ds hd hr
    have hr0 := hr
    unfold impl_InverseMatrix_run impl_InverseMatrix_runG at hr
    split at hr
    · rw [← ds_of hd]
      exact ⟨en_of (impl_InverseMatrix_en _ _ _ _) ⟨rfl, rfl⟩, (impl_InverseMatrix_ev n _ _ _ _ κ).trans hr0⟩
    · cases hr

/-! loop.example/g01297/spec.l01In -/
def spec_l01In_sh : List SkD := [.int .i64, .int .i64, .int .i64]
def spec_l01In_runG {α : Type} (F : T9 α) (n : Nat) (p : List P1) (κ : Res → Option α) : Option α := match p with
  | [.int n_, .int low, .int high] => F n n_ low high (fun v1 => κ ⟨[.bool v1], []⟩)
  | _ => none
def spec_l01In_run {α : Type} (n : Nat) (p : List P1) (κ : Res → Option α) : Option α := spec_l01In_runG spec_l01In n p κ
def spec_l01In_CG {α : Type}  (n : Nat) : FuncId → List D → (Res → Option α) → Option α := tabC []
def spec_l01In_C {α : Type} (n : Nat) : FuncId → List D → (Res → Option α) → Option α := spec_l01In_CG n
def spec_l01In_M : FuncId → List Nat := tabM []
def spec_l01In_lpsG {α : Type}  : List (LoopT α) := []
def spec_l01In_lps {α : Type} : List (LoopT α) := spec_l01In_lpsG
def spec_l01In_jt : Nat → Option Tpl := jtOf []
def spec_l01In_XG {α : Type}   (n : Nat) : Ctx α := ⟨spec_l01In_CG n, spec_l01In_M, eqs, lpOf (spec_l01In_lpsG) n, spec_l01In_jt⟩
def spec_l01In_X {α : Type} (n : Nat) : Ctx α := spec_l01In_XG n
def spec_l01In_Lt (np : Nat) (lent : List (Bool × Nat × Blk)) : Prop := np = 3 ∧ lent = []
def spec_l01In_body {α : Type}   (k : Nat) (n_ : Int) (low : Int) (high : Int) (r0 : Bool → Option α) : Option α :=
  bif decide (low ≤ n_) then
    r0 (decide (n_ ≤ high))
  else
    r0 false
theorem spec_l01In_gen {α : Type}   (n : Nat) (n_ : Int) (low : Int) (high : Int) (κ : Res → Option α) : evFn Try.prog (spec_l01In_XG n) Try.f89 (((buildDs spec_l01In_sh [.int n_, .int low, .int high]).map Prod.fst).getD []) κ = spec_l01In_body n n_ low high (fun v1 => κ ⟨[.bool v1], []⟩) := by kernel_rfl
theorem spec_l01In_eq {α : Type} (n : Nat) (n_ : Int) (low : Int) (high : Int) (r0 : Bool → Option α) : spec_l01In_body n n_ low high r0 = spec_l01In n n_ low high r0 := (spec_l01In_body.eq_1 n n_ low high r0).trans (spec_l01In.eq_1 n n_ low high r0).symm
theorem spec_l01In_rn {α : Type} (F : T9 α) (n : Nat) (n_ : Int) (low : Int) (high : Int) (κ : Res → Option α) : spec_l01In_runG F n [.int n_, .int low, .int high] κ = F n n_ low high (fun v1 => κ ⟨[.bool v1], []⟩) := rfl
theorem spec_l01In_ev {α : Type} (n : Nat) (n_ : Int) (low : Int) (high : Int) (κ : Res → Option α) : evFn Try.prog (spec_l01In_X n) Try.f89 (((buildDs spec_l01In_sh [.int n_, .int low, .int high]).map Prod.fst).getD []) κ = spec_l01In_run n [.int n_, .int low, .int high] κ := (spec_l01In_gen n n_ low high κ).trans ((spec_l01In_eq n n_ low high (fun v1 => κ ⟨[.bool v1], []⟩)).trans ((spec_l01In_run.eq_1 n [.int n_, .int low, .int high] κ).trans (spec_l01In_rn spec_l01In n n_ low high κ)).symm)
theorem spec_l01In_en (n_ : Int) (low : Int) (high : Int) : (entry 0 (((buildDs spec_l01In_sh [.int n_, .int low, .int high]).map Prod.fst).getD [])).map (fun x => (x.1.length, x.2.lent)) = some (3, []) := by kernel_rfl
theorem spec_l01In_good {α : Type} : ∀ n, GoodFn (α := α) Try.prog 89 (byShape spec_l01In_sh (spec_l01In_run n)) := by
  refine fn_good' Try.func89 (c := (Try.f89.body.getD .skip)) (by kernel_rfl) (by kernel_rfl) (by kernel_rfl) spec_l01In_C spec_l01In_M eqs spec_l01In_lps spec_l01In_jt (fun n => tabC_good (fun _ h => absurd h List.not_mem_nil)) eqs_ok spec_l01In_Lt ?_ ?_ spec_l01In_sh spec_l01In_run ?_
  · exact (fun _ h => absurd h List.not_mem_nil)
  · exact (fun _ h => absurd h List.not_mem_nil)
  · intro n p κ r ds hd hr
    have hr0 := hr
    unfold spec_l01In_run spec_l01In_runG at hr
    split at hr
    · rw [← ds_of hd]
      exact ⟨en_of (spec_l01In_en _ _ _) ⟨rfl, rfl⟩, (spec_l01In_ev n _ _ _ κ).trans hr0⟩
    · cases hr

/-! loop.example/g01297/spec.l01Fits -/
def spec_l01Fits_sh : List SkD := [.int .i64]
def spec_l01Fits_runG {α : Type} (F : T10 α) (n : Nat) (p : List P1) (κ : Res → Option α) : Option α := match p with
  | [.int x] => F n x (fun v1 => κ ⟨[.bool v1], []⟩)
  | _ => none
def spec_l01Fits_run {α : Type} (n : Nat) (p : List P1) (κ : Res → Option α) : Option α := spec_l01Fits_runG spec_l01Fits n p κ
def spec_l01Fits_CG {α : Type} (F0 : T9 α) (n : Nat) : FuncId → List D → (Res → Option α) → Option α := tabC [(89, (byShape spec_l01In_sh (spec_l01In_runG F0 n)))]
def spec_l01Fits_C {α : Type} (n : Nat) : FuncId → List D → (Res → Option α) → Option α := spec_l01Fits_CG spec_l01In n
def spec_l01Fits_M : FuncId → List Nat := tabM []
def spec_l01Fits_lpsG {α : Type}  : List (LoopT α) := []
def spec_l01Fits_lps {α : Type} : List (LoopT α) := spec_l01Fits_lpsG
def spec_l01Fits_jt : Nat → Option Tpl := jtOf []
def spec_l01Fits_XG {α : Type} (F0 : T9 α)  (n : Nat) : Ctx α := ⟨spec_l01Fits_CG F0 n, spec_l01Fits_M, eqs, lpOf (spec_l01Fits_lpsG) n, spec_l01Fits_jt⟩
def spec_l01Fits_X {α : Type} (n : Nat) : Ctx α := spec_l01Fits_XG spec_l01In n
def spec_l01Fits_Lt (np : Nat) (lent : List (Bool × Nat × Blk)) : Prop := np = 1 ∧ lent = []
def spec_l01Fits_body {α : Type} (F0 : T9 α)  (k : Nat) (x : Int) (r0 : Bool → Option α) : Option α :=
  F0 k x (-1000000) 1000000 fun v =>
  r0 v
theorem spec_l01Fits_gen {α : Type} (F0 : T9 α)  (n : Nat) (x : Int) (κ : Res → Option α) : evFn Try.prog (spec_l01Fits_XG F0 n) Try.f70 (((buildDs spec_l01Fits_sh [.int x]).map Prod.fst).getD []) κ = spec_l01Fits_body F0 n x (fun v1 => κ ⟨[.bool v1], []⟩) := by kernel_rfl
theorem spec_l01Fits_eq {α : Type} (n : Nat) (x : Int) (r0 : Bool → Option α) : spec_l01Fits_body spec_l01In n x r0 = spec_l01Fits n x r0 := (spec_l01Fits_body.eq_1 spec_l01In n x r0).trans (spec_l01Fits.eq_1 n x r0).symm
theorem spec_l01Fits_rn {α : Type} (F : T10 α) (n : Nat) (x : Int) (κ : Res → Option α) : spec_l01Fits_runG F n [.int x] κ = F n x (fun v1 => κ ⟨[.bool v1], []⟩) := rfl
theorem spec_l01Fits_ev {α : Type} (n : Nat) (x : Int) (κ : Res → Option α) : evFn Try.prog (spec_l01Fits_X n) Try.f70 (((buildDs spec_l01Fits_sh [.int x]).map Prod.fst).getD []) κ = spec_l01Fits_run n [.int x] κ := (spec_l01Fits_gen spec_l01In n x κ).trans ((spec_l01Fits_eq n x (fun v1 => κ ⟨[.bool v1], []⟩)).trans ((spec_l01Fits_run.eq_1 n [.int x] κ).trans (spec_l01Fits_rn spec_l01Fits n x κ)).symm)
theorem spec_l01Fits_en (x : Int) : (entry 0 (((buildDs spec_l01Fits_sh [.int x]).map Prod.fst).getD [])).map (fun x => (x.1.length, x.2.lent)) = some (1, []) := by kernel_rfl
theorem spec_l01Fits_good {α : Type} : ∀ n, GoodFn (α := α) Try.prog 70 (byShape spec_l01Fits_sh (spec_l01Fits_run n)) := by
  refine fn_good' Try.func70 (c := (Try.f70.body.getD .skip)) (by kernel_rfl) (by kernel_rfl) (by kernel_rfl) spec_l01Fits_C spec_l01Fits_M eqs spec_l01Fits_lps spec_l01Fits_jt (fun n => tabC_good (List.forall_mem_cons.2 ⟨(spec_l01In_good n), (fun _ h => absurd h List.not_mem_nil)⟩)) eqs_ok spec_l01Fits_Lt ?_ ?_ spec_l01Fits_sh spec_l01Fits_run ?_
  · exact (fun _ h => absurd h List.not_mem_nil)
  · exact (fun _ h => absurd h List.not_mem_nil)
  · intro n p κ r ds hd hr
    have hr0 := hr
    unfold spec_l01Fits_run spec_l01Fits_runG at hr
    split at hr
    · rw [← ds_of hd]
      exact ⟨en_of (spec_l01Fits_en _) ⟨rfl, rfl⟩, (spec_l01Fits_ev n _ κ).trans hr0⟩
    · cases hr

/-! loop.example/g01297/spec.l01Matrix -/
def spec_l01Matrix_sh : List SkD := [.agg [.int .i64, .int .i64, .int .i64, .int .i64]]
def spec_l01Matrix_runG {α : Type} (F : T14 α) (n : Nat) (p : List P1) (κ : Res → Option α) : Option α := match p with
  | [.int m, .int m1, .int m2, .int m3] => F n m m1 m2 m3 (fun v1 => κ ⟨[.bool v1], []⟩)
  | _ => none
def spec_l01Matrix_run {α : Type} (n : Nat) (p : List P1) (κ : Res → Option α) : Option α := spec_l01Matrix_runG spec_l01Matrix n p κ
def spec_l01Matrix_CG {α : Type} (F0 : T10 α) (n : Nat) : FuncId → List D → (Res → Option α) → Option α := tabC [(70, (byShape spec_l01Fits_sh (spec_l01Fits_runG F0 n)))]
def spec_l01Matrix_C {α : Type} (n : Nat) : FuncId → List D → (Res → Option α) → Option α := spec_l01Matrix_CG spec_l01Fits n
def spec_l01Matrix_M : FuncId → List Nat := tabM []
def spec_l01Matrix_lpsG {α : Type}  : List (LoopT α) := []
def spec_l01Matrix_lps {α : Type} : List (LoopT α) := spec_l01Matrix_lpsG
def spec_l01Matrix_jt : Nat → Option Tpl := jtOf []
def spec_l01Matrix_XG {α : Type} (F0 : T10 α)  (n : Nat) : Ctx α := ⟨spec_l01Matrix_CG F0 n, spec_l01Matrix_M, eqs, lpOf (spec_l01Matrix_lpsG) n, spec_l01Matrix_jt⟩
def spec_l01Matrix_X {α : Type} (n : Nat) : Ctx α := spec_l01Matrix_XG spec_l01Fits n
def spec_l01Matrix_Lt (np : Nat) (lent : List (Bool × Nat × Blk)) : Prop := np = 1 ∧ lent = []
def spec_l01Matrix_body {α : Type} (F0 : T10 α)  (k : Nat) (m : Int) (m1 : Int) (m2 : Int) (m3 : Int) (r0 : Bool → Option α) : Option α :=
  F0 k m fun v =>
  bif v then
    F0 k m1 fun v1 =>
    bif v1 then
      F0 k m2 fun v2 =>
      bif v2 then
        F0 k m3 fun v3 =>
        r0 v3
      else
        r0 false
    else
      r0 false
  else
    r0 false
theorem spec_l01Matrix_gen {α : Type} (F0 : T10 α)  (n : Nat) (m : Int) (m1 : Int) (m2 : Int) (m3 : Int) (κ : Res → Option α) : evFn Try.prog (spec_l01Matrix_XG F0 n) Try.f40 (((buildDs spec_l01Matrix_sh [.int m, .int m1, .int m2, .int m3]).map Prod.fst).getD []) κ = spec_l01Matrix_body F0 n m m1 m2 m3 (fun v1 => κ ⟨[.bool v1], []⟩) := by kernel_rfl
theorem spec_l01Matrix_eq {α : Type} (n : Nat) (m : Int) (m1 : Int) (m2 : Int) (m3 : Int) (r0 : Bool → Option α) : spec_l01Matrix_body spec_l01Fits n m m1 m2 m3 r0 = spec_l01Matrix n m m1 m2 m3 r0 := (spec_l01Matrix_body.eq_1 spec_l01Fits n m m1 m2 m3 r0).trans (spec_l01Matrix.eq_1 n m m1 m2 m3 r0).symm
theorem spec_l01Matrix_rn {α : Type} (F : T14 α) (n : Nat) (m : Int) (m1 : Int) (m2 : Int) (m3 : Int) (κ : Res → Option α) : spec_l01Matrix_runG F n [.int m, .int m1, .int m2, .int m3] κ = F n m m1 m2 m3 (fun v1 => κ ⟨[.bool v1], []⟩) := rfl
theorem spec_l01Matrix_ev {α : Type} (n : Nat) (m : Int) (m1 : Int) (m2 : Int) (m3 : Int) (κ : Res → Option α) : evFn Try.prog (spec_l01Matrix_X n) Try.f40 (((buildDs spec_l01Matrix_sh [.int m, .int m1, .int m2, .int m3]).map Prod.fst).getD []) κ = spec_l01Matrix_run n [.int m, .int m1, .int m2, .int m3] κ := (spec_l01Matrix_gen spec_l01Fits n m m1 m2 m3 κ).trans ((spec_l01Matrix_eq n m m1 m2 m3 (fun v1 => κ ⟨[.bool v1], []⟩)).trans ((spec_l01Matrix_run.eq_1 n [.int m, .int m1, .int m2, .int m3] κ).trans (spec_l01Matrix_rn spec_l01Matrix n m m1 m2 m3 κ)).symm)
theorem spec_l01Matrix_en (m : Int) (m1 : Int) (m2 : Int) (m3 : Int) : (entry 0 (((buildDs spec_l01Matrix_sh [.int m, .int m1, .int m2, .int m3]).map Prod.fst).getD [])).map (fun x => (x.1.length, x.2.lent)) = some (1, []) := by kernel_rfl
theorem spec_l01Matrix_good {α : Type} : ∀ n, GoodFn (α := α) Try.prog 40 (byShape spec_l01Matrix_sh (spec_l01Matrix_run n)) := by
  refine fn_good' Try.func40 (c := (Try.f40.body.getD .skip)) (by kernel_rfl) (by kernel_rfl) (by kernel_rfl) spec_l01Matrix_C spec_l01Matrix_M eqs spec_l01Matrix_lps spec_l01Matrix_jt (fun n => tabC_good (List.forall_mem_cons.2 ⟨(spec_l01Fits_good n), (fun _ h => absurd h List.not_mem_nil)⟩)) eqs_ok spec_l01Matrix_Lt ?_ ?_ spec_l01Matrix_sh spec_l01Matrix_run ?_
  · exact (fun _ h => absurd h List.not_mem_nil)
  · exact (fun _ h => absurd h List.not_mem_nil)
  · intro n p κ r ds hd hr
    have hr0 := hr
    unfold spec_l01Matrix_run spec_l01Matrix_runG at hr
    split at hr
    · rw [← ds_of hd]
      exact ⟨en_of (spec_l01Matrix_en _ _ _ _) ⟨rfl, rfl⟩, (spec_l01Matrix_ev n _ _ _ _ κ).trans hr0⟩
    · cases hr

end Go.Proofs.Ytglpddfibcikgaa
