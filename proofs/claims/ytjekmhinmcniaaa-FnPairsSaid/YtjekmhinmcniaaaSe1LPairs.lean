/- The program's functions hold to their readings without memory: printed by a program of ours. -/
import Derived.Test.YtjekmhinmcniaaaSeLPairs
namespace Go.Proofs.Ytjekmhinmcniaaa
open Go Go.Ev Go.Sh Go.Proofs

/-! loop.example/g01297/laws.big -/
def laws_big_sh : List SkD := [.sl 5 (.int .u8)]
def laws_big_runG {α : Type} (F : Nat → List Int → (Bool → Option α) → Option α) (n : Nat) (p : List P1) (κ : Res → Option α) : Option α := match p with
  | [.rows (.int .u8) code] => F n code (fun v1 => κ ⟨[.bool v1], []⟩)
  | _ => none
def laws_big_run {α : Type} (n : Nat) (p : List P1) (κ : Res → Option α) : Option α := laws_big_runG laws_big n p κ
def laws_big_CG {α : Type}  (n : Nat) : FuncId → List D → (Res → Option α) → Option α := tabC []
def laws_big_C {α : Type} (n : Nat) : FuncId → List D → (Res → Option α) → Option α := laws_big_CG n
def laws_big_M : FuncId → List Nat := tabM []
def laws_big_lpsG {α : Type}  : List (LoopT α) := []
def laws_big_lps {α : Type} : List (LoopT α) := laws_big_lpsG
def laws_big_XG {α : Type}   (n : Nat) : Ctx α := ⟨laws_big_CG n, laws_big_M, eqs, lpOf (laws_big_lpsG) n⟩
def laws_big_X {α : Type} (n : Nat) : Ctx α := laws_big_XG n
def laws_big_Lt (np : Nat) (lent : List (Bool × Nat × Blk)) : Prop := np = 1 ∧ lent = []
def laws_big_body {α : Type}   (k : Nat) (code : List Int) (r0 : Bool → Option α) : Option α :=
  r0 (decide (4096 < (((List.length code) : Nat) : Int)))
theorem laws_big_gen {α : Type}   (n : Nat) (code : List Int) (κ : Res → Option α) : evFn Try.prog (laws_big_XG n) Try.f18 (((buildDs laws_big_sh [.rows (.int .u8) code]).map Prod.fst).getD []) κ = laws_big_body n code (fun v1 => κ ⟨[.bool v1], []⟩) := by kernel_rfl
theorem laws_big_eq {α : Type} (n : Nat) (code : List Int) (r0 : Bool → Option α) : laws_big_body n code r0 = laws_big n code r0 := (laws_big_body.eq_1 n code r0).trans (laws_big.eq_1 n code r0).symm
theorem laws_big_rn {α : Type} (F : Nat → List Int → (Bool → Option α) → Option α) (n : Nat) (code : List Int) (κ : Res → Option α) : laws_big_runG F n [.rows (.int .u8) code] κ = F n code (fun v1 => κ ⟨[.bool v1], []⟩) := rfl
theorem laws_big_ev {α : Type} (n : Nat) (code : List Int) (κ : Res → Option α) : evFn Try.prog (laws_big_X n) Try.f18 (((buildDs laws_big_sh [.rows (.int .u8) code]).map Prod.fst).getD []) κ = laws_big_run n [.rows (.int .u8) code] κ := (laws_big_gen n code κ).trans ((laws_big_eq n code (fun v1 => κ ⟨[.bool v1], []⟩)).trans ((laws_big_run.eq_1 n [.rows (.int .u8) code] κ).trans (laws_big_rn laws_big n code κ)).symm)
theorem laws_big_en (code : List Int) : (entry 0 (((buildDs laws_big_sh [.rows (.int .u8) code]).map Prod.fst).getD [])).map (fun x => (x.1.length, x.2.lent)) = some (1, []) := by kernel_rfl
theorem laws_big_good {α : Type} : ∀ n, GoodFn (α := α) Try.prog 18 (byShape laws_big_sh (laws_big_run n)) := by
  refine fn_good' Try.func18 (c := (Try.f18.body.getD .skip)) (by kernel_rfl) (by kernel_rfl) (by kernel_rfl) laws_big_C laws_big_M eqs laws_big_lps (fun n => tabC_good (fun _ h => absurd h List.not_mem_nil)) eqs_ok laws_big_Lt ?_ ?_ laws_big_sh laws_big_run ?_
  · exact (fun _ h => absurd h List.not_mem_nil)
  · exact (fun _ h => absurd h List.not_mem_nil)
  · intro n p κ r ds hd hr
    have hr0 := hr
    unfold laws_big_run laws_big_runG at hr
    split at hr
    · rw [← ds_of hd]
      exact ⟨en_of (laws_big_en _) ⟨rfl, rfl⟩, (laws_big_ev n _ κ).trans hr0⟩
    · cases hr

/-! loop.example/g01297/spec.l01From -/
def spec_l01From_sh : List SkD := [.sl 5 (.int .u8)]
def spec_l01From_runG {α : Type} (F : Nat → List Int → (Int → Int → Option α) → Option α) (n : Nat) (p : List P1) (κ : Res → Option α) : Option α := match p with
  | [.rows (.int .u8) code] => F n code (fun v1 v2 => κ ⟨[.ptr 193 [.same 0, .int .i64 v1, .int .u64 v2]], []⟩)
  | _ => none
def spec_l01From_run {α : Type} (n : Nat) (p : List P1) (κ : Res → Option α) : Option α := spec_l01From_runG spec_l01From n p κ
def spec_l01From_CG {α : Type}  (n : Nat) : FuncId → List D → (Res → Option α) → Option α := tabC []
def spec_l01From_C {α : Type} (n : Nat) : FuncId → List D → (Res → Option α) → Option α := spec_l01From_CG n
def spec_l01From_M : FuncId → List Nat := tabM []
def spec_l01From_t3 : Tpl := ⟨[.sl 0, .any, .any, .ptr 704 0 0, .int .i64, .any, .any, .any, .any, .any, .any, .any, .any, .any, .any, .any, .any, .any, .any, .any, .any, .any, .any, .any, .any, .any, .any, .any, .any, .any, .any, .any, .any, .any, .any, .any, .any, .any], [(0, .rows 0 5 (.int .u8)), (704, .mix 2 193 [.sl 0, .int .i64, .int .u64])], []⟩
def spec_l01From_uG3 {α : Type} (G : Nat → Int → List Int → Int → Int → (Int → List Int → Int → Int → Option α) → (Int → Int → Option α) → Option α) (n : Nat) (p : List P1) (brk : Nat → List P1 → Option α) (ret : Res → Option α) : Option α := match p with
  | [.int i, .rows (.int .u8) code1, .int s, .int s1] => G n i code1 s s1 (fun i code1 s s1 => brk 0 [.int i, .rows (.int .u8) code1, .int s, .int s1]) (fun v1 v2 => ret ⟨[.ptr 193 [.same 0, .int .i64 v1, .int .u64 v2]], []⟩)
  | _ => none
def spec_l01From_u3 {α : Type} (n : Nat) (p : List P1) (brk : Nat → List P1 → Option α) (ret : Res → Option α) : Option α := spec_l01From_uG3 spec_l01From_l3 n p brk ret
def spec_l01From_lpsG {α : Type} (G3 : Nat → Int → List Int → Int → Int → (Int → List Int → Int → Int → Option α) → (Int → Int → Option α) → Option α) : List (LoopT α) := [⟨3, spec_l01From_t3, spec_l01From_uG3 G3⟩]
def spec_l01From_lps {α : Type} : List (LoopT α) := spec_l01From_lpsG spec_l01From_l3
def spec_l01From_XG {α : Type}  (G3 : Nat → Int → List Int → Int → Int → (Int → List Int → Int → Int → Option α) → (Int → Int → Option α) → Option α) (n : Nat) : Ctx α := ⟨spec_l01From_CG n, spec_l01From_M, eqs, lpOf (spec_l01From_lpsG G3) n⟩
def spec_l01From_X {α : Type} (n : Nat) : Ctx α := spec_l01From_XG spec_l01From_l3 n
def spec_l01From_Lt (np : Nat) (lent : List (Bool × Nat × Blk)) : Prop := np = 1 ∧ lent = []
def spec_l01From_lb3 {α : Type}  (G3 : Nat → Int → List Int → Int → Int → (Int → List Int → Int → Int → Option α) → (Int → Int → Option α) → Option α) (k : Nat) (i : Int) (code1 : List Int) (s : Int) (s1 : Int) (b0 : Int → List Int → Int → Int → Option α) (r0 : Int → Int → Option α) : Option α :=
  bif decide (i < (((List.length code1) : Nat) : Int)) then
    bif decide (i < 4096) then
      bif (decide (0 ≤ i) && decide (i < (((List.length code1) : Nat) : Int))) then
        (code1[i.toNat]?).bind fun e_ =>
        G3 k (w64 (i + 1)) code1 s (IntKind.wrap .u64 ((IntKind.wrap .u64 ((IntKind.wrap .u64 (s1 * 1099511628211)) + (IntKind.wrap .u64 e_))) + 107)) b0 r0
      else
        none
    else
      b0 i code1 s s1
  else
    b0 i code1 s s1
theorem spec_l01From_l3_gen {α : Type}  (G3 : Nat → Int → List Int → Int → Int → (Int → List Int → Int → Int → Option α) → (Int → Int → Option α) → Option α) (n : Nat) (i : Int) (code1 : List Int) (s : Int) (s1 : Int) (brk : Nat → List P1 → Option α) (ret : Res → Option α) : ev ((spec_l01From_XG G3 n).env Try.prog Try.f160 1 []) (findLoop (loopsIn (Try.f160.body.getD .skip)) 3) ((spec_l01From_t3.build [.int i, .rows (.int .u8) code1, .int s, .int s1]).getD ⟨[], []⟩) (roundK (1 * 64) spec_l01From_t3 (fun q => spec_l01From_uG3 G3 n q brk ret) brk ret) = spec_l01From_lb3 G3 n i code1 s s1 (fun i code1 s s1 => brk 0 [.int i, .rows (.int .u8) code1, .int s, .int s1]) (fun v1 v2 => ret ⟨[.ptr 193 [.same 0, .int .i64 v1, .int .u64 v2]], []⟩) := by kernel_rfl
theorem spec_l01From_l3_eq {α : Type} (k : Nat) (i : Int) (code1 : List Int) (s : Int) (s1 : Int) (b0 : Int → List Int → Int → Int → Option α) (r0 : Int → Int → Option α) : spec_l01From_lb3 spec_l01From_l3 k i code1 s s1 b0 r0 = spec_l01From_l3 (k + 1) i code1 s s1 b0 r0 := (spec_l01From_lb3.eq_1 spec_l01From_l3 k i code1 s s1 b0 r0).trans (show spec_l01From_l3 (k + 1) i code1 s s1 b0 r0 = _ from spec_l01From_l3.eq_2 _ _ _ _ _ _ _ ).symm
theorem spec_l01From_l3_rn {α : Type} (G : Nat → Int → List Int → Int → Int → (Int → List Int → Int → Int → Option α) → (Int → Int → Option α) → Option α) (n : Nat) (i : Int) (code1 : List Int) (s : Int) (s1 : Int) (brk : Nat → List P1 → Option α) (ret : Res → Option α) : spec_l01From_uG3 G n [.int i, .rows (.int .u8) code1, .int s, .int s1] brk ret = G n i code1 s s1 (fun i code1 s s1 => brk 0 [.int i, .rows (.int .u8) code1, .int s, .int s1]) (fun v1 v2 => ret ⟨[.ptr 193 [.same 0, .int .i64 v1, .int .u64 v2]], []⟩) := rfl
theorem spec_l01From_l3_ev {α : Type} (n : Nat) (i : Int) (code1 : List Int) (s : Int) (s1 : Int) (brk : Nat → List P1 → Option α) (ret : Res → Option α) : ev ((spec_l01From_X n).env Try.prog Try.f160 1 []) (findLoop (loopsIn (Try.f160.body.getD .skip)) 3) ((spec_l01From_t3.build [.int i, .rows (.int .u8) code1, .int s, .int s1]).getD ⟨[], []⟩) (roundK (1 * 64) spec_l01From_t3 (fun q => spec_l01From_u3 n q brk ret) brk ret) = spec_l01From_u3 (n + 1) [.int i, .rows (.int .u8) code1, .int s, .int s1] brk ret := (spec_l01From_l3_gen spec_l01From_l3 n i code1 s s1 brk ret).trans ((spec_l01From_l3_eq n i code1 s s1 (fun i code1 s s1 => brk 0 [.int i, .rows (.int .u8) code1, .int s, .int s1]) (fun v1 v2 => ret ⟨[.ptr 193 [.same 0, .int .i64 v1, .int .u64 v2]], []⟩)).trans ((spec_l01From_u3.eq_1 (n + 1) [.int i, .rows (.int .u8) code1, .int s, .int s1] brk ret).trans (spec_l01From_l3_rn spec_l01From_l3 (n + 1) i code1 s s1 brk ret)).symm)
def spec_l01From_body {α : Type}  (G3 : Nat → Int → List Int → Int → Int → (Int → List Int → Int → Int → Option α) → (Int → Int → Option α) → Option α) (k : Nat) (code : List Int) (r0 : Int → Int → Option α) : Option α :=
  G3 k 0 code 0 (IntKind.wrap .u64 (12971 + (IntKind.wrap .u64 (((List.length code) : Nat) : Int))))
    (fun i1 code2 s2 s3 =>
      r0 s2 s3)
    r0
theorem spec_l01From_gen {α : Type}  (G3 : Nat → Int → List Int → Int → Int → (Int → List Int → Int → Int → Option α) → (Int → Int → Option α) → Option α) (n : Nat) (code : List Int) (κ : Res → Option α) : evFn Try.prog (spec_l01From_XG G3 n) Try.f160 (((buildDs spec_l01From_sh [.rows (.int .u8) code]).map Prod.fst).getD []) κ = spec_l01From_body G3 n code (fun v1 v2 => κ ⟨[.ptr 193 [.same 0, .int .i64 v1, .int .u64 v2]], []⟩) := by kernel_rfl
theorem spec_l01From_eq {α : Type} (n : Nat) (code : List Int) (r0 : Int → Int → Option α) : spec_l01From_body spec_l01From_l3 n code r0 = spec_l01From n code r0 := (spec_l01From_body.eq_1 spec_l01From_l3 n code r0).trans (spec_l01From.eq_1 n code r0).symm
theorem spec_l01From_rn {α : Type} (F : Nat → List Int → (Int → Int → Option α) → Option α) (n : Nat) (code : List Int) (κ : Res → Option α) : spec_l01From_runG F n [.rows (.int .u8) code] κ = F n code (fun v1 v2 => κ ⟨[.ptr 193 [.same 0, .int .i64 v1, .int .u64 v2]], []⟩) := rfl
theorem spec_l01From_ev {α : Type} (n : Nat) (code : List Int) (κ : Res → Option α) : evFn Try.prog (spec_l01From_X n) Try.f160 (((buildDs spec_l01From_sh [.rows (.int .u8) code]).map Prod.fst).getD []) κ = spec_l01From_run n [.rows (.int .u8) code] κ := (spec_l01From_gen spec_l01From_l3 n code κ).trans ((spec_l01From_eq n code (fun v1 v2 => κ ⟨[.ptr 193 [.same 0, .int .i64 v1, .int .u64 v2]], []⟩)).trans ((spec_l01From_run.eq_1 n [.rows (.int .u8) code] κ).trans (spec_l01From_rn spec_l01From n code κ)).symm)
theorem spec_l01From_en (code : List Int) : (entry 0 (((buildDs spec_l01From_sh [.rows (.int .u8) code]).map Prod.fst).getD [])).map (fun x => (x.1.length, x.2.lent)) = some (1, []) := by kernel_rfl
theorem spec_l01From_good {α : Type} : ∀ n, GoodFn (α := α) Try.prog 160 (byShape spec_l01From_sh (spec_l01From_run n)) := by
  refine fn_good' Try.func160 (c := (Try.f160.body.getD .skip)) (by kernel_rfl) (by kernel_rfl) (by kernel_rfl) spec_l01From_C spec_l01From_M eqs spec_l01From_lps (fun n => tabC_good (fun _ h => absurd h List.not_mem_nil)) eqs_ok spec_l01From_Lt ?_ ?_ spec_l01From_sh spec_l01From_run ?_
  · refine List.forall_mem_cons.2 ⟨?_, (fun _ h => absurd h List.not_mem_nil)⟩
    · intro p brk ret; show spec_l01From_u3 0 p brk ret = none; unfold spec_l01From_u3 spec_l01From_uG3; split <;> rfl
  · refine List.forall_mem_cons.2 ⟨?_, (fun _ h => absurd h List.not_mem_nil)⟩
    · intro np lent hL n p brk ret st r hb hr
      obtain ⟨rfl, rfl⟩ := hL
      rw [← tpl_of hb]
      change spec_l01From_u3 (n + 1) p brk ret = some r at hr
      have hr0 := hr
      unfold spec_l01From_u3 spec_l01From_uG3 at hr
      split at hr
      · exact (spec_l01From_l3_ev n _ _ _ _ brk ret).trans hr0
      · cases hr
  · intro n p κ r ds hd hr
    have hr0 := hr
    unfold spec_l01From_run spec_l01From_runG at hr
    split at hr
    · rw [← ds_of hd]
      exact ⟨en_of (spec_l01From_en _) ⟨rfl, rfl⟩, (spec_l01From_ev n _ κ).trans hr0⟩
    · cases hr

/-! loop.example/g01297/spec.l01Next -/
def spec_l01Next_sh : List SkD := [.mptr 193 [.sl 5 (.int .u8), .int .i64, .int .u64], .int .i64]
def spec_l01Next_runG {α : Type} (F : Nat → List Int → Int → Int → Int → (Int → Int → Int → Option α) → Option α) (n : Nat) (p : List P1) (κ : Res → Option α) : Option α := match p with
  | [.rows (.int .u8) s, .int s1, .int s2, .int n_] => F n s s1 s2 n_ (fun v1 v2 v3 => κ ⟨[.int .i64 v1], [.ptr 193 [.keep, .int .i64 v2, .int .u64 v3]]⟩)
  | _ => none
def spec_l01Next_run {α : Type} (n : Nat) (p : List P1) (κ : Res → Option α) : Option α := spec_l01Next_runG spec_l01Next n p κ
def spec_l01Next_CG {α : Type}  (n : Nat) : FuncId → List D → (Res → Option α) → Option α := tabC []
def spec_l01Next_C {α : Type} (n : Nat) : FuncId → List D → (Res → Option α) → Option α := spec_l01Next_CG n
def spec_l01Next_M : FuncId → List Nat := tabM []
def spec_l01Next_lpsG {α : Type}  : List (LoopT α) := []
def spec_l01Next_lps {α : Type} : List (LoopT α) := spec_l01Next_lpsG
def spec_l01Next_XG {α : Type}   (n : Nat) : Ctx α := ⟨spec_l01Next_CG n, spec_l01Next_M, eqs, lpOf (spec_l01Next_lpsG) n⟩
def spec_l01Next_X {α : Type} (n : Nat) : Ctx α := spec_l01Next_XG n
def spec_l01Next_Lt (np : Nat) (lent : List (Bool × Nat × Blk)) : Prop := np = 2 ∧ ∃ (s1 : Int) (s2 : Int), lent = [(false, 0, boxBlk 1 193 [.sl 1, .int .i64 s1, .int .u64 s2])]
def spec_l01Next_body {α : Type}   (k : Nat) (s : List Int) (s1 : Int) (s2 : Int) (n_ : Int) (r0 : Int → Int → Int → Option α) : Option α :=
  bif decide (n_ < 1) then
    r0 0 s1 s2
  else
  bif decide (s1 < (((List.length s) : Nat) : Int)) then
    bif (decide (0 ≤ s1) && decide (s1 < (((List.length s) : Nat) : Int))) then
      (s[s1.toNat]?).bind fun e_ =>
      bif decide (n_ = 0) then
        none
      else
        r0 (Int.tmod (w64 ((w64 (IntKind.wrap .u64 ((BitVec.ofInt 64 (Int.fdiv (IntKind.wrap .u64 ((IntKind.wrap .u64 (s2 * 6364136223846793005)) + 1442695040888963407)) (2 ^ 31)) &&& BitVec.ofInt 64 1073741823).toNat))) + (w64 e_))) n_) (w64 (s1 + 1)) (IntKind.wrap .u64 ((IntKind.wrap .u64 (s2 * 6364136223846793005)) + 1442695040888963407))
    else
      none
  else
  bif decide (n_ = 0) then
    none
  else
    r0 (Int.tmod (w64 (IntKind.wrap .u64 ((BitVec.ofInt 64 (Int.fdiv (IntKind.wrap .u64 ((IntKind.wrap .u64 (s2 * 6364136223846793005)) + 1442695040888963407)) (2 ^ 31)) &&& BitVec.ofInt 64 1073741823).toNat))) n_) s1 (IntKind.wrap .u64 ((IntKind.wrap .u64 (s2 * 6364136223846793005)) + 1442695040888963407))
theorem spec_l01Next_gen {α : Type}   (n : Nat) (s : List Int) (s1 : Int) (s2 : Int) (n_ : Int) (κ : Res → Option α) : evFn Try.prog (spec_l01Next_XG n) Try.f161 (((buildDs spec_l01Next_sh [.rows (.int .u8) s, .int s1, .int s2, .int n_]).map Prod.fst).getD []) κ = spec_l01Next_body n s s1 s2 n_ (fun v1 v2 v3 => κ ⟨[.int .i64 v1], [.ptr 193 [.keep, .int .i64 v2, .int .u64 v3]]⟩) := by kernel_rfl
theorem spec_l01Next_eq {α : Type} (n : Nat) (s : List Int) (s1 : Int) (s2 : Int) (n_ : Int) (r0 : Int → Int → Int → Option α) : spec_l01Next_body n s s1 s2 n_ r0 = spec_l01Next n s s1 s2 n_ r0 := (spec_l01Next_body.eq_1 n s s1 s2 n_ r0).trans (spec_l01Next.eq_1 n s s1 s2 n_ r0).symm
theorem spec_l01Next_rn {α : Type} (F : Nat → List Int → Int → Int → Int → (Int → Int → Int → Option α) → Option α) (n : Nat) (s : List Int) (s1 : Int) (s2 : Int) (n_ : Int) (κ : Res → Option α) : spec_l01Next_runG F n [.rows (.int .u8) s, .int s1, .int s2, .int n_] κ = F n s s1 s2 n_ (fun v1 v2 v3 => κ ⟨[.int .i64 v1], [.ptr 193 [.keep, .int .i64 v2, .int .u64 v3]]⟩) := rfl
theorem spec_l01Next_ev {α : Type} (n : Nat) (s : List Int) (s1 : Int) (s2 : Int) (n_ : Int) (κ : Res → Option α) : evFn Try.prog (spec_l01Next_X n) Try.f161 (((buildDs spec_l01Next_sh [.rows (.int .u8) s, .int s1, .int s2, .int n_]).map Prod.fst).getD []) κ = spec_l01Next_run n [.rows (.int .u8) s, .int s1, .int s2, .int n_] κ := (spec_l01Next_gen n s s1 s2 n_ κ).trans ((spec_l01Next_eq n s s1 s2 n_ (fun v1 v2 v3 => κ ⟨[.int .i64 v1], [.ptr 193 [.keep, .int .i64 v2, .int .u64 v3]]⟩)).trans ((spec_l01Next_run.eq_1 n [.rows (.int .u8) s, .int s1, .int s2, .int n_] κ).trans (spec_l01Next_rn spec_l01Next n s s1 s2 n_ κ)).symm)
theorem spec_l01Next_en (s : List Int) (s1 : Int) (s2 : Int) (n_ : Int) : (entry 0 (((buildDs spec_l01Next_sh [.rows (.int .u8) s, .int s1, .int s2, .int n_]).map Prod.fst).getD [])).map (fun x => (x.1.length, x.2.lent)) = some (2, [(false, 0, boxBlk 1 193 [.sl 1, .int .i64 s1, .int .u64 s2])]) := by kernel_rfl
theorem spec_l01Next_good {α : Type} : ∀ n, GoodFn (α := α) Try.prog 161 (byShape spec_l01Next_sh (spec_l01Next_run n)) := by
  refine fn_good' Try.func161 (c := (Try.f161.body.getD .skip)) (by kernel_rfl) (by kernel_rfl) (by kernel_rfl) spec_l01Next_C spec_l01Next_M eqs spec_l01Next_lps (fun n => tabC_good (fun _ h => absurd h List.not_mem_nil)) eqs_ok spec_l01Next_Lt ?_ ?_ spec_l01Next_sh spec_l01Next_run ?_
  · exact (fun _ h => absurd h List.not_mem_nil)
  · exact (fun _ h => absurd h List.not_mem_nil)
  · intro n p κ r ds hd hr
    have hr0 := hr
    unfold spec_l01Next_run spec_l01Next_runG at hr
    split at hr
    · rw [← ds_of hd]
      exact ⟨en_of (spec_l01Next_en _ _ _ _) ⟨rfl, _, _, rfl⟩, (spec_l01Next_ev n _ _ _ _ κ).trans hr0⟩
    · cases hr

/-! loop.example/g01297/spec.l01Pick -/
def spec_l01Pick_sh : List SkD := [.mptr 193 [.sl 5 (.int .u8), .int .i64, .int .u64], .sl 2 (.int .i64)]
def spec_l01Pick_runG {α : Type} (F : Nat → List Int → Int → Int → List Int → (Int → Int → Int → Option α) → Option α) (n : Nat) (p : List P1) (κ : Res → Option α) : Option α := match p with
  | [.rows (.int .u8) s, .int s1, .int s2, .rows (.int .i64) list] => F n s s1 s2 list (fun v1 v2 v3 => κ ⟨[.int .i64 v1], [.ptr 193 [.keep, .int .i64 v2, .int .u64 v3]]⟩)
  | _ => none
def spec_l01Pick_run {α : Type} (n : Nat) (p : List P1) (κ : Res → Option α) : Option α := spec_l01Pick_runG spec_l01Pick n p κ
def spec_l01Pick_CG {α : Type} (F0 : Nat → List Int → Int → Int → Int → (Int → Int → Int → Option α) → Option α) (n : Nat) : FuncId → List D → (Res → Option α) → Option α := tabC [(161, (byShape spec_l01Next_sh (spec_l01Next_runG F0 n)))]
def spec_l01Pick_C {α : Type} (n : Nat) : FuncId → List D → (Res → Option α) → Option α := spec_l01Pick_CG spec_l01Next n
def spec_l01Pick_M : FuncId → List Nat := tabM [(161, [1])]
def spec_l01Pick_lpsG {α : Type}  : List (LoopT α) := []
def spec_l01Pick_lps {α : Type} : List (LoopT α) := spec_l01Pick_lpsG
def spec_l01Pick_XG {α : Type} (F0 : Nat → List Int → Int → Int → Int → (Int → Int → Int → Option α) → Option α)  (n : Nat) : Ctx α := ⟨spec_l01Pick_CG F0 n, spec_l01Pick_M, eqs, lpOf (spec_l01Pick_lpsG) n⟩
def spec_l01Pick_X {α : Type} (n : Nat) : Ctx α := spec_l01Pick_XG spec_l01Next n
def spec_l01Pick_Lt (np : Nat) (lent : List (Bool × Nat × Blk)) : Prop := np = 2 ∧ ∃ (s1 : Int) (s2 : Int), lent = [(false, 0, boxBlk 1 193 [.sl 1, .int .i64 s1, .int .u64 s2])]
def spec_l01Pick_body {α : Type} (F0 : Nat → List Int → Int → Int → Int → (Int → Int → Int → Option α) → Option α)  (k : Nat) (s : List Int) (s1 : Int) (s2 : Int) (list : List Int) (r0 : Int → Int → Int → Option α) : Option α :=
  F0 k s s1 s2 (((List.length list) : Nat) : Int) fun v v1 v2 =>
  bif (decide (0 ≤ v) && decide (v < (((List.length list) : Nat) : Int))) then
    (list[v.toNat]?).bind fun e_ =>
    r0 e_ v1 v2
  else
    none
theorem spec_l01Pick_gen {α : Type} (F0 : Nat → List Int → Int → Int → Int → (Int → Int → Int → Option α) → Option α)  (n : Nat) (s : List Int) (s1 : Int) (s2 : Int) (list : List Int) (κ : Res → Option α) : evFn Try.prog (spec_l01Pick_XG F0 n) Try.f216 (((buildDs spec_l01Pick_sh [.rows (.int .u8) s, .int s1, .int s2, .rows (.int .i64) list]).map Prod.fst).getD []) κ = spec_l01Pick_body F0 n s s1 s2 list (fun v1 v2 v3 => κ ⟨[.int .i64 v1], [.ptr 193 [.keep, .int .i64 v2, .int .u64 v3]]⟩) := by kernel_rfl
theorem spec_l01Pick_eq {α : Type} (n : Nat) (s : List Int) (s1 : Int) (s2 : Int) (list : List Int) (r0 : Int → Int → Int → Option α) : spec_l01Pick_body spec_l01Next n s s1 s2 list r0 = spec_l01Pick n s s1 s2 list r0 := (spec_l01Pick_body.eq_1 spec_l01Next n s s1 s2 list r0).trans (spec_l01Pick.eq_1 n s s1 s2 list r0).symm
theorem spec_l01Pick_rn {α : Type} (F : Nat → List Int → Int → Int → List Int → (Int → Int → Int → Option α) → Option α) (n : Nat) (s : List Int) (s1 : Int) (s2 : Int) (list : List Int) (κ : Res → Option α) : spec_l01Pick_runG F n [.rows (.int .u8) s, .int s1, .int s2, .rows (.int .i64) list] κ = F n s s1 s2 list (fun v1 v2 v3 => κ ⟨[.int .i64 v1], [.ptr 193 [.keep, .int .i64 v2, .int .u64 v3]]⟩) := rfl
theorem spec_l01Pick_ev {α : Type} (n : Nat) (s : List Int) (s1 : Int) (s2 : Int) (list : List Int) (κ : Res → Option α) : evFn Try.prog (spec_l01Pick_X n) Try.f216 (((buildDs spec_l01Pick_sh [.rows (.int .u8) s, .int s1, .int s2, .rows (.int .i64) list]).map Prod.fst).getD []) κ = spec_l01Pick_run n [.rows (.int .u8) s, .int s1, .int s2, .rows (.int .i64) list] κ := (spec_l01Pick_gen spec_l01Next n s s1 s2 list κ).trans ((spec_l01Pick_eq n s s1 s2 list (fun v1 v2 v3 => κ ⟨[.int .i64 v1], [.ptr 193 [.keep, .int .i64 v2, .int .u64 v3]]⟩)).trans ((spec_l01Pick_run.eq_1 n [.rows (.int .u8) s, .int s1, .int s2, .rows (.int .i64) list] κ).trans (spec_l01Pick_rn spec_l01Pick n s s1 s2 list κ)).symm)
theorem spec_l01Pick_en (s : List Int) (s1 : Int) (s2 : Int) (list : List Int) : (entry 0 (((buildDs spec_l01Pick_sh [.rows (.int .u8) s, .int s1, .int s2, .rows (.int .i64) list]).map Prod.fst).getD [])).map (fun x => (x.1.length, x.2.lent)) = some (2, [(false, 0, boxBlk 1 193 [.sl 1, .int .i64 s1, .int .u64 s2])]) := by kernel_rfl
theorem spec_l01Pick_good {α : Type} : ∀ n, GoodFn (α := α) Try.prog 216 (byShape spec_l01Pick_sh (spec_l01Pick_run n)) := by
  refine fn_good' Try.func216 (c := (Try.f216.body.getD .skip)) (by kernel_rfl) (by kernel_rfl) (by kernel_rfl) spec_l01Pick_C spec_l01Pick_M eqs spec_l01Pick_lps (fun n => tabC_good (List.forall_mem_cons.2 ⟨(spec_l01Next_good n), (fun _ h => absurd h List.not_mem_nil)⟩)) eqs_ok spec_l01Pick_Lt ?_ ?_ spec_l01Pick_sh spec_l01Pick_run ?_
  · exact (fun _ h => absurd h List.not_mem_nil)
  · exact (fun _ h => absurd h List.not_mem_nil)
  · intro n p κ r ds hd hr
    have hr0 := hr
    unfold spec_l01Pick_run spec_l01Pick_runG at hr
    split at hr
    · rw [← ds_of hd]
      exact ⟨en_of (spec_l01Pick_en _ _ _ _) ⟨rfl, _, _, rfl⟩, (spec_l01Pick_ev n _ _ _ _ κ).trans hr0⟩
    · cases hr

/-! loop.example/g01297/spec.l01Size -/
def spec_l01Size_sh : List SkD := [.mptr 193 [.sl 5 (.int .u8), .int .i64, .int .u64]]
def spec_l01Size_runG {α : Type} (F : Nat → List Int → Int → Int → (Int → Int → Int → Option α) → Option α) (n : Nat) (p : List P1) (κ : Res → Option α) : Option α := match p with
  | [.rows (.int .u8) s, .int s1, .int s2] => F n s s1 s2 (fun v1 v2 v3 => κ ⟨[.int .i64 v1], [.ptr 193 [.keep, .int .i64 v2, .int .u64 v3]]⟩)
  | _ => none
def spec_l01Size_run {α : Type} (n : Nat) (p : List P1) (κ : Res → Option α) : Option α := spec_l01Size_runG spec_l01Size n p κ
def spec_l01Size_CG {α : Type} (F0 : Nat → List Int → Int → Int → List Int → (Int → Int → Int → Option α) → Option α) (n : Nat) : FuncId → List D → (Res → Option α) → Option α := tabC [(216, (byShape spec_l01Pick_sh (spec_l01Pick_runG F0 n)))]
def spec_l01Size_C {α : Type} (n : Nat) : FuncId → List D → (Res → Option α) → Option α := spec_l01Size_CG spec_l01Pick n
def spec_l01Size_M : FuncId → List Nat := tabM [(216, [1])]
def spec_l01Size_lpsG {α : Type}  : List (LoopT α) := []
def spec_l01Size_lps {α : Type} : List (LoopT α) := spec_l01Size_lpsG
def spec_l01Size_XG {α : Type} (F0 : Nat → List Int → Int → Int → List Int → (Int → Int → Int → Option α) → Option α)  (n : Nat) : Ctx α := ⟨spec_l01Size_CG F0 n, spec_l01Size_M, eqs, lpOf (spec_l01Size_lpsG) n⟩
def spec_l01Size_X {α : Type} (n : Nat) : Ctx α := spec_l01Size_XG spec_l01Pick n
def spec_l01Size_Lt (np : Nat) (lent : List (Bool × Nat × Blk)) : Prop := np = 1 ∧ ∃ (s1 : Int) (s2 : Int), lent = [(false, 0, boxBlk 1 193 [.sl 1, .int .i64 s1, .int .u64 s2])]
def spec_l01Size_body {α : Type} (F0 : Nat → List Int → Int → Int → List Int → (Int → Int → Int → Option α) → Option α)  (k : Nat) (s : List Int) (s1 : Int) (s2 : Int) (r0 : Int → Int → Int → Option α) : Option α :=
  F0 k s s1 s2 [3, 6, 12, 100, 1000, 1000000] fun v v1 v2 =>
  r0 v v1 v2
theorem spec_l01Size_gen {α : Type} (F0 : Nat → List Int → Int → Int → List Int → (Int → Int → Int → Option α) → Option α)  (n : Nat) (s : List Int) (s1 : Int) (s2 : Int) (κ : Res → Option α) : evFn Try.prog (spec_l01Size_XG F0 n) Try.f237 (((buildDs spec_l01Size_sh [.rows (.int .u8) s, .int s1, .int s2]).map Prod.fst).getD []) κ = spec_l01Size_body F0 n s s1 s2 (fun v1 v2 v3 => κ ⟨[.int .i64 v1], [.ptr 193 [.keep, .int .i64 v2, .int .u64 v3]]⟩) := by kernel_rfl
theorem spec_l01Size_eq {α : Type} (n : Nat) (s : List Int) (s1 : Int) (s2 : Int) (r0 : Int → Int → Int → Option α) : spec_l01Size_body spec_l01Pick n s s1 s2 r0 = spec_l01Size n s s1 s2 r0 := (spec_l01Size_body.eq_1 spec_l01Pick n s s1 s2 r0).trans (spec_l01Size.eq_1 n s s1 s2 r0).symm
theorem spec_l01Size_rn {α : Type} (F : Nat → List Int → Int → Int → (Int → Int → Int → Option α) → Option α) (n : Nat) (s : List Int) (s1 : Int) (s2 : Int) (κ : Res → Option α) : spec_l01Size_runG F n [.rows (.int .u8) s, .int s1, .int s2] κ = F n s s1 s2 (fun v1 v2 v3 => κ ⟨[.int .i64 v1], [.ptr 193 [.keep, .int .i64 v2, .int .u64 v3]]⟩) := rfl
theorem spec_l01Size_ev {α : Type} (n : Nat) (s : List Int) (s1 : Int) (s2 : Int) (κ : Res → Option α) : evFn Try.prog (spec_l01Size_X n) Try.f237 (((buildDs spec_l01Size_sh [.rows (.int .u8) s, .int s1, .int s2]).map Prod.fst).getD []) κ = spec_l01Size_run n [.rows (.int .u8) s, .int s1, .int s2] κ := (spec_l01Size_gen spec_l01Pick n s s1 s2 κ).trans ((spec_l01Size_eq n s s1 s2 (fun v1 v2 v3 => κ ⟨[.int .i64 v1], [.ptr 193 [.keep, .int .i64 v2, .int .u64 v3]]⟩)).trans ((spec_l01Size_run.eq_1 n [.rows (.int .u8) s, .int s1, .int s2] κ).trans (spec_l01Size_rn spec_l01Size n s s1 s2 κ)).symm)
theorem spec_l01Size_en (s : List Int) (s1 : Int) (s2 : Int) : (entry 0 (((buildDs spec_l01Size_sh [.rows (.int .u8) s, .int s1, .int s2]).map Prod.fst).getD [])).map (fun x => (x.1.length, x.2.lent)) = some (1, [(false, 0, boxBlk 1 193 [.sl 1, .int .i64 s1, .int .u64 s2])]) := by kernel_rfl
theorem spec_l01Size_good {α : Type} : ∀ n, GoodFn (α := α) Try.prog 237 (byShape spec_l01Size_sh (spec_l01Size_run n)) := by
  refine fn_good' Try.func237 (c := (Try.f237.body.getD .skip)) (by kernel_rfl) (by kernel_rfl) (by kernel_rfl) spec_l01Size_C spec_l01Size_M eqs spec_l01Size_lps (fun n => tabC_good (List.forall_mem_cons.2 ⟨(spec_l01Pick_good n), (fun _ h => absurd h List.not_mem_nil)⟩)) eqs_ok spec_l01Size_Lt ?_ ?_ spec_l01Size_sh spec_l01Size_run ?_
  · exact (fun _ h => absurd h List.not_mem_nil)
  · exact (fun _ h => absurd h List.not_mem_nil)
  · intro n p κ r ds hd hr
    have hr0 := hr
    unfold spec_l01Size_run spec_l01Size_runG at hr
    split at hr
    · rw [← ds_of hd]
      exact ⟨en_of (spec_l01Size_en _ _ _) ⟨rfl, _, _, rfl⟩, (spec_l01Size_ev n _ _ _ κ).trans hr0⟩
    · cases hr

/-! loop.example/g01297/spec.l01DrawPoint -/
def spec_l01DrawPoint_sh : List SkD := [.mptr 193 [.sl 5 (.int .u8), .int .i64, .int .u64], .int .i64]
def spec_l01DrawPoint_runG {α : Type} (F : Nat → List Int → Int → Int → Int → (Int → Int → Int → Int → Option α) → Option α) (n : Nat) (p : List P1) (κ : Res → Option α) : Option α := match p with
  | [.rows (.int .u8) s, .int s1, .int s2, .int most] => F n s s1 s2 most (fun v1 v2 v3 v4 => κ ⟨[.agg [.int .i64 v1, .int .i64 v2]], [.ptr 193 [.keep, .int .i64 v3, .int .u64 v4]]⟩)
  | _ => none
def spec_l01DrawPoint_run {α : Type} (n : Nat) (p : List P1) (κ : Res → Option α) : Option α := spec_l01DrawPoint_runG spec_l01DrawPoint n p κ
def spec_l01DrawPoint_CG {α : Type} (F0 : Nat → List Int → Int → Int → Int → (Int → Int → Int → Option α) → Option α) (n : Nat) : FuncId → List D → (Res → Option α) → Option α := tabC [(161, (byShape spec_l01Next_sh (spec_l01Next_runG F0 n)))]
def spec_l01DrawPoint_C {α : Type} (n : Nat) : FuncId → List D → (Res → Option α) → Option α := spec_l01DrawPoint_CG spec_l01Next n
def spec_l01DrawPoint_M : FuncId → List Nat := tabM [(161, [1])]
def spec_l01DrawPoint_lpsG {α : Type}  : List (LoopT α) := []
def spec_l01DrawPoint_lps {α : Type} : List (LoopT α) := spec_l01DrawPoint_lpsG
def spec_l01DrawPoint_XG {α : Type} (F0 : Nat → List Int → Int → Int → Int → (Int → Int → Int → Option α) → Option α)  (n : Nat) : Ctx α := ⟨spec_l01DrawPoint_CG F0 n, spec_l01DrawPoint_M, eqs, lpOf (spec_l01DrawPoint_lpsG) n⟩
def spec_l01DrawPoint_X {α : Type} (n : Nat) : Ctx α := spec_l01DrawPoint_XG spec_l01Next n
def spec_l01DrawPoint_Lt (np : Nat) (lent : List (Bool × Nat × Blk)) : Prop := np = 2 ∧ ∃ (s1 : Int) (s2 : Int), lent = [(false, 0, boxBlk 1 193 [.sl 1, .int .i64 s1, .int .u64 s2])]
def spec_l01DrawPoint_body {α : Type} (F0 : Nat → List Int → Int → Int → Int → (Int → Int → Int → Option α) → Option α)  (k : Nat) (s : List Int) (s1 : Int) (s2 : Int) (most : Int) (r0 : Int → Int → Int → Int → Option α) : Option α :=
  F0 k s s1 s2 (w64 ((w64 (2 * most)) + 1)) fun v v1 v2 =>
  F0 k s v1 v2 (w64 ((w64 (2 * most)) + 1)) fun v3 v4 v5 =>
  r0 (w64 (v - most)) (w64 (v3 - most)) v4 v5
theorem spec_l01DrawPoint_gen {α : Type} (F0 : Nat → List Int → Int → Int → Int → (Int → Int → Int → Option α) → Option α)  (n : Nat) (s : List Int) (s1 : Int) (s2 : Int) (most : Int) (κ : Res → Option α) : evFn Try.prog (spec_l01DrawPoint_XG F0 n) Try.f248 (((buildDs spec_l01DrawPoint_sh [.rows (.int .u8) s, .int s1, .int s2, .int most]).map Prod.fst).getD []) κ = spec_l01DrawPoint_body F0 n s s1 s2 most (fun v1 v2 v3 v4 => κ ⟨[.agg [.int .i64 v1, .int .i64 v2]], [.ptr 193 [.keep, .int .i64 v3, .int .u64 v4]]⟩) := by kernel_rfl
theorem spec_l01DrawPoint_eq {α : Type} (n : Nat) (s : List Int) (s1 : Int) (s2 : Int) (most : Int) (r0 : Int → Int → Int → Int → Option α) : spec_l01DrawPoint_body spec_l01Next n s s1 s2 most r0 = spec_l01DrawPoint n s s1 s2 most r0 := (spec_l01DrawPoint_body.eq_1 spec_l01Next n s s1 s2 most r0).trans (spec_l01DrawPoint.eq_1 n s s1 s2 most r0).symm
theorem spec_l01DrawPoint_rn {α : Type} (F : Nat → List Int → Int → Int → Int → (Int → Int → Int → Int → Option α) → Option α) (n : Nat) (s : List Int) (s1 : Int) (s2 : Int) (most : Int) (κ : Res → Option α) : spec_l01DrawPoint_runG F n [.rows (.int .u8) s, .int s1, .int s2, .int most] κ = F n s s1 s2 most (fun v1 v2 v3 v4 => κ ⟨[.agg [.int .i64 v1, .int .i64 v2]], [.ptr 193 [.keep, .int .i64 v3, .int .u64 v4]]⟩) := rfl
theorem spec_l01DrawPoint_ev {α : Type} (n : Nat) (s : List Int) (s1 : Int) (s2 : Int) (most : Int) (κ : Res → Option α) : evFn Try.prog (spec_l01DrawPoint_X n) Try.f248 (((buildDs spec_l01DrawPoint_sh [.rows (.int .u8) s, .int s1, .int s2, .int most]).map Prod.fst).getD []) κ = spec_l01DrawPoint_run n [.rows (.int .u8) s, .int s1, .int s2, .int most] κ := (spec_l01DrawPoint_gen spec_l01Next n s s1 s2 most κ).trans ((spec_l01DrawPoint_eq n s s1 s2 most (fun v1 v2 v3 v4 => κ ⟨[.agg [.int .i64 v1, .int .i64 v2]], [.ptr 193 [.keep, .int .i64 v3, .int .u64 v4]]⟩)).trans ((spec_l01DrawPoint_run.eq_1 n [.rows (.int .u8) s, .int s1, .int s2, .int most] κ).trans (spec_l01DrawPoint_rn spec_l01DrawPoint n s s1 s2 most κ)).symm)
theorem spec_l01DrawPoint_en (s : List Int) (s1 : Int) (s2 : Int) (most : Int) : (entry 0 (((buildDs spec_l01DrawPoint_sh [.rows (.int .u8) s, .int s1, .int s2, .int most]).map Prod.fst).getD [])).map (fun x => (x.1.length, x.2.lent)) = some (2, [(false, 0, boxBlk 1 193 [.sl 1, .int .i64 s1, .int .u64 s2])]) := by kernel_rfl
theorem spec_l01DrawPoint_good {α : Type} : ∀ n, GoodFn (α := α) Try.prog 248 (byShape spec_l01DrawPoint_sh (spec_l01DrawPoint_run n)) := by
  refine fn_good' Try.func248 (c := (Try.f248.body.getD .skip)) (by kernel_rfl) (by kernel_rfl) (by kernel_rfl) spec_l01DrawPoint_C spec_l01DrawPoint_M eqs spec_l01DrawPoint_lps (fun n => tabC_good (List.forall_mem_cons.2 ⟨(spec_l01Next_good n), (fun _ h => absurd h List.not_mem_nil)⟩)) eqs_ok spec_l01DrawPoint_Lt ?_ ?_ spec_l01DrawPoint_sh spec_l01DrawPoint_run ?_
  · exact (fun _ h => absurd h List.not_mem_nil)
  · exact (fun _ h => absurd h List.not_mem_nil)
  · intro n p κ r ds hd hr
    have hr0 := hr
    unfold spec_l01DrawPoint_run spec_l01DrawPoint_runG at hr
    split at hr
    · rw [← ds_of hd]
      exact ⟨en_of (spec_l01DrawPoint_en _ _ _ _) ⟨rfl, _, _, rfl⟩, (spec_l01DrawPoint_ev n _ _ _ _ κ).trans hr0⟩
    · cases hr

/-! loop.example/g01297/spec.l01Bad -/
def spec_l01Bad_sh : List SkD := [.mptr 193 [.sl 5 (.int .u8), .int .i64, .int .u64], .agg [.int .i64, .int .i64]]
def spec_l01Bad_runG {α : Type} (F : Nat → List Int → Int → Int → Int → Int → (Int → Int → Int → Int → Option α) → Option α) (n : Nat) (p : List P1) (κ : Res → Option α) : Option α := match p with
  | [.rows (.int .u8) s, .int s1, .int s2, .int a, .int a1] => F n s s1 s2 a a1 (fun v1 v2 v3 v4 => κ ⟨[.agg [.int .i64 v1, .int .i64 v2]], [.ptr 193 [.keep, .int .i64 v3, .int .u64 v4]]⟩)
  | _ => none
def spec_l01Bad_run {α : Type} (n : Nat) (p : List P1) (κ : Res → Option α) : Option α := spec_l01Bad_runG spec_l01Bad n p κ
def spec_l01Bad_CG {α : Type} (F0 : Nat → List Int → Int → Int → Int → (Int → Int → Int → Option α) → Option α) (F1 : Nat → List Int → Int → Int → List Int → (Int → Int → Int → Option α) → Option α) (n : Nat) : FuncId → List D → (Res → Option α) → Option α := tabC [(161, (byShape spec_l01Next_sh (spec_l01Next_runG F0 n))), (216, (byShape spec_l01Pick_sh (spec_l01Pick_runG F1 n)))]
def spec_l01Bad_C {α : Type} (n : Nat) : FuncId → List D → (Res → Option α) → Option α := spec_l01Bad_CG spec_l01Next spec_l01Pick n
def spec_l01Bad_M : FuncId → List Nat := tabM [(161, [1]), (216, [1])]
def spec_l01Bad_lpsG {α : Type}  : List (LoopT α) := []
def spec_l01Bad_lps {α : Type} : List (LoopT α) := spec_l01Bad_lpsG
def spec_l01Bad_XG {α : Type} (F0 : Nat → List Int → Int → Int → Int → (Int → Int → Int → Option α) → Option α) (F1 : Nat → List Int → Int → Int → List Int → (Int → Int → Int → Option α) → Option α)  (n : Nat) : Ctx α := ⟨spec_l01Bad_CG F0 F1 n, spec_l01Bad_M, eqs, lpOf (spec_l01Bad_lpsG) n⟩
def spec_l01Bad_X {α : Type} (n : Nat) : Ctx α := spec_l01Bad_XG spec_l01Next spec_l01Pick n
def spec_l01Bad_Lt (np : Nat) (lent : List (Bool × Nat × Blk)) : Prop := np = 2 ∧ ∃ (s1 : Int) (s2 : Int), lent = [(false, 0, boxBlk 1 193 [.sl 1, .int .i64 s1, .int .u64 s2])]
def spec_l01Bad_body {α : Type} (F0 : Nat → List Int → Int → Int → Int → (Int → Int → Int → Option α) → Option α) (F1 : Nat → List Int → Int → Int → List Int → (Int → Int → Int → Option α) → Option α)  (k : Nat) (s : List Int) (s1 : Int) (s2 : Int) (a : Int) (a1 : Int) (r0 : Int → Int → Int → Int → Option α) : Option α :=
  F0 k s s1 s2 40 fun v v1 v2 =>
  bif decide (v = 0) then
    F0 k s v1 v2 2 fun v3 v4 v5 =>
    F1 k s v4 v5 [1000001, (-1000001), 1099511627776] fun v6 v7 v8 =>
    bif (decide (0 ≤ v3) && decide (v3 < 2)) then
      ([a, a1][v3.toNat]?).bind fun _ =>
      ((List.set [a, a1] v3.toNat v6)[0]?).bind fun e_ =>
      ((List.set [a, a1] v3.toNat v6)[1]?).bind fun e_1 =>
      r0 e_ e_1 v7 v8
    else
      none
  else
    r0 a a1 v1 v2
theorem spec_l01Bad_gen {α : Type} (F0 : Nat → List Int → Int → Int → Int → (Int → Int → Int → Option α) → Option α) (F1 : Nat → List Int → Int → Int → List Int → (Int → Int → Int → Option α) → Option α)  (n : Nat) (s : List Int) (s1 : Int) (s2 : Int) (a : Int) (a1 : Int) (κ : Res → Option α) : evFn Try.prog (spec_l01Bad_XG F0 F1 n) Try.f235 (((buildDs spec_l01Bad_sh [.rows (.int .u8) s, .int s1, .int s2, .int a, .int a1]).map Prod.fst).getD []) κ = spec_l01Bad_body F0 F1 n s s1 s2 a a1 (fun v1 v2 v3 v4 => κ ⟨[.agg [.int .i64 v1, .int .i64 v2]], [.ptr 193 [.keep, .int .i64 v3, .int .u64 v4]]⟩) := by kernel_rfl
theorem spec_l01Bad_eq {α : Type} (n : Nat) (s : List Int) (s1 : Int) (s2 : Int) (a : Int) (a1 : Int) (r0 : Int → Int → Int → Int → Option α) : spec_l01Bad_body spec_l01Next spec_l01Pick n s s1 s2 a a1 r0 = spec_l01Bad n s s1 s2 a a1 r0 := (spec_l01Bad_body.eq_1 spec_l01Next spec_l01Pick n s s1 s2 a a1 r0).trans (spec_l01Bad.eq_1 n s s1 s2 a a1 r0).symm
theorem spec_l01Bad_rn {α : Type} (F : Nat → List Int → Int → Int → Int → Int → (Int → Int → Int → Int → Option α) → Option α) (n : Nat) (s : List Int) (s1 : Int) (s2 : Int) (a : Int) (a1 : Int) (κ : Res → Option α) : spec_l01Bad_runG F n [.rows (.int .u8) s, .int s1, .int s2, .int a, .int a1] κ = F n s s1 s2 a a1 (fun v1 v2 v3 v4 => κ ⟨[.agg [.int .i64 v1, .int .i64 v2]], [.ptr 193 [.keep, .int .i64 v3, .int .u64 v4]]⟩) := rfl
theorem spec_l01Bad_ev {α : Type} (n : Nat) (s : List Int) (s1 : Int) (s2 : Int) (a : Int) (a1 : Int) (κ : Res → Option α) : evFn Try.prog (spec_l01Bad_X n) Try.f235 (((buildDs spec_l01Bad_sh [.rows (.int .u8) s, .int s1, .int s2, .int a, .int a1]).map Prod.fst).getD []) κ = spec_l01Bad_run n [.rows (.int .u8) s, .int s1, .int s2, .int a, .int a1] κ := (spec_l01Bad_gen spec_l01Next spec_l01Pick n s s1 s2 a a1 κ).trans ((spec_l01Bad_eq n s s1 s2 a a1 (fun v1 v2 v3 v4 => κ ⟨[.agg [.int .i64 v1, .int .i64 v2]], [.ptr 193 [.keep, .int .i64 v3, .int .u64 v4]]⟩)).trans ((spec_l01Bad_run.eq_1 n [.rows (.int .u8) s, .int s1, .int s2, .int a, .int a1] κ).trans (spec_l01Bad_rn spec_l01Bad n s s1 s2 a a1 κ)).symm)
theorem spec_l01Bad_en (s : List Int) (s1 : Int) (s2 : Int) (a : Int) (a1 : Int) : (entry 0 (((buildDs spec_l01Bad_sh [.rows (.int .u8) s, .int s1, .int s2, .int a, .int a1]).map Prod.fst).getD [])).map (fun x => (x.1.length, x.2.lent)) = some (2, [(false, 0, boxBlk 1 193 [.sl 1, .int .i64 s1, .int .u64 s2])]) := by kernel_rfl
theorem spec_l01Bad_good {α : Type} : ∀ n, GoodFn (α := α) Try.prog 235 (byShape spec_l01Bad_sh (spec_l01Bad_run n)) := by
  refine fn_good' Try.func235 (c := (Try.f235.body.getD .skip)) (by kernel_rfl) (by kernel_rfl) (by kernel_rfl) spec_l01Bad_C spec_l01Bad_M eqs spec_l01Bad_lps (fun n => tabC_good (List.forall_mem_cons.2 ⟨(spec_l01Next_good n), (List.forall_mem_cons.2 ⟨(spec_l01Pick_good n), (fun _ h => absurd h List.not_mem_nil)⟩)⟩)) eqs_ok spec_l01Bad_Lt ?_ ?_ spec_l01Bad_sh spec_l01Bad_run ?_
  · exact (fun _ h => absurd h List.not_mem_nil)
  · exact (fun _ h => absurd h List.not_mem_nil)
  · intro n p κ r ds hd hr
    have hr0 := hr
    unfold spec_l01Bad_run spec_l01Bad_runG at hr
    split at hr
    · rw [← ds_of hd]
      exact ⟨en_of (spec_l01Bad_en _ _ _ _ _) ⟨rfl, _, _, rfl⟩, (spec_l01Bad_ev n _ _ _ _ _ κ).trans hr0⟩
    · cases hr

/-! loop.example/g01297/spec.l01Spoil -/
def spec_l01Spoil_sh : List SkD := [.mptr 193 [.sl 5 (.int .u8), .int .i64, .int .u64]]
def spec_l01Spoil_runG {α : Type} (F : Nat → List Int → Int → Int → (Int → Int → Int → Int → Option α) → Option α) (n : Nat) (p : List P1) (κ : Res → Option α) : Option α := match p with
  | [.rows (.int .u8) s, .int s1, .int s2] => F n s s1 s2 (fun v1 v2 v3 v4 => κ ⟨[.agg [.int .i64 v1, .int .i64 v2]], [.ptr 193 [.keep, .int .i64 v3, .int .u64 v4]]⟩)
  | _ => none
def spec_l01Spoil_run {α : Type} (n : Nat) (p : List P1) (κ : Res → Option α) : Option α := spec_l01Spoil_runG spec_l01Spoil n p κ
def spec_l01Spoil_CG {α : Type} (F0 : Nat → List Int → Int → Int → (Int → Int → Int → Option α) → Option α) (F1 : Nat → List Int → Int → Int → Int → (Int → Int → Int → Int → Option α) → Option α) (F2 : Nat → List Int → Int → Int → Int → Int → (Int → Int → Int → Int → Option α) → Option α) (n : Nat) : FuncId → List D → (Res → Option α) → Option α := tabC [(237, (byShape spec_l01Size_sh (spec_l01Size_runG F0 n))), (248, (byShape spec_l01DrawPoint_sh (spec_l01DrawPoint_runG F1 n))), (235, (byShape spec_l01Bad_sh (spec_l01Bad_runG F2 n)))]
def spec_l01Spoil_C {α : Type} (n : Nat) : FuncId → List D → (Res → Option α) → Option α := spec_l01Spoil_CG spec_l01Size spec_l01DrawPoint spec_l01Bad n
def spec_l01Spoil_M : FuncId → List Nat := tabM [(237, [1]), (248, [1]), (235, [1])]
def spec_l01Spoil_lpsG {α : Type}  : List (LoopT α) := []
def spec_l01Spoil_lps {α : Type} : List (LoopT α) := spec_l01Spoil_lpsG
def spec_l01Spoil_XG {α : Type} (F0 : Nat → List Int → Int → Int → (Int → Int → Int → Option α) → Option α) (F1 : Nat → List Int → Int → Int → Int → (Int → Int → Int → Int → Option α) → Option α) (F2 : Nat → List Int → Int → Int → Int → Int → (Int → Int → Int → Int → Option α) → Option α)  (n : Nat) : Ctx α := ⟨spec_l01Spoil_CG F0 F1 F2 n, spec_l01Spoil_M, eqs, lpOf (spec_l01Spoil_lpsG) n⟩
def spec_l01Spoil_X {α : Type} (n : Nat) : Ctx α := spec_l01Spoil_XG spec_l01Size spec_l01DrawPoint spec_l01Bad n
def spec_l01Spoil_Lt (np : Nat) (lent : List (Bool × Nat × Blk)) : Prop := np = 1 ∧ ∃ (s1 : Int) (s2 : Int), lent = [(false, 0, boxBlk 1 193 [.sl 1, .int .i64 s1, .int .u64 s2])]
def spec_l01Spoil_body {α : Type} (F0 : Nat → List Int → Int → Int → (Int → Int → Int → Option α) → Option α) (F1 : Nat → List Int → Int → Int → Int → (Int → Int → Int → Int → Option α) → Option α) (F2 : Nat → List Int → Int → Int → Int → Int → (Int → Int → Int → Int → Option α) → Option α)  (k : Nat) (s : List Int) (s1 : Int) (s2 : Int) (r0 : Int → Int → Int → Int → Option α) : Option α :=
  F0 k s s1 s2 fun v v1 v2 =>
  F1 k s v1 v2 v fun v3 v4 v5 v6 =>
  F2 k s v5 v6 v3 v4 fun v7 v8 v9 v10 =>
  r0 v7 v8 v9 v10
theorem spec_l01Spoil_gen {α : Type} (F0 : Nat → List Int → Int → Int → (Int → Int → Int → Option α) → Option α) (F1 : Nat → List Int → Int → Int → Int → (Int → Int → Int → Int → Option α) → Option α) (F2 : Nat → List Int → Int → Int → Int → Int → (Int → Int → Int → Int → Option α) → Option α)  (n : Nat) (s : List Int) (s1 : Int) (s2 : Int) (κ : Res → Option α) : evFn Try.prog (spec_l01Spoil_XG F0 F1 F2 n) Try.f164 (((buildDs spec_l01Spoil_sh [.rows (.int .u8) s, .int s1, .int s2]).map Prod.fst).getD []) κ = spec_l01Spoil_body F0 F1 F2 n s s1 s2 (fun v1 v2 v3 v4 => κ ⟨[.agg [.int .i64 v1, .int .i64 v2]], [.ptr 193 [.keep, .int .i64 v3, .int .u64 v4]]⟩) := by kernel_rfl
theorem spec_l01Spoil_eq {α : Type} (n : Nat) (s : List Int) (s1 : Int) (s2 : Int) (r0 : Int → Int → Int → Int → Option α) : spec_l01Spoil_body spec_l01Size spec_l01DrawPoint spec_l01Bad n s s1 s2 r0 = spec_l01Spoil n s s1 s2 r0 := (spec_l01Spoil_body.eq_1 spec_l01Size spec_l01DrawPoint spec_l01Bad n s s1 s2 r0).trans (spec_l01Spoil.eq_1 n s s1 s2 r0).symm
theorem spec_l01Spoil_rn {α : Type} (F : Nat → List Int → Int → Int → (Int → Int → Int → Int → Option α) → Option α) (n : Nat) (s : List Int) (s1 : Int) (s2 : Int) (κ : Res → Option α) : spec_l01Spoil_runG F n [.rows (.int .u8) s, .int s1, .int s2] κ = F n s s1 s2 (fun v1 v2 v3 v4 => κ ⟨[.agg [.int .i64 v1, .int .i64 v2]], [.ptr 193 [.keep, .int .i64 v3, .int .u64 v4]]⟩) := rfl
theorem spec_l01Spoil_ev {α : Type} (n : Nat) (s : List Int) (s1 : Int) (s2 : Int) (κ : Res → Option α) : evFn Try.prog (spec_l01Spoil_X n) Try.f164 (((buildDs spec_l01Spoil_sh [.rows (.int .u8) s, .int s1, .int s2]).map Prod.fst).getD []) κ = spec_l01Spoil_run n [.rows (.int .u8) s, .int s1, .int s2] κ := (spec_l01Spoil_gen spec_l01Size spec_l01DrawPoint spec_l01Bad n s s1 s2 κ).trans ((spec_l01Spoil_eq n s s1 s2 (fun v1 v2 v3 v4 => κ ⟨[.agg [.int .i64 v1, .int .i64 v2]], [.ptr 193 [.keep, .int .i64 v3, .int .u64 v4]]⟩)).trans ((spec_l01Spoil_run.eq_1 n [.rows (.int .u8) s, .int s1, .int s2] κ).trans (spec_l01Spoil_rn spec_l01Spoil n s s1 s2 κ)).symm)
theorem spec_l01Spoil_en (s : List Int) (s1 : Int) (s2 : Int) : (entry 0 (((buildDs spec_l01Spoil_sh [.rows (.int .u8) s, .int s1, .int s2]).map Prod.fst).getD [])).map (fun x => (x.1.length, x.2.lent)) = some (1, [(false, 0, boxBlk 1 193 [.sl 1, .int .i64 s1, .int .u64 s2])]) := by kernel_rfl
theorem spec_l01Spoil_good {α : Type} : ∀ n, GoodFn (α := α) Try.prog 164 (byShape spec_l01Spoil_sh (spec_l01Spoil_run n)) := by
  refine fn_good' Try.func164 (c := (Try.f164.body.getD .skip)) (by kernel_rfl) (by kernel_rfl) (by kernel_rfl) spec_l01Spoil_C spec_l01Spoil_M eqs spec_l01Spoil_lps (fun n => tabC_good (List.forall_mem_cons.2 ⟨(spec_l01Size_good n), (List.forall_mem_cons.2 ⟨(spec_l01DrawPoint_good n), (List.forall_mem_cons.2 ⟨(spec_l01Bad_good n), (fun _ h => absurd h List.not_mem_nil)⟩)⟩)⟩)) eqs_ok spec_l01Spoil_Lt ?_ ?_ spec_l01Spoil_sh spec_l01Spoil_run ?_
  · exact (fun _ h => absurd h List.not_mem_nil)
  · exact (fun _ h => absurd h List.not_mem_nil)
  · intro n p κ r ds hd hr
    have hr0 := hr
    unfold spec_l01Spoil_run spec_l01Spoil_runG at hr
    split at hr
    · rw [← ds_of hd]
      exact ⟨en_of (spec_l01Spoil_en _ _ _) ⟨rfl, _, _, rfl⟩, (spec_l01Spoil_ev n _ _ _ κ).trans hr0⟩
    · cases hr

/-! loop.example/g01297/spec.l10Points -/
def spec_l10Points_sh : List SkD := [.sl 5 (.int .u8)]
def spec_l10Points_runG {α : Type} (F : Nat → List Int → (Int → Int → Int → Int → Option α) → Option α) (n : Nat) (p : List P1) (κ : Res → Option α) : Option α := match p with
  | [.rows (.int .u8) code] => F n code (fun v1 v2 v3 v4 => κ ⟨[.agg [.int .i64 v1, .int .i64 v2], .agg [.int .i64 v3, .int .i64 v4]], []⟩)
  | _ => none
def spec_l10Points_run {α : Type} (n : Nat) (p : List P1) (κ : Res → Option α) : Option α := spec_l10Points_runG spec_l10Points n p κ
def spec_l10Points_CG {α : Type} (F0 : Nat → List Int → (Int → Int → Option α) → Option α) (F1 : Nat → List Int → Int → Int → (Int → Int → Int → Option α) → Option α) (F2 : Nat → List Int → Int → Int → Int → (Int → Int → Int → Int → Option α) → Option α) (F3 : Nat → List Int → Int → Int → Int → (Int → Int → Int → Option α) → Option α) (F4 : Nat → List Int → Int → Int → (Int → Int → Int → Int → Option α) → Option α) (n : Nat) : FuncId → List D → (Res → Option α) → Option α := tabC [(160, (byShape spec_l01From_sh (spec_l01From_runG F0 n))), (237, (byShape spec_l01Size_sh (spec_l01Size_runG F1 n))), (248, (byShape spec_l01DrawPoint_sh (spec_l01DrawPoint_runG F2 n))), (161, (byShape spec_l01Next_sh (spec_l01Next_runG F3 n))), (164, (byShape spec_l01Spoil_sh (spec_l01Spoil_runG F4 n)))]
def spec_l10Points_C {α : Type} (n : Nat) : FuncId → List D → (Res → Option α) → Option α := spec_l10Points_CG spec_l01From spec_l01Size spec_l01DrawPoint spec_l01Next spec_l01Spoil n
def spec_l10Points_M : FuncId → List Nat := tabM [(237, [1]), (248, [1]), (161, [1]), (164, [1])]
def spec_l10Points_lpsG {α : Type}  : List (LoopT α) := []
def spec_l10Points_lps {α : Type} : List (LoopT α) := spec_l10Points_lpsG
def spec_l10Points_XG {α : Type} (F0 : Nat → List Int → (Int → Int → Option α) → Option α) (F1 : Nat → List Int → Int → Int → (Int → Int → Int → Option α) → Option α) (F2 : Nat → List Int → Int → Int → Int → (Int → Int → Int → Int → Option α) → Option α) (F3 : Nat → List Int → Int → Int → Int → (Int → Int → Int → Option α) → Option α) (F4 : Nat → List Int → Int → Int → (Int → Int → Int → Int → Option α) → Option α)  (n : Nat) : Ctx α := ⟨spec_l10Points_CG F0 F1 F2 F3 F4 n, spec_l10Points_M, eqs, lpOf (spec_l10Points_lpsG) n⟩
def spec_l10Points_X {α : Type} (n : Nat) : Ctx α := spec_l10Points_XG spec_l01From spec_l01Size spec_l01DrawPoint spec_l01Next spec_l01Spoil n
def spec_l10Points_Lt (np : Nat) (lent : List (Bool × Nat × Blk)) : Prop := np = 1 ∧ lent = []
def spec_l10Points_body {α : Type} (F0 : Nat → List Int → (Int → Int → Option α) → Option α) (F1 : Nat → List Int → Int → Int → (Int → Int → Int → Option α) → Option α) (F2 : Nat → List Int → Int → Int → Int → (Int → Int → Int → Int → Option α) → Option α) (F3 : Nat → List Int → Int → Int → Int → (Int → Int → Int → Option α) → Option α) (F4 : Nat → List Int → Int → Int → (Int → Int → Int → Int → Option α) → Option α)  (k : Nat) (code : List Int) (r0 : Int → Int → Int → Int → Option α) : Option α :=
  F0 k code fun v v1 =>
  F1 k code v v1 fun v2 v3 v4 =>
  F2 k code v3 v4 v2 fun v5 v6 v7 v8 =>
  F2 k code v7 v8 v2 fun v9 v10 v11 v12 =>
  F3 k code v11 v12 12 fun v13 v14 v15 =>
  bif decide (v13 = 0) then
    r0 v5 v6 v5 v6
  else
  bif decide (v13 = 1) then
    F4 k code v14 v15 fun v16 v17 v18 v19 =>
    r0 v16 v17 v9 v10
  else
    r0 v5 v6 v9 v10
theorem spec_l10Points_gen {α : Type} (F0 : Nat → List Int → (Int → Int → Option α) → Option α) (F1 : Nat → List Int → Int → Int → (Int → Int → Int → Option α) → Option α) (F2 : Nat → List Int → Int → Int → Int → (Int → Int → Int → Int → Option α) → Option α) (F3 : Nat → List Int → Int → Int → Int → (Int → Int → Int → Option α) → Option α) (F4 : Nat → List Int → Int → Int → (Int → Int → Int → Int → Option α) → Option α)  (n : Nat) (code : List Int) (κ : Res → Option α) : evFn Try.prog (spec_l10Points_XG F0 F1 F2 F3 F4 n) Try.f151 (((buildDs spec_l10Points_sh [.rows (.int .u8) code]).map Prod.fst).getD []) κ = spec_l10Points_body F0 F1 F2 F3 F4 n code (fun v1 v2 v3 v4 => κ ⟨[.agg [.int .i64 v1, .int .i64 v2], .agg [.int .i64 v3, .int .i64 v4]], []⟩) := by kernel_rfl
theorem spec_l10Points_eq {α : Type} (n : Nat) (code : List Int) (r0 : Int → Int → Int → Int → Option α) : spec_l10Points_body spec_l01From spec_l01Size spec_l01DrawPoint spec_l01Next spec_l01Spoil n code r0 = spec_l10Points n code r0 := (spec_l10Points_body.eq_1 spec_l01From spec_l01Size spec_l01DrawPoint spec_l01Next spec_l01Spoil n code r0).trans (spec_l10Points.eq_1 n code r0).symm
theorem spec_l10Points_rn {α : Type} (F : Nat → List Int → (Int → Int → Int → Int → Option α) → Option α) (n : Nat) (code : List Int) (κ : Res → Option α) : spec_l10Points_runG F n [.rows (.int .u8) code] κ = F n code (fun v1 v2 v3 v4 => κ ⟨[.agg [.int .i64 v1, .int .i64 v2], .agg [.int .i64 v3, .int .i64 v4]], []⟩) := rfl
theorem spec_l10Points_ev {α : Type} (n : Nat) (code : List Int) (κ : Res → Option α) : evFn Try.prog (spec_l10Points_X n) Try.f151 (((buildDs spec_l10Points_sh [.rows (.int .u8) code]).map Prod.fst).getD []) κ = spec_l10Points_run n [.rows (.int .u8) code] κ := (spec_l10Points_gen spec_l01From spec_l01Size spec_l01DrawPoint spec_l01Next spec_l01Spoil n code κ).trans ((spec_l10Points_eq n code (fun v1 v2 v3 v4 => κ ⟨[.agg [.int .i64 v1, .int .i64 v2], .agg [.int .i64 v3, .int .i64 v4]], []⟩)).trans ((spec_l10Points_run.eq_1 n [.rows (.int .u8) code] κ).trans (spec_l10Points_rn spec_l10Points n code κ)).symm)
theorem spec_l10Points_en (code : List Int) : (entry 0 (((buildDs spec_l10Points_sh [.rows (.int .u8) code]).map Prod.fst).getD [])).map (fun x => (x.1.length, x.2.lent)) = some (1, []) := by kernel_rfl
theorem spec_l10Points_good {α : Type} : ∀ n, GoodFn (α := α) Try.prog 151 (byShape spec_l10Points_sh (spec_l10Points_run n)) := by
  refine fn_good' Try.func151 (c := (Try.f151.body.getD .skip)) (by kernel_rfl) (by kernel_rfl) (by kernel_rfl) spec_l10Points_C spec_l10Points_M eqs spec_l10Points_lps (fun n => tabC_good (List.forall_mem_cons.2 ⟨(spec_l01From_good n), (List.forall_mem_cons.2 ⟨(spec_l01Size_good n), (List.forall_mem_cons.2 ⟨(spec_l01DrawPoint_good n), (List.forall_mem_cons.2 ⟨(spec_l01Next_good n), (List.forall_mem_cons.2 ⟨(spec_l01Spoil_good n), (fun _ h => absurd h List.not_mem_nil)⟩)⟩)⟩)⟩)⟩)) eqs_ok spec_l10Points_Lt ?_ ?_ spec_l10Points_sh spec_l10Points_run ?_
  · exact (fun _ h => absurd h List.not_mem_nil)
  · exact (fun _ h => absurd h List.not_mem_nil)
  · intro n p κ r ds hd hr
    have hr0 := hr
    unfold spec_l10Points_run spec_l10Points_runG at hr
    split at hr
    · rw [← ds_of hd]
      exact ⟨en_of (spec_l10Points_en _) ⟨rfl, rfl⟩, (spec_l10Points_ev n _ κ).trans hr0⟩
    · cases hr

/-! loop.example/g01297/spec.DrawReducePair -/
def spec_DrawReducePair_sh : List SkD := [.sl 5 (.int .u8)]
def spec_DrawReducePair_runG {α : Type} (F : Nat → List Int → (Int → Int → Int → Int → Option α) → Option α) (n : Nat) (p : List P1) (κ : Res → Option α) : Option α := match p with
  | [.rows (.int .u8) code] => F n code (fun v1 v2 v3 v4 => κ ⟨[.agg [.int .i64 v1, .int .i64 v2], .agg [.int .i64 v3, .int .i64 v4]], []⟩)
  | _ => none
def spec_DrawReducePair_run {α : Type} (n : Nat) (p : List P1) (κ : Res → Option α) : Option α := spec_DrawReducePair_runG spec_DrawReducePair n p κ
def spec_DrawReducePair_CG {α : Type} (F0 : Nat → List Int → (Int → Int → Int → Int → Option α) → Option α) (n : Nat) : FuncId → List D → (Res → Option α) → Option α := tabC [(151, (byShape spec_l10Points_sh (spec_l10Points_runG F0 n)))]
def spec_DrawReducePair_C {α : Type} (n : Nat) : FuncId → List D → (Res → Option α) → Option α := spec_DrawReducePair_CG spec_l10Points n
def spec_DrawReducePair_M : FuncId → List Nat := tabM []
def spec_DrawReducePair_lpsG {α : Type}  : List (LoopT α) := []
def spec_DrawReducePair_lps {α : Type} : List (LoopT α) := spec_DrawReducePair_lpsG
def spec_DrawReducePair_XG {α : Type} (F0 : Nat → List Int → (Int → Int → Int → Int → Option α) → Option α)  (n : Nat) : Ctx α := ⟨spec_DrawReducePair_CG F0 n, spec_DrawReducePair_M, eqs, lpOf (spec_DrawReducePair_lpsG) n⟩
def spec_DrawReducePair_X {α : Type} (n : Nat) : Ctx α := spec_DrawReducePair_XG spec_l10Points n
def spec_DrawReducePair_Lt (np : Nat) (lent : List (Bool × Nat × Blk)) : Prop := np = 1 ∧ lent = []
def spec_DrawReducePair_body {α : Type} (F0 : Nat → List Int → (Int → Int → Int → Int → Option α) → Option α)  (k : Nat) (code : List Int) (r0 : Int → Int → Int → Int → Option α) : Option α :=
  F0 k code fun v v1 v2 v3 =>
  r0 v v1 v2 v3
theorem spec_DrawReducePair_gen {α : Type} (F0 : Nat → List Int → (Int → Int → Int → Int → Option α) → Option α)  (n : Nat) (code : List Int) (κ : Res → Option α) : evFn Try.prog (spec_DrawReducePair_XG F0 n) Try.f19 (((buildDs spec_DrawReducePair_sh [.rows (.int .u8) code]).map Prod.fst).getD []) κ = spec_DrawReducePair_body F0 n code (fun v1 v2 v3 v4 => κ ⟨[.agg [.int .i64 v1, .int .i64 v2], .agg [.int .i64 v3, .int .i64 v4]], []⟩) := by kernel_rfl
theorem spec_DrawReducePair_eq {α : Type} (n : Nat) (code : List Int) (r0 : Int → Int → Int → Int → Option α) : spec_DrawReducePair_body spec_l10Points n code r0 = spec_DrawReducePair n code r0 := (spec_DrawReducePair_body.eq_1 spec_l10Points n code r0).trans (spec_DrawReducePair.eq_1 n code r0).symm
theorem spec_DrawReducePair_rn {α : Type} (F : Nat → List Int → (Int → Int → Int → Int → Option α) → Option α) (n : Nat) (code : List Int) (κ : Res → Option α) : spec_DrawReducePair_runG F n [.rows (.int .u8) code] κ = F n code (fun v1 v2 v3 v4 => κ ⟨[.agg [.int .i64 v1, .int .i64 v2], .agg [.int .i64 v3, .int .i64 v4]], []⟩) := rfl
theorem spec_DrawReducePair_ev {α : Type} (n : Nat) (code : List Int) (κ : Res → Option α) : evFn Try.prog (spec_DrawReducePair_X n) Try.f19 (((buildDs spec_DrawReducePair_sh [.rows (.int .u8) code]).map Prod.fst).getD []) κ = spec_DrawReducePair_run n [.rows (.int .u8) code] κ := (spec_DrawReducePair_gen spec_l10Points n code κ).trans ((spec_DrawReducePair_eq n code (fun v1 v2 v3 v4 => κ ⟨[.agg [.int .i64 v1, .int .i64 v2], .agg [.int .i64 v3, .int .i64 v4]], []⟩)).trans ((spec_DrawReducePair_run.eq_1 n [.rows (.int .u8) code] κ).trans (spec_DrawReducePair_rn spec_DrawReducePair n code κ)).symm)
theorem spec_DrawReducePair_en (code : List Int) : (entry 0 (((buildDs spec_DrawReducePair_sh [.rows (.int .u8) code]).map Prod.fst).getD [])).map (fun x => (x.1.length, x.2.lent)) = some (1, []) := by kernel_rfl
theorem spec_DrawReducePair_good {α : Type} : ∀ n, GoodFn (α := α) Try.prog 19 (byShape spec_DrawReducePair_sh (spec_DrawReducePair_run n)) := by
  refine fn_good' Try.func19 (c := (Try.f19.body.getD .skip)) (by kernel_rfl) (by kernel_rfl) (by kernel_rfl) spec_DrawReducePair_C spec_DrawReducePair_M eqs spec_DrawReducePair_lps (fun n => tabC_good (List.forall_mem_cons.2 ⟨(spec_l10Points_good n), (fun _ h => absurd h List.not_mem_nil)⟩)) eqs_ok spec_DrawReducePair_Lt ?_ ?_ spec_DrawReducePair_sh spec_DrawReducePair_run ?_
  · exact (fun _ h => absurd h List.not_mem_nil)
  · exact (fun _ h => absurd h List.not_mem_nil)
  · intro n p κ r ds hd hr
    have hr0 := hr
    unfold spec_DrawReducePair_run spec_DrawReducePair_runG at hr
    split at hr
    · rw [← ds_of hd]
      exact ⟨en_of (spec_DrawReducePair_en _) ⟨rfl, rfl⟩, (spec_DrawReducePair_ev n _ κ).trans hr0⟩
    · cases hr

/-! loop.example/g01297/impl.in -/
def impl_in_sh : List SkD := [.int .i64, .int .i64, .int .i64]
def impl_in_runG {α : Type} (F : Nat → Int → Int → Int → (Bool → Option α) → Option α) (n : Nat) (p : List P1) (κ : Res → Option α) : Option α := match p with
  | [.int n_, .int low, .int high] => F n n_ low high (fun v1 => κ ⟨[.bool v1], []⟩)
  | _ => none
def impl_in_run {α : Type} (n : Nat) (p : List P1) (κ : Res → Option α) : Option α := impl_in_runG impl_in n p κ
def impl_in_CG {α : Type}  (n : Nat) : FuncId → List D → (Res → Option α) → Option α := tabC []
def impl_in_C {α : Type} (n : Nat) : FuncId → List D → (Res → Option α) → Option α := impl_in_CG n
def impl_in_M : FuncId → List Nat := tabM []
def impl_in_lpsG {α : Type}  : List (LoopT α) := []
def impl_in_lps {α : Type} : List (LoopT α) := impl_in_lpsG
def impl_in_XG {α : Type}   (n : Nat) : Ctx α := ⟨impl_in_CG n, impl_in_M, eqs, lpOf (impl_in_lpsG) n⟩
def impl_in_X {α : Type} (n : Nat) : Ctx α := impl_in_XG n
def impl_in_Lt (np : Nat) (lent : List (Bool × Nat × Blk)) : Prop := np = 3 ∧ lent = []
def impl_in_body {α : Type}   (k : Nat) (n_ : Int) (low : Int) (high : Int) (r0 : Bool → Option α) : Option α :=
  bif decide (low ≤ n_) then
    r0 (decide (n_ ≤ high))
  else
    r0 false
theorem impl_in_gen {α : Type}   (n : Nat) (n_ : Int) (low : Int) (high : Int) (κ : Res → Option α) : evFn Try.prog (impl_in_XG n) Try.f173 (((buildDs impl_in_sh [.int n_, .int low, .int high]).map Prod.fst).getD []) κ = impl_in_body n n_ low high (fun v1 => κ ⟨[.bool v1], []⟩) := by kernel_rfl
theorem impl_in_eq {α : Type} (n : Nat) (n_ : Int) (low : Int) (high : Int) (r0 : Bool → Option α) : impl_in_body n n_ low high r0 = impl_in n n_ low high r0 := (impl_in_body.eq_1 n n_ low high r0).trans (impl_in.eq_1 n n_ low high r0).symm
theorem impl_in_rn {α : Type} (F : Nat → Int → Int → Int → (Bool → Option α) → Option α) (n : Nat) (n_ : Int) (low : Int) (high : Int) (κ : Res → Option α) : impl_in_runG F n [.int n_, .int low, .int high] κ = F n n_ low high (fun v1 => κ ⟨[.bool v1], []⟩) := rfl
theorem impl_in_ev {α : Type} (n : Nat) (n_ : Int) (low : Int) (high : Int) (κ : Res → Option α) : evFn Try.prog (impl_in_X n) Try.f173 (((buildDs impl_in_sh [.int n_, .int low, .int high]).map Prod.fst).getD []) κ = impl_in_run n [.int n_, .int low, .int high] κ := (impl_in_gen n n_ low high κ).trans ((impl_in_eq n n_ low high (fun v1 => κ ⟨[.bool v1], []⟩)).trans ((impl_in_run.eq_1 n [.int n_, .int low, .int high] κ).trans (impl_in_rn impl_in n n_ low high κ)).symm)
theorem impl_in_en (n_ : Int) (low : Int) (high : Int) : (entry 0 (((buildDs impl_in_sh [.int n_, .int low, .int high]).map Prod.fst).getD [])).map (fun x => (x.1.length, x.2.lent)) = some (3, []) := by kernel_rfl
theorem impl_in_good {α : Type} : ∀ n, GoodFn (α := α) Try.prog 173 (byShape impl_in_sh (impl_in_run n)) := by
  refine fn_good' Try.func173 (c := (Try.f173.body.getD .skip)) (by kernel_rfl) (by kernel_rfl) (by kernel_rfl) impl_in_C impl_in_M eqs impl_in_lps (fun n => tabC_good (fun _ h => absurd h List.not_mem_nil)) eqs_ok impl_in_Lt ?_ ?_ impl_in_sh impl_in_run ?_
  · exact (fun _ h => absurd h List.not_mem_nil)
  · exact (fun _ h => absurd h List.not_mem_nil)
  · intro n p κ r ds hd hr
    have hr0 := hr
    unfold impl_in_run impl_in_runG at hr
    split at hr
    · rw [← ds_of hd]
      exact ⟨en_of (impl_in_en _ _ _) ⟨rfl, rfl⟩, (impl_in_ev n _ _ _ κ).trans hr0⟩
    · cases hr

/-! loop.example/g01297/impl.isCoord -/
def impl_isCoord_sh : List SkD := [.int .i64]
def impl_isCoord_runG {α : Type} (F : Nat → Int → (Bool → Option α) → Option α) (n : Nat) (p : List P1) (κ : Res → Option α) : Option α := match p with
  | [.int n_] => F n n_ (fun v1 => κ ⟨[.bool v1], []⟩)
  | _ => none
def impl_isCoord_run {α : Type} (n : Nat) (p : List P1) (κ : Res → Option α) : Option α := impl_isCoord_runG impl_isCoord n p κ
def impl_isCoord_CG {α : Type} (F0 : Nat → Int → Int → Int → (Bool → Option α) → Option α) (n : Nat) : FuncId → List D → (Res → Option α) → Option α := tabC [(173, (byShape impl_in_sh (impl_in_runG F0 n)))]
def impl_isCoord_C {α : Type} (n : Nat) : FuncId → List D → (Res → Option α) → Option α := impl_isCoord_CG impl_in n
def impl_isCoord_M : FuncId → List Nat := tabM []
def impl_isCoord_lpsG {α : Type}  : List (LoopT α) := []
def impl_isCoord_lps {α : Type} : List (LoopT α) := impl_isCoord_lpsG
def impl_isCoord_XG {α : Type} (F0 : Nat → Int → Int → Int → (Bool → Option α) → Option α)  (n : Nat) : Ctx α := ⟨impl_isCoord_CG F0 n, impl_isCoord_M, eqs, lpOf (impl_isCoord_lpsG) n⟩
def impl_isCoord_X {α : Type} (n : Nat) : Ctx α := impl_isCoord_XG impl_in n
def impl_isCoord_Lt (np : Nat) (lent : List (Bool × Nat × Blk)) : Prop := np = 1 ∧ lent = []
def impl_isCoord_body {α : Type} (F0 : Nat → Int → Int → Int → (Bool → Option α) → Option α)  (k : Nat) (n_ : Int) (r0 : Bool → Option α) : Option α :=
  F0 k n_ (-1000000) 1000000 fun v =>
  r0 v
theorem impl_isCoord_gen {α : Type} (F0 : Nat → Int → Int → Int → (Bool → Option α) → Option α)  (n : Nat) (n_ : Int) (κ : Res → Option α) : evFn Try.prog (impl_isCoord_XG F0 n) Try.f168 (((buildDs impl_isCoord_sh [.int n_]).map Prod.fst).getD []) κ = impl_isCoord_body F0 n n_ (fun v1 => κ ⟨[.bool v1], []⟩) := by kernel_rfl
theorem impl_isCoord_eq {α : Type} (n : Nat) (n_ : Int) (r0 : Bool → Option α) : impl_isCoord_body impl_in n n_ r0 = impl_isCoord n n_ r0 := (impl_isCoord_body.eq_1 impl_in n n_ r0).trans (impl_isCoord.eq_1 n n_ r0).symm
theorem impl_isCoord_rn {α : Type} (F : Nat → Int → (Bool → Option α) → Option α) (n : Nat) (n_ : Int) (κ : Res → Option α) : impl_isCoord_runG F n [.int n_] κ = F n n_ (fun v1 => κ ⟨[.bool v1], []⟩) := rfl
theorem impl_isCoord_ev {α : Type} (n : Nat) (n_ : Int) (κ : Res → Option α) : evFn Try.prog (impl_isCoord_X n) Try.f168 (((buildDs impl_isCoord_sh [.int n_]).map Prod.fst).getD []) κ = impl_isCoord_run n [.int n_] κ := (impl_isCoord_gen impl_in n n_ κ).trans ((impl_isCoord_eq n n_ (fun v1 => κ ⟨[.bool v1], []⟩)).trans ((impl_isCoord_run.eq_1 n [.int n_] κ).trans (impl_isCoord_rn impl_isCoord n n_ κ)).symm)
theorem impl_isCoord_en (n_ : Int) : (entry 0 (((buildDs impl_isCoord_sh [.int n_]).map Prod.fst).getD [])).map (fun x => (x.1.length, x.2.lent)) = some (1, []) := by kernel_rfl
theorem impl_isCoord_good {α : Type} : ∀ n, GoodFn (α := α) Try.prog 168 (byShape impl_isCoord_sh (impl_isCoord_run n)) := by
  refine fn_good' Try.func168 (c := (Try.f168.body.getD .skip)) (by kernel_rfl) (by kernel_rfl) (by kernel_rfl) impl_isCoord_C impl_isCoord_M eqs impl_isCoord_lps (fun n => tabC_good (List.forall_mem_cons.2 ⟨(impl_in_good n), (fun _ h => absurd h List.not_mem_nil)⟩)) eqs_ok impl_isCoord_Lt ?_ ?_ impl_isCoord_sh impl_isCoord_run ?_
  · exact (fun _ h => absurd h List.not_mem_nil)
  · exact (fun _ h => absurd h List.not_mem_nil)
  · intro n p κ r ds hd hr
    have hr0 := hr
    unfold impl_isCoord_run impl_isCoord_runG at hr
    split at hr
    · rw [← ds_of hd]
      exact ⟨en_of (impl_isCoord_en _) ⟨rfl, rfl⟩, (impl_isCoord_ev n _ κ).trans hr0⟩
    · cases hr

/-! loop.example/g01297/impl.IsPoint -/
def impl_IsPoint_sh : List SkD := [.agg [.int .i64, .int .i64]]
def impl_IsPoint_runG {α : Type} (F : Nat → Int → Int → (Bool → Option α) → Option α) (n : Nat) (p : List P1) (κ : Res → Option α) : Option α := match p with
  | [.int a, .int a1] => F n a a1 (fun v1 => κ ⟨[.bool v1], []⟩)
  | _ => none
def impl_IsPoint_run {α : Type} (n : Nat) (p : List P1) (κ : Res → Option α) : Option α := impl_IsPoint_runG impl_IsPoint n p κ
def impl_IsPoint_CG {α : Type} (F0 : Nat → Int → (Bool → Option α) → Option α) (n : Nat) : FuncId → List D → (Res → Option α) → Option α := tabC [(168, (byShape impl_isCoord_sh (impl_isCoord_runG F0 n)))]
def impl_IsPoint_C {α : Type} (n : Nat) : FuncId → List D → (Res → Option α) → Option α := impl_IsPoint_CG impl_isCoord n
def impl_IsPoint_M : FuncId → List Nat := tabM []
def impl_IsPoint_lpsG {α : Type}  : List (LoopT α) := []
def impl_IsPoint_lps {α : Type} : List (LoopT α) := impl_IsPoint_lpsG
def impl_IsPoint_XG {α : Type} (F0 : Nat → Int → (Bool → Option α) → Option α)  (n : Nat) : Ctx α := ⟨impl_IsPoint_CG F0 n, impl_IsPoint_M, eqs, lpOf (impl_IsPoint_lpsG) n⟩
def impl_IsPoint_X {α : Type} (n : Nat) : Ctx α := impl_IsPoint_XG impl_isCoord n
def impl_IsPoint_Lt (np : Nat) (lent : List (Bool × Nat × Blk)) : Prop := np = 1 ∧ lent = []
def impl_IsPoint_body {α : Type} (F0 : Nat → Int → (Bool → Option α) → Option α)  (k : Nat) (a : Int) (a1 : Int) (r0 : Bool → Option α) : Option α :=
  F0 k a fun v =>
  bif v then
    F0 k a1 fun v1 =>
    r0 v1
  else
    r0 false
theorem impl_IsPoint_gen {α : Type} (F0 : Nat → Int → (Bool → Option α) → Option α)  (n : Nat) (a : Int) (a1 : Int) (κ : Res → Option α) : evFn Try.prog (impl_IsPoint_XG F0 n) Try.f33 (((buildDs impl_IsPoint_sh [.int a, .int a1]).map Prod.fst).getD []) κ = impl_IsPoint_body F0 n a a1 (fun v1 => κ ⟨[.bool v1], []⟩) := by kernel_rfl
theorem impl_IsPoint_eq {α : Type} (n : Nat) (a : Int) (a1 : Int) (r0 : Bool → Option α) : impl_IsPoint_body impl_isCoord n a a1 r0 = impl_IsPoint n a a1 r0 := (impl_IsPoint_body.eq_1 impl_isCoord n a a1 r0).trans (impl_IsPoint.eq_1 n a a1 r0).symm
theorem impl_IsPoint_rn {α : Type} (F : Nat → Int → Int → (Bool → Option α) → Option α) (n : Nat) (a : Int) (a1 : Int) (κ : Res → Option α) : impl_IsPoint_runG F n [.int a, .int a1] κ = F n a a1 (fun v1 => κ ⟨[.bool v1], []⟩) := rfl
theorem impl_IsPoint_ev {α : Type} (n : Nat) (a : Int) (a1 : Int) (κ : Res → Option α) : evFn Try.prog (impl_IsPoint_X n) Try.f33 (((buildDs impl_IsPoint_sh [.int a, .int a1]).map Prod.fst).getD []) κ = impl_IsPoint_run n [.int a, .int a1] κ := (impl_IsPoint_gen impl_isCoord n a a1 κ).trans ((impl_IsPoint_eq n a a1 (fun v1 => κ ⟨[.bool v1], []⟩)).trans ((impl_IsPoint_run.eq_1 n [.int a, .int a1] κ).trans (impl_IsPoint_rn impl_IsPoint n a a1 κ)).symm)
theorem impl_IsPoint_en (a : Int) (a1 : Int) : (entry 0 (((buildDs impl_IsPoint_sh [.int a, .int a1]).map Prod.fst).getD [])).map (fun x => (x.1.length, x.2.lent)) = some (1, []) := by kernel_rfl
theorem impl_IsPoint_good {α : Type} : ∀ n, GoodFn (α := α) Try.prog 33 (byShape impl_IsPoint_sh (impl_IsPoint_run n)) := by
  refine fn_good' Try.func33 (c := (Try.f33.body.getD .skip)) (by kernel_rfl) (by kernel_rfl) (by kernel_rfl) impl_IsPoint_C impl_IsPoint_M eqs impl_IsPoint_lps (fun n => tabC_good (List.forall_mem_cons.2 ⟨(impl_isCoord_good n), (fun _ h => absurd h List.not_mem_nil)⟩)) eqs_ok impl_IsPoint_Lt ?_ ?_ impl_IsPoint_sh impl_IsPoint_run ?_
  · exact (fun _ h => absurd h List.not_mem_nil)
  · exact (fun _ h => absurd h List.not_mem_nil)
  · intro n p κ r ds hd hr
    have hr0 := hr
    unfold impl_IsPoint_run impl_IsPoint_runG at hr
    split at hr
    · rw [← ds_of hd]
      exact ⟨en_of (impl_IsPoint_en _ _) ⟨rfl, rfl⟩, (impl_IsPoint_ev n _ _ κ).trans hr0⟩
    · cases hr

/-! loop.example/g01297/impl.points$1 -/
def impl_points_1_sh : List SkD := [.agg [.int .i64, .int .i64]]
def impl_points_1_runG {α : Type} (F : Nat → Int → Int → (Bool → Option α) → Option α) (n : Nat) (p : List P1) (κ : Res → Option α) : Option α := match p with
  | [.int a, .int a1] => F n a a1 (fun v1 => κ ⟨[.bool v1], []⟩)
  | _ => none
def impl_points_1_run {α : Type} (n : Nat) (p : List P1) (κ : Res → Option α) : Option α := impl_points_1_runG impl_points_1 n p κ
def impl_points_1_CG {α : Type} (F0 : Nat → Int → Int → (Bool → Option α) → Option α) (n : Nat) : FuncId → List D → (Res → Option α) → Option α := tabC [(33, (byShape impl_IsPoint_sh (impl_IsPoint_runG F0 n)))]
def impl_points_1_C {α : Type} (n : Nat) : FuncId → List D → (Res → Option α) → Option α := impl_points_1_CG impl_IsPoint n
def impl_points_1_M : FuncId → List Nat := tabM []
def impl_points_1_lpsG {α : Type}  : List (LoopT α) := []
def impl_points_1_lps {α : Type} : List (LoopT α) := impl_points_1_lpsG
def impl_points_1_XG {α : Type} (F0 : Nat → Int → Int → (Bool → Option α) → Option α)  (n : Nat) : Ctx α := ⟨impl_points_1_CG F0 n, impl_points_1_M, eqs, lpOf (impl_points_1_lpsG) n⟩
def impl_points_1_X {α : Type} (n : Nat) : Ctx α := impl_points_1_XG impl_IsPoint n
def impl_points_1_Lt (np : Nat) (lent : List (Bool × Nat × Blk)) : Prop := np = 1 ∧ lent = []
def impl_points_1_body {α : Type} (F0 : Nat → Int → Int → (Bool → Option α) → Option α)  (k : Nat) (a : Int) (a1 : Int) (r0 : Bool → Option α) : Option α :=
  F0 k a a1 fun v =>
  r0 (!v)
theorem impl_points_1_gen {α : Type} (F0 : Nat → Int → Int → (Bool → Option α) → Option α)  (n : Nat) (a : Int) (a1 : Int) (κ : Res → Option α) : evFn Try.prog (impl_points_1_XG F0 n) Try.f269 (((buildDs impl_points_1_sh [.int a, .int a1]).map Prod.fst).getD []) κ = impl_points_1_body F0 n a a1 (fun v1 => κ ⟨[.bool v1], []⟩) := by kernel_rfl
theorem impl_points_1_eq {α : Type} (n : Nat) (a : Int) (a1 : Int) (r0 : Bool → Option α) : impl_points_1_body impl_IsPoint n a a1 r0 = impl_points_1 n a a1 r0 := (impl_points_1_body.eq_1 impl_IsPoint n a a1 r0).trans (impl_points_1.eq_1 n a a1 r0).symm
theorem impl_points_1_rn {α : Type} (F : Nat → Int → Int → (Bool → Option α) → Option α) (n : Nat) (a : Int) (a1 : Int) (κ : Res → Option α) : impl_points_1_runG F n [.int a, .int a1] κ = F n a a1 (fun v1 => κ ⟨[.bool v1], []⟩) := rfl
theorem impl_points_1_ev {α : Type} (n : Nat) (a : Int) (a1 : Int) (κ : Res → Option α) : evFn Try.prog (impl_points_1_X n) Try.f269 (((buildDs impl_points_1_sh [.int a, .int a1]).map Prod.fst).getD []) κ = impl_points_1_run n [.int a, .int a1] κ := (impl_points_1_gen impl_IsPoint n a a1 κ).trans ((impl_points_1_eq n a a1 (fun v1 => κ ⟨[.bool v1], []⟩)).trans ((impl_points_1_run.eq_1 n [.int a, .int a1] κ).trans (impl_points_1_rn impl_points_1 n a a1 κ)).symm)
theorem impl_points_1_en (a : Int) (a1 : Int) : (entry 0 (((buildDs impl_points_1_sh [.int a, .int a1]).map Prod.fst).getD [])).map (fun x => (x.1.length, x.2.lent)) = some (1, []) := by kernel_rfl
theorem impl_points_1_good {α : Type} : ∀ n, GoodFn (α := α) Try.prog 269 (byShape impl_points_1_sh (impl_points_1_run n)) := by
  refine fn_good' Try.func269 (c := (Try.f269.body.getD .skip)) (by kernel_rfl) (by kernel_rfl) (by kernel_rfl) impl_points_1_C impl_points_1_M eqs impl_points_1_lps (fun n => tabC_good (List.forall_mem_cons.2 ⟨(impl_IsPoint_good n), (fun _ h => absurd h List.not_mem_nil)⟩)) eqs_ok impl_points_1_Lt ?_ ?_ impl_points_1_sh impl_points_1_run ?_
  · exact (fun _ h => absurd h List.not_mem_nil)
  · exact (fun _ h => absurd h List.not_mem_nil)
  · intro n p κ r ds hd hr
    have hr0 := hr
    unfold impl_points_1_run impl_points_1_runG at hr
    split at hr
    · rw [← ds_of hd]
      exact ⟨en_of (impl_points_1_en _ _) ⟨rfl, rfl⟩, (impl_points_1_ev n _ _ κ).trans hr0⟩
    · cases hr

/-! slices.IndexFunc[[]loop.example/g01297/impl.Point,loop.example/g01297/impl.Point] -/
def slices_IndexFunc_impl_Point_impl_Point_1F_impl_points_1_sh : List SkD := [.sl 26 .pt, .fn 269 []]
def slices_IndexFunc_impl_Point_impl_Point_1F_impl_points_1_runG {α : Type} (F : Nat → (List (Int × Int)) → (Int → Option α) → Option α) (n : Nat) (p : List P1) (κ : Res → Option α) : Option α := match p with
  | [.rows .pt s] => F n s (fun v1 => κ ⟨[.int .i64 v1], []⟩)
  | _ => none
def slices_IndexFunc_impl_Point_impl_Point_1F_impl_points_1_run {α : Type} (n : Nat) (p : List P1) (κ : Res → Option α) : Option α := slices_IndexFunc_impl_Point_impl_Point_1F_impl_points_1_runG slices_IndexFunc_impl_Point_impl_Point_1F_impl_points_1 n p κ
def slices_IndexFunc_impl_Point_impl_Point_1F_impl_points_1_CG {α : Type} (F0 : Nat → Int → Int → (Bool → Option α) → Option α) (n : Nat) : FuncId → List D → (Res → Option α) → Option α := tabC [(269, (byShape impl_points_1_sh (impl_points_1_runG F0 n)))]
def slices_IndexFunc_impl_Point_impl_Point_1F_impl_points_1_C {α : Type} (n : Nat) : FuncId → List D → (Res → Option α) → Option α := slices_IndexFunc_impl_Point_impl_Point_1F_impl_points_1_CG impl_points_1 n
def slices_IndexFunc_impl_Point_impl_Point_1F_impl_points_1_M : FuncId → List Nat := tabM []
def slices_IndexFunc_impl_Point_impl_Point_1F_impl_points_1_t2 : Tpl := ⟨[.sl 0, .fn 269 [], .any, .any, .any, .any, .any, .int .i64, .int .i64, .any, .any, .any, .any, .any, .any, .any, .any, .any, .any], [(0, .rows 0 26 .pt)], []⟩
def slices_IndexFunc_impl_Point_impl_Point_1F_impl_points_1_uG2 {α : Type} (G : Nat → Int → Int → (List (Int × Int)) → (Int → Int → (List (Int × Int)) → Option α) → (Int → Option α) → Option α) (n : Nat) (p : List P1) (brk : Nat → List P1 → Option α) (ret : Res → Option α) : Option α := match p with
  | [.int x, .int x1, .rows .pt s1] => G n x x1 s1 (fun x x1 s1 => brk 0 [.int x, .int x1, .rows .pt s1]) (fun v1 => ret ⟨[.int .i64 v1], []⟩)
  | _ => none
def slices_IndexFunc_impl_Point_impl_Point_1F_impl_points_1_u2 {α : Type} (n : Nat) (p : List P1) (brk : Nat → List P1 → Option α) (ret : Res → Option α) : Option α := slices_IndexFunc_impl_Point_impl_Point_1F_impl_points_1_uG2 slices_IndexFunc_impl_Point_impl_Point_1F_impl_points_1_l2 n p brk ret
def slices_IndexFunc_impl_Point_impl_Point_1F_impl_points_1_lpsG {α : Type} (G2 : Nat → Int → Int → (List (Int × Int)) → (Int → Int → (List (Int × Int)) → Option α) → (Int → Option α) → Option α) : List (LoopT α) := [⟨2, slices_IndexFunc_impl_Point_impl_Point_1F_impl_points_1_t2, slices_IndexFunc_impl_Point_impl_Point_1F_impl_points_1_uG2 G2⟩]
def slices_IndexFunc_impl_Point_impl_Point_1F_impl_points_1_lps {α : Type} : List (LoopT α) := slices_IndexFunc_impl_Point_impl_Point_1F_impl_points_1_lpsG slices_IndexFunc_impl_Point_impl_Point_1F_impl_points_1_l2
def slices_IndexFunc_impl_Point_impl_Point_1F_impl_points_1_XG {α : Type} (F0 : Nat → Int → Int → (Bool → Option α) → Option α) (G2 : Nat → Int → Int → (List (Int × Int)) → (Int → Int → (List (Int × Int)) → Option α) → (Int → Option α) → Option α) (n : Nat) : Ctx α := ⟨slices_IndexFunc_impl_Point_impl_Point_1F_impl_points_1_CG F0 n, slices_IndexFunc_impl_Point_impl_Point_1F_impl_points_1_M, eqs, lpOf (slices_IndexFunc_impl_Point_impl_Point_1F_impl_points_1_lpsG G2) n⟩
def slices_IndexFunc_impl_Point_impl_Point_1F_impl_points_1_X {α : Type} (n : Nat) : Ctx α := slices_IndexFunc_impl_Point_impl_Point_1F_impl_points_1_XG impl_points_1 slices_IndexFunc_impl_Point_impl_Point_1F_impl_points_1_l2 n
def slices_IndexFunc_impl_Point_impl_Point_1F_impl_points_1_Lt (np : Nat) (lent : List (Bool × Nat × Blk)) : Prop := np = 2 ∧ lent = []
def slices_IndexFunc_impl_Point_impl_Point_1F_impl_points_1_lb2 {α : Type} (F0 : Nat → Int → Int → (Bool → Option α) → Option α) (G2 : Nat → Int → Int → (List (Int × Int)) → (Int → Int → (List (Int × Int)) → Option α) → (Int → Option α) → Option α) (k : Nat) (x : Int) (x1 : Int) (s1 : List (Int × Int)) (b0 : Int → Int → (List (Int × Int)) → Option α) (r0 : Int → Option α) : Option α :=
  bif decide (x1 < x) then
    bif (decide (0 ≤ x1) && decide (x1 < (((List.length s1) : Nat) : Int))) then
      (s1[x1.toNat]?).bind fun e_ =>
      F0 k e_.1 e_.2 fun v =>
      bif v then
        r0 x1
      else
        G2 k x (w64 (x1 + 1)) s1 b0 r0
    else
      none
  else
    b0 x x1 s1
theorem slices_IndexFunc_impl_Point_impl_Point_1F_impl_points_1_l2_gen {α : Type} (F0 : Nat → Int → Int → (Bool → Option α) → Option α) (G2 : Nat → Int → Int → (List (Int × Int)) → (Int → Int → (List (Int × Int)) → Option α) → (Int → Option α) → Option α) (n : Nat) (x : Int) (x1 : Int) (s1 : List (Int × Int)) (brk : Nat → List P1 → Option α) (ret : Res → Option α) : ev ((slices_IndexFunc_impl_Point_impl_Point_1F_impl_points_1_XG F0 G2 n).env Try.prog Try.f313 2 []) (findLoop (loopsIn (Try.f313.body.getD .skip)) 2) ((slices_IndexFunc_impl_Point_impl_Point_1F_impl_points_1_t2.build [.int x, .int x1, .rows .pt s1]).getD ⟨[], []⟩) (roundK (2 * 64) slices_IndexFunc_impl_Point_impl_Point_1F_impl_points_1_t2 (fun q => slices_IndexFunc_impl_Point_impl_Point_1F_impl_points_1_uG2 G2 n q brk ret) brk ret) = slices_IndexFunc_impl_Point_impl_Point_1F_impl_points_1_lb2 F0 G2 n x x1 s1 (fun x x1 s1 => brk 0 [.int x, .int x1, .rows .pt s1]) (fun v1 => ret ⟨[.int .i64 v1], []⟩) := by kernel_rfl
theorem slices_IndexFunc_impl_Point_impl_Point_1F_impl_points_1_l2_eq {α : Type} (k : Nat) (x : Int) (x1 : Int) (s1 : List (Int × Int)) (b0 : Int → Int → (List (Int × Int)) → Option α) (r0 : Int → Option α) : slices_IndexFunc_impl_Point_impl_Point_1F_impl_points_1_lb2 impl_points_1 slices_IndexFunc_impl_Point_impl_Point_1F_impl_points_1_l2 k x x1 s1 b0 r0 = slices_IndexFunc_impl_Point_impl_Point_1F_impl_points_1_l2 (k + 1) x x1 s1 b0 r0 := (slices_IndexFunc_impl_Point_impl_Point_1F_impl_points_1_lb2.eq_1 impl_points_1 slices_IndexFunc_impl_Point_impl_Point_1F_impl_points_1_l2 k x x1 s1 b0 r0).trans (show slices_IndexFunc_impl_Point_impl_Point_1F_impl_points_1_l2 (k + 1) x x1 s1 b0 r0 = _ from slices_IndexFunc_impl_Point_impl_Point_1F_impl_points_1_l2.eq_2 _ _ _ _ _ _ ).symm
theorem slices_IndexFunc_impl_Point_impl_Point_1F_impl_points_1_l2_rn {α : Type} (G : Nat → Int → Int → (List (Int × Int)) → (Int → Int → (List (Int × Int)) → Option α) → (Int → Option α) → Option α) (n : Nat) (x : Int) (x1 : Int) (s1 : List (Int × Int)) (brk : Nat → List P1 → Option α) (ret : Res → Option α) : slices_IndexFunc_impl_Point_impl_Point_1F_impl_points_1_uG2 G n [.int x, .int x1, .rows .pt s1] brk ret = G n x x1 s1 (fun x x1 s1 => brk 0 [.int x, .int x1, .rows .pt s1]) (fun v1 => ret ⟨[.int .i64 v1], []⟩) := rfl
theorem slices_IndexFunc_impl_Point_impl_Point_1F_impl_points_1_l2_ev {α : Type} (n : Nat) (x : Int) (x1 : Int) (s1 : List (Int × Int)) (brk : Nat → List P1 → Option α) (ret : Res → Option α) : ev ((slices_IndexFunc_impl_Point_impl_Point_1F_impl_points_1_X n).env Try.prog Try.f313 2 []) (findLoop (loopsIn (Try.f313.body.getD .skip)) 2) ((slices_IndexFunc_impl_Point_impl_Point_1F_impl_points_1_t2.build [.int x, .int x1, .rows .pt s1]).getD ⟨[], []⟩) (roundK (2 * 64) slices_IndexFunc_impl_Point_impl_Point_1F_impl_points_1_t2 (fun q => slices_IndexFunc_impl_Point_impl_Point_1F_impl_points_1_u2 n q brk ret) brk ret) = slices_IndexFunc_impl_Point_impl_Point_1F_impl_points_1_u2 (n + 1) [.int x, .int x1, .rows .pt s1] brk ret := (slices_IndexFunc_impl_Point_impl_Point_1F_impl_points_1_l2_gen impl_points_1 slices_IndexFunc_impl_Point_impl_Point_1F_impl_points_1_l2 n x x1 s1 brk ret).trans ((slices_IndexFunc_impl_Point_impl_Point_1F_impl_points_1_l2_eq n x x1 s1 (fun x x1 s1 => brk 0 [.int x, .int x1, .rows .pt s1]) (fun v1 => ret ⟨[.int .i64 v1], []⟩)).trans ((slices_IndexFunc_impl_Point_impl_Point_1F_impl_points_1_u2.eq_1 (n + 1) [.int x, .int x1, .rows .pt s1] brk ret).trans (slices_IndexFunc_impl_Point_impl_Point_1F_impl_points_1_l2_rn slices_IndexFunc_impl_Point_impl_Point_1F_impl_points_1_l2 (n + 1) x x1 s1 brk ret)).symm)
def slices_IndexFunc_impl_Point_impl_Point_1F_impl_points_1_body {α : Type} (F0 : Nat → Int → Int → (Bool → Option α) → Option α) (G2 : Nat → Int → Int → (List (Int × Int)) → (Int → Int → (List (Int × Int)) → Option α) → (Int → Option α) → Option α) (k : Nat) (s : List (Int × Int)) (r0 : Int → Option α) : Option α :=
  G2 k (((List.length s) : Nat) : Int) 0 s
    (fun x2 x3 s2 =>
      r0 (-1))
    r0
theorem slices_IndexFunc_impl_Point_impl_Point_1F_impl_points_1_gen {α : Type} (F0 : Nat → Int → Int → (Bool → Option α) → Option α) (G2 : Nat → Int → Int → (List (Int × Int)) → (Int → Int → (List (Int × Int)) → Option α) → (Int → Option α) → Option α) (n : Nat) (s : List (Int × Int)) (κ : Res → Option α) : evFn Try.prog (slices_IndexFunc_impl_Point_impl_Point_1F_impl_points_1_XG F0 G2 n) Try.f313 (((buildDs slices_IndexFunc_impl_Point_impl_Point_1F_impl_points_1_sh [.rows .pt s]).map Prod.fst).getD []) κ = slices_IndexFunc_impl_Point_impl_Point_1F_impl_points_1_body F0 G2 n s (fun v1 => κ ⟨[.int .i64 v1], []⟩) := by kernel_rfl
theorem slices_IndexFunc_impl_Point_impl_Point_1F_impl_points_1_eq {α : Type} (n : Nat) (s : List (Int × Int)) (r0 : Int → Option α) : slices_IndexFunc_impl_Point_impl_Point_1F_impl_points_1_body impl_points_1 slices_IndexFunc_impl_Point_impl_Point_1F_impl_points_1_l2 n s r0 = slices_IndexFunc_impl_Point_impl_Point_1F_impl_points_1 n s r0 := (slices_IndexFunc_impl_Point_impl_Point_1F_impl_points_1_body.eq_1 impl_points_1 slices_IndexFunc_impl_Point_impl_Point_1F_impl_points_1_l2 n s r0).trans (slices_IndexFunc_impl_Point_impl_Point_1F_impl_points_1.eq_1 n s r0).symm
theorem slices_IndexFunc_impl_Point_impl_Point_1F_impl_points_1_rn {α : Type} (F : Nat → (List (Int × Int)) → (Int → Option α) → Option α) (n : Nat) (s : List (Int × Int)) (κ : Res → Option α) : slices_IndexFunc_impl_Point_impl_Point_1F_impl_points_1_runG F n [.rows .pt s] κ = F n s (fun v1 => κ ⟨[.int .i64 v1], []⟩) := rfl
theorem slices_IndexFunc_impl_Point_impl_Point_1F_impl_points_1_ev {α : Type} (n : Nat) (s : List (Int × Int)) (κ : Res → Option α) : evFn Try.prog (slices_IndexFunc_impl_Point_impl_Point_1F_impl_points_1_X n) Try.f313 (((buildDs slices_IndexFunc_impl_Point_impl_Point_1F_impl_points_1_sh [.rows .pt s]).map Prod.fst).getD []) κ = slices_IndexFunc_impl_Point_impl_Point_1F_impl_points_1_run n [.rows .pt s] κ := (slices_IndexFunc_impl_Point_impl_Point_1F_impl_points_1_gen impl_points_1 slices_IndexFunc_impl_Point_impl_Point_1F_impl_points_1_l2 n s κ).trans ((slices_IndexFunc_impl_Point_impl_Point_1F_impl_points_1_eq n s (fun v1 => κ ⟨[.int .i64 v1], []⟩)).trans ((slices_IndexFunc_impl_Point_impl_Point_1F_impl_points_1_run.eq_1 n [.rows .pt s] κ).trans (slices_IndexFunc_impl_Point_impl_Point_1F_impl_points_1_rn slices_IndexFunc_impl_Point_impl_Point_1F_impl_points_1 n s κ)).symm)
theorem slices_IndexFunc_impl_Point_impl_Point_1F_impl_points_1_en (s : List (Int × Int)) : (entry 0 (((buildDs slices_IndexFunc_impl_Point_impl_Point_1F_impl_points_1_sh [.rows .pt s]).map Prod.fst).getD [])).map (fun x => (x.1.length, x.2.lent)) = some (2, []) := by kernel_rfl
theorem slices_IndexFunc_impl_Point_impl_Point_1F_impl_points_1_good {α : Type} : ∀ n, GoodFn (α := α) Try.prog 313 (byShape slices_IndexFunc_impl_Point_impl_Point_1F_impl_points_1_sh (slices_IndexFunc_impl_Point_impl_Point_1F_impl_points_1_run n)) := by
  refine fn_good' Try.func313 (c := (Try.f313.body.getD .skip)) (by kernel_rfl) (by kernel_rfl) (by kernel_rfl) slices_IndexFunc_impl_Point_impl_Point_1F_impl_points_1_C slices_IndexFunc_impl_Point_impl_Point_1F_impl_points_1_M eqs slices_IndexFunc_impl_Point_impl_Point_1F_impl_points_1_lps (fun n => tabC_good (List.forall_mem_cons.2 ⟨(impl_points_1_good n), (fun _ h => absurd h List.not_mem_nil)⟩)) eqs_ok slices_IndexFunc_impl_Point_impl_Point_1F_impl_points_1_Lt ?_ ?_ slices_IndexFunc_impl_Point_impl_Point_1F_impl_points_1_sh slices_IndexFunc_impl_Point_impl_Point_1F_impl_points_1_run ?_
  · refine List.forall_mem_cons.2 ⟨?_, (fun _ h => absurd h List.not_mem_nil)⟩
    · intro p brk ret; show slices_IndexFunc_impl_Point_impl_Point_1F_impl_points_1_u2 0 p brk ret = none; unfold slices_IndexFunc_impl_Point_impl_Point_1F_impl_points_1_u2 slices_IndexFunc_impl_Point_impl_Point_1F_impl_points_1_uG2; split <;> rfl
  · refine List.forall_mem_cons.2 ⟨?_, (fun _ h => absurd h List.not_mem_nil)⟩
    · intro np lent hL n p brk ret st r hb hr
      obtain ⟨rfl, rfl⟩ := hL
      rw [← tpl_of hb]
      change slices_IndexFunc_impl_Point_impl_Point_1F_impl_points_1_u2 (n + 1) p brk ret = some r at hr
      have hr0 := hr
      unfold slices_IndexFunc_impl_Point_impl_Point_1F_impl_points_1_u2 slices_IndexFunc_impl_Point_impl_Point_1F_impl_points_1_uG2 at hr
      split at hr
      · exact (slices_IndexFunc_impl_Point_impl_Point_1F_impl_points_1_l2_ev n _ _ _ brk ret).trans hr0
      · cases hr
  · intro n p κ r ds hd hr
    have hr0 := hr
    unfold slices_IndexFunc_impl_Point_impl_Point_1F_impl_points_1_run slices_IndexFunc_impl_Point_impl_Point_1F_impl_points_1_runG at hr
    split at hr
    · rw [← ds_of hd]
      exact ⟨en_of (slices_IndexFunc_impl_Point_impl_Point_1F_impl_points_1_en _) ⟨rfl, rfl⟩, (slices_IndexFunc_impl_Point_impl_Point_1F_impl_points_1_ev n _ κ).trans hr0⟩
    · cases hr

/-! slices.ContainsFunc[[]loop.example/g01297/impl.Point,loop.example/g01297/impl.Point] -/
def slices_ContainsFunc_impl_Point_impl_Point_1F_impl_points_1_sh : List SkD := [.sl 26 .pt, .fn 269 []]
def slices_ContainsFunc_impl_Point_impl_Point_1F_impl_points_1_runG {α : Type} (F : Nat → (List (Int × Int)) → (Bool → Option α) → Option α) (n : Nat) (p : List P1) (κ : Res → Option α) : Option α := match p with
  | [.rows .pt s] => F n s (fun v1 => κ ⟨[.bool v1], []⟩)
  | _ => none
def slices_ContainsFunc_impl_Point_impl_Point_1F_impl_points_1_run {α : Type} (n : Nat) (p : List P1) (κ : Res → Option α) : Option α := slices_ContainsFunc_impl_Point_impl_Point_1F_impl_points_1_runG slices_ContainsFunc_impl_Point_impl_Point_1F_impl_points_1 n p κ
def slices_ContainsFunc_impl_Point_impl_Point_1F_impl_points_1_CG {α : Type} (F0 : Nat → (List (Int × Int)) → (Int → Option α) → Option α) (n : Nat) : FuncId → List D → (Res → Option α) → Option α := tabC [(313, (byShape slices_IndexFunc_impl_Point_impl_Point_1F_impl_points_1_sh (slices_IndexFunc_impl_Point_impl_Point_1F_impl_points_1_runG F0 n)))]
def slices_ContainsFunc_impl_Point_impl_Point_1F_impl_points_1_C {α : Type} (n : Nat) : FuncId → List D → (Res → Option α) → Option α := slices_ContainsFunc_impl_Point_impl_Point_1F_impl_points_1_CG slices_IndexFunc_impl_Point_impl_Point_1F_impl_points_1 n
def slices_ContainsFunc_impl_Point_impl_Point_1F_impl_points_1_M : FuncId → List Nat := tabM []
def slices_ContainsFunc_impl_Point_impl_Point_1F_impl_points_1_lpsG {α : Type}  : List (LoopT α) := []
def slices_ContainsFunc_impl_Point_impl_Point_1F_impl_points_1_lps {α : Type} : List (LoopT α) := slices_ContainsFunc_impl_Point_impl_Point_1F_impl_points_1_lpsG
def slices_ContainsFunc_impl_Point_impl_Point_1F_impl_points_1_XG {α : Type} (F0 : Nat → (List (Int × Int)) → (Int → Option α) → Option α)  (n : Nat) : Ctx α := ⟨slices_ContainsFunc_impl_Point_impl_Point_1F_impl_points_1_CG F0 n, slices_ContainsFunc_impl_Point_impl_Point_1F_impl_points_1_M, eqs, lpOf (slices_ContainsFunc_impl_Point_impl_Point_1F_impl_points_1_lpsG) n⟩
def slices_ContainsFunc_impl_Point_impl_Point_1F_impl_points_1_X {α : Type} (n : Nat) : Ctx α := slices_ContainsFunc_impl_Point_impl_Point_1F_impl_points_1_XG slices_IndexFunc_impl_Point_impl_Point_1F_impl_points_1 n
def slices_ContainsFunc_impl_Point_impl_Point_1F_impl_points_1_Lt (np : Nat) (lent : List (Bool × Nat × Blk)) : Prop := np = 2 ∧ lent = []
def slices_ContainsFunc_impl_Point_impl_Point_1F_impl_points_1_body {α : Type} (F0 : Nat → (List (Int × Int)) → (Int → Option α) → Option α)  (k : Nat) (s : List (Int × Int)) (r0 : Bool → Option α) : Option α :=
  F0 k s fun v =>
  r0 (decide (0 ≤ v))
theorem slices_ContainsFunc_impl_Point_impl_Point_1F_impl_points_1_gen {α : Type} (F0 : Nat → (List (Int × Int)) → (Int → Option α) → Option α)  (n : Nat) (s : List (Int × Int)) (κ : Res → Option α) : evFn Try.prog (slices_ContainsFunc_impl_Point_impl_Point_1F_impl_points_1_XG F0 n) Try.f268 (((buildDs slices_ContainsFunc_impl_Point_impl_Point_1F_impl_points_1_sh [.rows .pt s]).map Prod.fst).getD []) κ = slices_ContainsFunc_impl_Point_impl_Point_1F_impl_points_1_body F0 n s (fun v1 => κ ⟨[.bool v1], []⟩) := by kernel_rfl
theorem slices_ContainsFunc_impl_Point_impl_Point_1F_impl_points_1_eq {α : Type} (n : Nat) (s : List (Int × Int)) (r0 : Bool → Option α) : slices_ContainsFunc_impl_Point_impl_Point_1F_impl_points_1_body slices_IndexFunc_impl_Point_impl_Point_1F_impl_points_1 n s r0 = slices_ContainsFunc_impl_Point_impl_Point_1F_impl_points_1 n s r0 := (slices_ContainsFunc_impl_Point_impl_Point_1F_impl_points_1_body.eq_1 slices_IndexFunc_impl_Point_impl_Point_1F_impl_points_1 n s r0).trans (slices_ContainsFunc_impl_Point_impl_Point_1F_impl_points_1.eq_1 n s r0).symm
theorem slices_ContainsFunc_impl_Point_impl_Point_1F_impl_points_1_rn {α : Type} (F : Nat → (List (Int × Int)) → (Bool → Option α) → Option α) (n : Nat) (s : List (Int × Int)) (κ : Res → Option α) : slices_ContainsFunc_impl_Point_impl_Point_1F_impl_points_1_runG F n [.rows .pt s] κ = F n s (fun v1 => κ ⟨[.bool v1], []⟩) := rfl
theorem slices_ContainsFunc_impl_Point_impl_Point_1F_impl_points_1_ev {α : Type} (n : Nat) (s : List (Int × Int)) (κ : Res → Option α) : evFn Try.prog (slices_ContainsFunc_impl_Point_impl_Point_1F_impl_points_1_X n) Try.f268 (((buildDs slices_ContainsFunc_impl_Point_impl_Point_1F_impl_points_1_sh [.rows .pt s]).map Prod.fst).getD []) κ = slices_ContainsFunc_impl_Point_impl_Point_1F_impl_points_1_run n [.rows .pt s] κ := (slices_ContainsFunc_impl_Point_impl_Point_1F_impl_points_1_gen slices_IndexFunc_impl_Point_impl_Point_1F_impl_points_1 n s κ).trans ((slices_ContainsFunc_impl_Point_impl_Point_1F_impl_points_1_eq n s (fun v1 => κ ⟨[.bool v1], []⟩)).trans ((slices_ContainsFunc_impl_Point_impl_Point_1F_impl_points_1_run.eq_1 n [.rows .pt s] κ).trans (slices_ContainsFunc_impl_Point_impl_Point_1F_impl_points_1_rn slices_ContainsFunc_impl_Point_impl_Point_1F_impl_points_1 n s κ)).symm)
theorem slices_ContainsFunc_impl_Point_impl_Point_1F_impl_points_1_en (s : List (Int × Int)) : (entry 0 (((buildDs slices_ContainsFunc_impl_Point_impl_Point_1F_impl_points_1_sh [.rows .pt s]).map Prod.fst).getD [])).map (fun x => (x.1.length, x.2.lent)) = some (2, []) := by kernel_rfl
theorem slices_ContainsFunc_impl_Point_impl_Point_1F_impl_points_1_good {α : Type} : ∀ n, GoodFn (α := α) Try.prog 268 (byShape slices_ContainsFunc_impl_Point_impl_Point_1F_impl_points_1_sh (slices_ContainsFunc_impl_Point_impl_Point_1F_impl_points_1_run n)) := by
  refine fn_good' Try.func268 (c := (Try.f268.body.getD .skip)) (by kernel_rfl) (by kernel_rfl) (by kernel_rfl) slices_ContainsFunc_impl_Point_impl_Point_1F_impl_points_1_C slices_ContainsFunc_impl_Point_impl_Point_1F_impl_points_1_M eqs slices_ContainsFunc_impl_Point_impl_Point_1F_impl_points_1_lps (fun n => tabC_good (List.forall_mem_cons.2 ⟨(slices_IndexFunc_impl_Point_impl_Point_1F_impl_points_1_good n), (fun _ h => absurd h List.not_mem_nil)⟩)) eqs_ok slices_ContainsFunc_impl_Point_impl_Point_1F_impl_points_1_Lt ?_ ?_ slices_ContainsFunc_impl_Point_impl_Point_1F_impl_points_1_sh slices_ContainsFunc_impl_Point_impl_Point_1F_impl_points_1_run ?_
  · exact (fun _ h => absurd h List.not_mem_nil)
  · exact (fun _ h => absurd h List.not_mem_nil)
  · intro n p κ r ds hd hr
    have hr0 := hr
    unfold slices_ContainsFunc_impl_Point_impl_Point_1F_impl_points_1_run slices_ContainsFunc_impl_Point_impl_Point_1F_impl_points_1_runG at hr
    split at hr
    · rw [← ds_of hd]
      exact ⟨en_of (slices_ContainsFunc_impl_Point_impl_Point_1F_impl_points_1_en _) ⟨rfl, rfl⟩, (slices_ContainsFunc_impl_Point_impl_Point_1F_impl_points_1_ev n _ κ).trans hr0⟩
    · cases hr

/-! loop.example/g01297/impl.points -/
def impl_points_sh : List SkD := [.sl 26 .pt]
def impl_points_runG {α : Type} (F : Nat → (List (Int × Int)) → (Bool → Option α) → Option α) (n : Nat) (p : List P1) (κ : Res → Option α) : Option α := match p with
  | [.rows .pt list] => F n list (fun v1 => κ ⟨[.bool v1], []⟩)
  | _ => none
def impl_points_run {α : Type} (n : Nat) (p : List P1) (κ : Res → Option α) : Option α := impl_points_runG impl_points n p κ
def impl_points_CG {α : Type} (F0 : Nat → (List (Int × Int)) → (Bool → Option α) → Option α) (n : Nat) : FuncId → List D → (Res → Option α) → Option α := tabC [(268, (byShape slices_ContainsFunc_impl_Point_impl_Point_1F_impl_points_1_sh (slices_ContainsFunc_impl_Point_impl_Point_1F_impl_points_1_runG F0 n)))]
def impl_points_C {α : Type} (n : Nat) : FuncId → List D → (Res → Option α) → Option α := impl_points_CG slices_ContainsFunc_impl_Point_impl_Point_1F_impl_points_1 n
def impl_points_M : FuncId → List Nat := tabM []
def impl_points_lpsG {α : Type}  : List (LoopT α) := []
def impl_points_lps {α : Type} : List (LoopT α) := impl_points_lpsG
def impl_points_XG {α : Type} (F0 : Nat → (List (Int × Int)) → (Bool → Option α) → Option α)  (n : Nat) : Ctx α := ⟨impl_points_CG F0 n, impl_points_M, eqs, lpOf (impl_points_lpsG) n⟩
def impl_points_X {α : Type} (n : Nat) : Ctx α := impl_points_XG slices_ContainsFunc_impl_Point_impl_Point_1F_impl_points_1 n
def impl_points_Lt (np : Nat) (lent : List (Bool × Nat × Blk)) : Prop := np = 1 ∧ lent = []
def impl_points_body {α : Type} (F0 : Nat → (List (Int × Int)) → (Bool → Option α) → Option α)  (k : Nat) (list : List (Int × Int)) (r0 : Bool → Option α) : Option α :=
  F0 k list fun v =>
  r0 (!v)
theorem impl_points_gen {α : Type} (F0 : Nat → (List (Int × Int)) → (Bool → Option α) → Option α)  (n : Nat) (list : List (Int × Int)) (κ : Res → Option α) : evFn Try.prog (impl_points_XG F0 n) Try.f166 (((buildDs impl_points_sh [.rows .pt list]).map Prod.fst).getD []) κ = impl_points_body F0 n list (fun v1 => κ ⟨[.bool v1], []⟩) := by kernel_rfl
theorem impl_points_eq {α : Type} (n : Nat) (list : List (Int × Int)) (r0 : Bool → Option α) : impl_points_body slices_ContainsFunc_impl_Point_impl_Point_1F_impl_points_1 n list r0 = impl_points n list r0 := (impl_points_body.eq_1 slices_ContainsFunc_impl_Point_impl_Point_1F_impl_points_1 n list r0).trans (impl_points.eq_1 n list r0).symm
theorem impl_points_rn {α : Type} (F : Nat → (List (Int × Int)) → (Bool → Option α) → Option α) (n : Nat) (list : List (Int × Int)) (κ : Res → Option α) : impl_points_runG F n [.rows .pt list] κ = F n list (fun v1 => κ ⟨[.bool v1], []⟩) := rfl
theorem impl_points_ev {α : Type} (n : Nat) (list : List (Int × Int)) (κ : Res → Option α) : evFn Try.prog (impl_points_X n) Try.f166 (((buildDs impl_points_sh [.rows .pt list]).map Prod.fst).getD []) κ = impl_points_run n [.rows .pt list] κ := (impl_points_gen slices_ContainsFunc_impl_Point_impl_Point_1F_impl_points_1 n list κ).trans ((impl_points_eq n list (fun v1 => κ ⟨[.bool v1], []⟩)).trans ((impl_points_run.eq_1 n [.rows .pt list] κ).trans (impl_points_rn impl_points n list κ)).symm)
theorem impl_points_en (list : List (Int × Int)) : (entry 0 (((buildDs impl_points_sh [.rows .pt list]).map Prod.fst).getD [])).map (fun x => (x.1.length, x.2.lent)) = some (1, []) := by kernel_rfl
theorem impl_points_good {α : Type} : ∀ n, GoodFn (α := α) Try.prog 166 (byShape impl_points_sh (impl_points_run n)) := by
  refine fn_good' Try.func166 (c := (Try.f166.body.getD .skip)) (by kernel_rfl) (by kernel_rfl) (by kernel_rfl) impl_points_C impl_points_M eqs impl_points_lps (fun n => tabC_good (List.forall_mem_cons.2 ⟨(slices_ContainsFunc_impl_Point_impl_Point_1F_impl_points_1_good n), (fun _ h => absurd h List.not_mem_nil)⟩)) eqs_ok impl_points_Lt ?_ ?_ impl_points_sh impl_points_run ?_
  · exact (fun _ h => absurd h List.not_mem_nil)
  · exact (fun _ h => absurd h List.not_mem_nil)
  · intro n p κ r ds hd hr
    have hr0 := hr
    unfold impl_points_run impl_points_runG at hr
    split at hr
    · rw [← ds_of hd]
      exact ⟨en_of (impl_points_en _) ⟨rfl, rfl⟩, (impl_points_ev n _ κ).trans hr0⟩
    · cases hr

/-! loop.example/g01297/impl.det -/
def impl_det_sh : List SkD := [.agg [.int .i64, .int .i64], .agg [.int .i64, .int .i64]]
def impl_det_runG {α : Type} (F : Nat → Int → Int → Int → Int → (Int → Option α) → Option α) (n : Nat) (p : List P1) (κ : Res → Option α) : Option α := match p with
  | [.int a, .int a1, .int b_, .int b_1] => F n a a1 b_ b_1 (fun v1 => κ ⟨[.int .i64 v1], []⟩)
  | _ => none
def impl_det_run {α : Type} (n : Nat) (p : List P1) (κ : Res → Option α) : Option α := impl_det_runG impl_det n p κ
def impl_det_CG {α : Type}  (n : Nat) : FuncId → List D → (Res → Option α) → Option α := tabC []
def impl_det_C {α : Type} (n : Nat) : FuncId → List D → (Res → Option α) → Option α := impl_det_CG n
def impl_det_M : FuncId → List Nat := tabM []
def impl_det_lpsG {α : Type}  : List (LoopT α) := []
def impl_det_lps {α : Type} : List (LoopT α) := impl_det_lpsG
def impl_det_XG {α : Type}   (n : Nat) : Ctx α := ⟨impl_det_CG n, impl_det_M, eqs, lpOf (impl_det_lpsG) n⟩
def impl_det_X {α : Type} (n : Nat) : Ctx α := impl_det_XG n
def impl_det_Lt (np : Nat) (lent : List (Bool × Nat × Blk)) : Prop := np = 2 ∧ lent = []
def impl_det_body {α : Type}   (k : Nat) (a : Int) (a1 : Int) (b_ : Int) (b_1 : Int) (r0 : Int → Option α) : Option α :=
  r0 (w64 ((w64 (a * b_1)) - (w64 (a1 * b_))))
theorem impl_det_gen {α : Type}   (n : Nat) (a : Int) (a1 : Int) (b_ : Int) (b_1 : Int) (κ : Res → Option α) : evFn Try.prog (impl_det_XG n) Try.f167 (((buildDs impl_det_sh [.int a, .int a1, .int b_, .int b_1]).map Prod.fst).getD []) κ = impl_det_body n a a1 b_ b_1 (fun v1 => κ ⟨[.int .i64 v1], []⟩) := by kernel_rfl
theorem impl_det_eq {α : Type} (n : Nat) (a : Int) (a1 : Int) (b_ : Int) (b_1 : Int) (r0 : Int → Option α) : impl_det_body n a a1 b_ b_1 r0 = impl_det n a a1 b_ b_1 r0 := (impl_det_body.eq_1 n a a1 b_ b_1 r0).trans (impl_det.eq_1 n a a1 b_ b_1 r0).symm
theorem impl_det_rn {α : Type} (F : Nat → Int → Int → Int → Int → (Int → Option α) → Option α) (n : Nat) (a : Int) (a1 : Int) (b_ : Int) (b_1 : Int) (κ : Res → Option α) : impl_det_runG F n [.int a, .int a1, .int b_, .int b_1] κ = F n a a1 b_ b_1 (fun v1 => κ ⟨[.int .i64 v1], []⟩) := rfl
theorem impl_det_ev {α : Type} (n : Nat) (a : Int) (a1 : Int) (b_ : Int) (b_1 : Int) (κ : Res → Option α) : evFn Try.prog (impl_det_X n) Try.f167 (((buildDs impl_det_sh [.int a, .int a1, .int b_, .int b_1]).map Prod.fst).getD []) κ = impl_det_run n [.int a, .int a1, .int b_, .int b_1] κ := (impl_det_gen n a a1 b_ b_1 κ).trans ((impl_det_eq n a a1 b_ b_1 (fun v1 => κ ⟨[.int .i64 v1], []⟩)).trans ((impl_det_run.eq_1 n [.int a, .int a1, .int b_, .int b_1] κ).trans (impl_det_rn impl_det n a a1 b_ b_1 κ)).symm)
theorem impl_det_en (a : Int) (a1 : Int) (b_ : Int) (b_1 : Int) : (entry 0 (((buildDs impl_det_sh [.int a, .int a1, .int b_, .int b_1]).map Prod.fst).getD [])).map (fun x => (x.1.length, x.2.lent)) = some (2, []) := by kernel_rfl
theorem impl_det_good {α : Type} : ∀ n, GoodFn (α := α) Try.prog 167 (byShape impl_det_sh (impl_det_run n)) := by
  refine fn_good' Try.func167 (c := (Try.f167.body.getD .skip)) (by kernel_rfl) (by kernel_rfl) (by kernel_rfl) impl_det_C impl_det_M eqs impl_det_lps (fun n => tabC_good (fun _ h => absurd h List.not_mem_nil)) eqs_ok impl_det_Lt ?_ ?_ impl_det_sh impl_det_run ?_
  · exact (fun _ h => absurd h List.not_mem_nil)
  · exact (fun _ h => absurd h List.not_mem_nil)
  · intro n p κ r ds hd hr
    have hr0 := hr
    unfold impl_det_run impl_det_runG at hr
    split at hr
    · rw [← ds_of hd]
      exact ⟨en_of (impl_det_en _ _ _ _) ⟨rfl, rfl⟩, (impl_det_ev n _ _ _ _ κ).trans hr0⟩
    · cases hr

/-! loop.example/g01297/impl.pairFault -/
def impl_pairFault_sh : List SkD := [.agg [.int .i64, .int .i64], .agg [.int .i64, .int .i64]]
def impl_pairFault_runG {α : Type} (F : Nat → Int → Int → Int → Int → (Int → Option α) → Option α) (n : Nat) (p : List P1) (κ : Res → Option α) : Option α := match p with
  | [.int a, .int a1, .int b_, .int b_1] => F n a a1 b_ b_1 (fun v1 => κ ⟨[.int .i64 v1], []⟩)
  | _ => none
def impl_pairFault_run {α : Type} (n : Nat) (p : List P1) (κ : Res → Option α) : Option α := impl_pairFault_runG impl_pairFault n p κ
def impl_pairFault_CG {α : Type} (F0 : Nat → (List (Int × Int)) → (Bool → Option α) → Option α) (F1 : Nat → Int → Int → Int → Int → (Int → Option α) → Option α) (n : Nat) : FuncId → List D → (Res → Option α) → Option α := tabC [(166, (byShape impl_points_sh (impl_points_runG F0 n))), (167, (byShape impl_det_sh (impl_det_runG F1 n)))]
def impl_pairFault_C {α : Type} (n : Nat) : FuncId → List D → (Res → Option α) → Option α := impl_pairFault_CG impl_points impl_det n
def impl_pairFault_M : FuncId → List Nat := tabM []
def impl_pairFault_lpsG {α : Type}  : List (LoopT α) := []
def impl_pairFault_lps {α : Type} : List (LoopT α) := impl_pairFault_lpsG
def impl_pairFault_XG {α : Type} (F0 : Nat → (List (Int × Int)) → (Bool → Option α) → Option α) (F1 : Nat → Int → Int → Int → Int → (Int → Option α) → Option α)  (n : Nat) : Ctx α := ⟨impl_pairFault_CG F0 F1 n, impl_pairFault_M, eqs, lpOf (impl_pairFault_lpsG) n⟩
def impl_pairFault_X {α : Type} (n : Nat) : Ctx α := impl_pairFault_XG impl_points impl_det n
def impl_pairFault_Lt (np : Nat) (lent : List (Bool × Nat × Blk)) : Prop := np = 2 ∧ lent = []
def impl_pairFault_body {α : Type} (F0 : Nat → (List (Int × Int)) → (Bool → Option α) → Option α) (F1 : Nat → Int → Int → Int → Int → (Int → Option α) → Option α)  (k : Nat) (a : Int) (a1 : Int) (b_ : Int) (b_1 : Int) (r0 : Int → Option α) : Option α :=
  F0 k [(a, a1), (b_, b_1)] fun v =>
  bif (!v) then
    r0 1
  else
    F1 k a a1 b_ b_1 fun v1 =>
    bif decide (v1 = 0) then
      r0 5
    else
      r0 0
theorem impl_pairFault_gen {α : Type} (F0 : Nat → (List (Int × Int)) → (Bool → Option α) → Option α) (F1 : Nat → Int → Int → Int → Int → (Int → Option α) → Option α)  (n : Nat) (a : Int) (a1 : Int) (b_ : Int) (b_1 : Int) (κ : Res → Option α) : evFn Try.prog (impl_pairFault_XG F0 F1 n) Try.f152 (((buildDs impl_pairFault_sh [.int a, .int a1, .int b_, .int b_1]).map Prod.fst).getD []) κ = impl_pairFault_body F0 F1 n a a1 b_ b_1 (fun v1 => κ ⟨[.int .i64 v1], []⟩) := by kernel_rfl
theorem impl_pairFault_eq {α : Type} (n : Nat) (a : Int) (a1 : Int) (b_ : Int) (b_1 : Int) (r0 : Int → Option α) : impl_pairFault_body impl_points impl_det n a a1 b_ b_1 r0 = impl_pairFault n a a1 b_ b_1 r0 := (impl_pairFault_body.eq_1 impl_points impl_det n a a1 b_ b_1 r0).trans (impl_pairFault.eq_1 n a a1 b_ b_1 r0).symm
theorem impl_pairFault_rn {α : Type} (F : Nat → Int → Int → Int → Int → (Int → Option α) → Option α) (n : Nat) (a : Int) (a1 : Int) (b_ : Int) (b_1 : Int) (κ : Res → Option α) : impl_pairFault_runG F n [.int a, .int a1, .int b_, .int b_1] κ = F n a a1 b_ b_1 (fun v1 => κ ⟨[.int .i64 v1], []⟩) := rfl
theorem impl_pairFault_ev {α : Type} (n : Nat) (a : Int) (a1 : Int) (b_ : Int) (b_1 : Int) (κ : Res → Option α) : evFn Try.prog (impl_pairFault_X n) Try.f152 (((buildDs impl_pairFault_sh [.int a, .int a1, .int b_, .int b_1]).map Prod.fst).getD []) κ = impl_pairFault_run n [.int a, .int a1, .int b_, .int b_1] κ := (impl_pairFault_gen impl_points impl_det n a a1 b_ b_1 κ).trans ((impl_pairFault_eq n a a1 b_ b_1 (fun v1 => κ ⟨[.int .i64 v1], []⟩)).trans ((impl_pairFault_run.eq_1 n [.int a, .int a1, .int b_, .int b_1] κ).trans (impl_pairFault_rn impl_pairFault n a a1 b_ b_1 κ)).symm)
theorem impl_pairFault_en (a : Int) (a1 : Int) (b_ : Int) (b_1 : Int) : (entry 0 (((buildDs impl_pairFault_sh [.int a, .int a1, .int b_, .int b_1]).map Prod.fst).getD [])).map (fun x => (x.1.length, x.2.lent)) = some (2, []) := by kernel_rfl
theorem impl_pairFault_good {α : Type} : ∀ n, GoodFn (α := α) Try.prog 152 (byShape impl_pairFault_sh (impl_pairFault_run n)) := by
  refine fn_good' Try.func152 (c := (Try.f152.body.getD .skip)) (by kernel_rfl) (by kernel_rfl) (by kernel_rfl) impl_pairFault_C impl_pairFault_M eqs impl_pairFault_lps (fun n => tabC_good (List.forall_mem_cons.2 ⟨(impl_points_good n), (List.forall_mem_cons.2 ⟨(impl_det_good n), (fun _ h => absurd h List.not_mem_nil)⟩)⟩)) eqs_ok impl_pairFault_Lt ?_ ?_ impl_pairFault_sh impl_pairFault_run ?_
  · exact (fun _ h => absurd h List.not_mem_nil)
  · exact (fun _ h => absurd h List.not_mem_nil)
  · intro n p κ r ds hd hr
    have hr0 := hr
    unfold impl_pairFault_run impl_pairFault_runG at hr
    split at hr
    · rw [← ds_of hd]
      exact ⟨en_of (impl_pairFault_en _ _ _ _) ⟨rfl, rfl⟩, (impl_pairFault_ev n _ _ _ _ κ).trans hr0⟩
    · cases hr

/-! loop.example/g01297/impl.dot -/
def impl_dot_sh : List SkD := [.agg [.int .i64, .int .i64], .agg [.int .i64, .int .i64]]
def impl_dot_runG {α : Type} (F : Nat → Int → Int → Int → Int → (Int → Option α) → Option α) (n : Nat) (p : List P1) (κ : Res → Option α) : Option α := match p with
  | [.int a, .int a1, .int b_, .int b_1] => F n a a1 b_ b_1 (fun v1 => κ ⟨[.int .i64 v1], []⟩)
  | _ => none
def impl_dot_run {α : Type} (n : Nat) (p : List P1) (κ : Res → Option α) : Option α := impl_dot_runG impl_dot n p κ
def impl_dot_CG {α : Type}  (n : Nat) : FuncId → List D → (Res → Option α) → Option α := tabC []
def impl_dot_C {α : Type} (n : Nat) : FuncId → List D → (Res → Option α) → Option α := impl_dot_CG n
def impl_dot_M : FuncId → List Nat := tabM []
def impl_dot_lpsG {α : Type}  : List (LoopT α) := []
def impl_dot_lps {α : Type} : List (LoopT α) := impl_dot_lpsG
def impl_dot_XG {α : Type}   (n : Nat) : Ctx α := ⟨impl_dot_CG n, impl_dot_M, eqs, lpOf (impl_dot_lpsG) n⟩
def impl_dot_X {α : Type} (n : Nat) : Ctx α := impl_dot_XG n
def impl_dot_Lt (np : Nat) (lent : List (Bool × Nat × Blk)) : Prop := np = 2 ∧ lent = []
def impl_dot_body {α : Type}   (k : Nat) (a : Int) (a1 : Int) (b_ : Int) (b_1 : Int) (r0 : Int → Option α) : Option α :=
  r0 (w64 ((w64 (a * b_)) + (w64 (a1 * b_1))))
theorem impl_dot_gen {α : Type}   (n : Nat) (a : Int) (a1 : Int) (b_ : Int) (b_1 : Int) (κ : Res → Option α) : evFn Try.prog (impl_dot_XG n) Try.f157 (((buildDs impl_dot_sh [.int a, .int a1, .int b_, .int b_1]).map Prod.fst).getD []) κ = impl_dot_body n a a1 b_ b_1 (fun v1 => κ ⟨[.int .i64 v1], []⟩) := by kernel_rfl
theorem impl_dot_eq {α : Type} (n : Nat) (a : Int) (a1 : Int) (b_ : Int) (b_1 : Int) (r0 : Int → Option α) : impl_dot_body n a a1 b_ b_1 r0 = impl_dot n a a1 b_ b_1 r0 := (impl_dot_body.eq_1 n a a1 b_ b_1 r0).trans (impl_dot.eq_1 n a a1 b_ b_1 r0).symm
theorem impl_dot_rn {α : Type} (F : Nat → Int → Int → Int → Int → (Int → Option α) → Option α) (n : Nat) (a : Int) (a1 : Int) (b_ : Int) (b_1 : Int) (κ : Res → Option α) : impl_dot_runG F n [.int a, .int a1, .int b_, .int b_1] κ = F n a a1 b_ b_1 (fun v1 => κ ⟨[.int .i64 v1], []⟩) := rfl
theorem impl_dot_ev {α : Type} (n : Nat) (a : Int) (a1 : Int) (b_ : Int) (b_1 : Int) (κ : Res → Option α) : evFn Try.prog (impl_dot_X n) Try.f157 (((buildDs impl_dot_sh [.int a, .int a1, .int b_, .int b_1]).map Prod.fst).getD []) κ = impl_dot_run n [.int a, .int a1, .int b_, .int b_1] κ := (impl_dot_gen n a a1 b_ b_1 κ).trans ((impl_dot_eq n a a1 b_ b_1 (fun v1 => κ ⟨[.int .i64 v1], []⟩)).trans ((impl_dot_run.eq_1 n [.int a, .int a1, .int b_, .int b_1] κ).trans (impl_dot_rn impl_dot n a a1 b_ b_1 κ)).symm)
theorem impl_dot_en (a : Int) (a1 : Int) (b_ : Int) (b_1 : Int) : (entry 0 (((buildDs impl_dot_sh [.int a, .int a1, .int b_, .int b_1]).map Prod.fst).getD [])).map (fun x => (x.1.length, x.2.lent)) = some (2, []) := by kernel_rfl
theorem impl_dot_good {α : Type} : ∀ n, GoodFn (α := α) Try.prog 157 (byShape impl_dot_sh (impl_dot_run n)) := by
  refine fn_good' Try.func157 (c := (Try.f157.body.getD .skip)) (by kernel_rfl) (by kernel_rfl) (by kernel_rfl) impl_dot_C impl_dot_M eqs impl_dot_lps (fun n => tabC_good (fun _ h => absurd h List.not_mem_nil)) eqs_ok impl_dot_Lt ?_ ?_ impl_dot_sh impl_dot_run ?_
  · exact (fun _ h => absurd h List.not_mem_nil)
  · exact (fun _ h => absurd h List.not_mem_nil)
  · intro n p κ r ds hd hr
    have hr0 := hr
    unfold impl_dot_run impl_dot_runG at hr
    split at hr
    · rw [← ds_of hd]
      exact ⟨en_of (impl_dot_en _ _ _ _) ⟨rfl, rfl⟩, (impl_dot_ev n _ _ _ _ κ).trans hr0⟩
    · cases hr

/-! (loop.example/g01297/impl.Point).norm -/
def impl_Point_norm_sh : List SkD := [.agg [.int .i64, .int .i64]]
def impl_Point_norm_runG {α : Type} (F : Nat → Int → Int → (Int → Option α) → Option α) (n : Nat) (p : List P1) (κ : Res → Option α) : Option α := match p with
  | [.int a, .int a1] => F n a a1 (fun v1 => κ ⟨[.int .i64 v1], []⟩)
  | _ => none
def impl_Point_norm_run {α : Type} (n : Nat) (p : List P1) (κ : Res → Option α) : Option α := impl_Point_norm_runG impl_Point_norm n p κ
def impl_Point_norm_CG {α : Type} (F0 : Nat → Int → Int → Int → Int → (Int → Option α) → Option α) (n : Nat) : FuncId → List D → (Res → Option α) → Option α := tabC [(157, (byShape impl_dot_sh (impl_dot_runG F0 n)))]
def impl_Point_norm_C {α : Type} (n : Nat) : FuncId → List D → (Res → Option α) → Option α := impl_Point_norm_CG impl_dot n
def impl_Point_norm_M : FuncId → List Nat := tabM []
def impl_Point_norm_lpsG {α : Type}  : List (LoopT α) := []
def impl_Point_norm_lps {α : Type} : List (LoopT α) := impl_Point_norm_lpsG
def impl_Point_norm_XG {α : Type} (F0 : Nat → Int → Int → Int → Int → (Int → Option α) → Option α)  (n : Nat) : Ctx α := ⟨impl_Point_norm_CG F0 n, impl_Point_norm_M, eqs, lpOf (impl_Point_norm_lpsG) n⟩
def impl_Point_norm_X {α : Type} (n : Nat) : Ctx α := impl_Point_norm_XG impl_dot n
def impl_Point_norm_Lt (np : Nat) (lent : List (Bool × Nat × Blk)) : Prop := np = 1 ∧ lent = []
def impl_Point_norm_body {α : Type} (F0 : Nat → Int → Int → Int → Int → (Int → Option α) → Option α)  (k : Nat) (a : Int) (a1 : Int) (r0 : Int → Option α) : Option α :=
  F0 k a a1 a a1 fun v =>
  r0 v
theorem impl_Point_norm_gen {α : Type} (F0 : Nat → Int → Int → Int → Int → (Int → Option α) → Option α)  (n : Nat) (a : Int) (a1 : Int) (κ : Res → Option α) : evFn Try.prog (impl_Point_norm_XG F0 n) Try.f154 (((buildDs impl_Point_norm_sh [.int a, .int a1]).map Prod.fst).getD []) κ = impl_Point_norm_body F0 n a a1 (fun v1 => κ ⟨[.int .i64 v1], []⟩) := by kernel_rfl
theorem impl_Point_norm_eq {α : Type} (n : Nat) (a : Int) (a1 : Int) (r0 : Int → Option α) : impl_Point_norm_body impl_dot n a a1 r0 = impl_Point_norm n a a1 r0 := (impl_Point_norm_body.eq_1 impl_dot n a a1 r0).trans (impl_Point_norm.eq_1 n a a1 r0).symm
theorem impl_Point_norm_rn {α : Type} (F : Nat → Int → Int → (Int → Option α) → Option α) (n : Nat) (a : Int) (a1 : Int) (κ : Res → Option α) : impl_Point_norm_runG F n [.int a, .int a1] κ = F n a a1 (fun v1 => κ ⟨[.int .i64 v1], []⟩) := rfl
theorem impl_Point_norm_ev {α : Type} (n : Nat) (a : Int) (a1 : Int) (κ : Res → Option α) : evFn Try.prog (impl_Point_norm_X n) Try.f154 (((buildDs impl_Point_norm_sh [.int a, .int a1]).map Prod.fst).getD []) κ = impl_Point_norm_run n [.int a, .int a1] κ := (impl_Point_norm_gen impl_dot n a a1 κ).trans ((impl_Point_norm_eq n a a1 (fun v1 => κ ⟨[.int .i64 v1], []⟩)).trans ((impl_Point_norm_run.eq_1 n [.int a, .int a1] κ).trans (impl_Point_norm_rn impl_Point_norm n a a1 κ)).symm)
theorem impl_Point_norm_en (a : Int) (a1 : Int) : (entry 0 (((buildDs impl_Point_norm_sh [.int a, .int a1]).map Prod.fst).getD [])).map (fun x => (x.1.length, x.2.lent)) = some (1, []) := by kernel_rfl
theorem impl_Point_norm_good {α : Type} : ∀ n, GoodFn (α := α) Try.prog 154 (byShape impl_Point_norm_sh (impl_Point_norm_run n)) := by
  refine fn_good' Try.func154 (c := (Try.f154.body.getD .skip)) (by kernel_rfl) (by kernel_rfl) (by kernel_rfl) impl_Point_norm_C impl_Point_norm_M eqs impl_Point_norm_lps (fun n => tabC_good (List.forall_mem_cons.2 ⟨(impl_dot_good n), (fun _ h => absurd h List.not_mem_nil)⟩)) eqs_ok impl_Point_norm_Lt ?_ ?_ impl_Point_norm_sh impl_Point_norm_run ?_
  · exact (fun _ h => absurd h List.not_mem_nil)
  · exact (fun _ h => absurd h List.not_mem_nil)
  · intro n p κ r ds hd hr
    have hr0 := hr
    unfold impl_Point_norm_run impl_Point_norm_runG at hr
    split at hr
    · rw [← ds_of hd]
      exact ⟨en_of (impl_Point_norm_en _ _) ⟨rfl, rfl⟩, (impl_Point_norm_ev n _ _ κ).trans hr0⟩
    · cases hr

/-! loop.example/g01297/impl.size -/
def impl_size_sh : List SkD := [.int .i64]
def impl_size_runG {α : Type} (F : Nat → Int → (Int → Option α) → Option α) (n : Nat) (p : List P1) (κ : Res → Option α) : Option α := match p with
  | [.int n_] => F n n_ (fun v1 => κ ⟨[.int .i64 v1], []⟩)
  | _ => none
def impl_size_run {α : Type} (n : Nat) (p : List P1) (κ : Res → Option α) : Option α := impl_size_runG impl_size n p κ
def impl_size_CG {α : Type}  (n : Nat) : FuncId → List D → (Res → Option α) → Option α := tabC []
def impl_size_C {α : Type} (n : Nat) : FuncId → List D → (Res → Option α) → Option α := impl_size_CG n
def impl_size_M : FuncId → List Nat := tabM []
def impl_size_lpsG {α : Type}  : List (LoopT α) := []
def impl_size_lps {α : Type} : List (LoopT α) := impl_size_lpsG
def impl_size_XG {α : Type}   (n : Nat) : Ctx α := ⟨impl_size_CG n, impl_size_M, eqs, lpOf (impl_size_lpsG) n⟩
def impl_size_X {α : Type} (n : Nat) : Ctx α := impl_size_XG n
def impl_size_Lt (np : Nat) (lent : List (Bool × Nat × Blk)) : Prop := np = 1 ∧ lent = []
def impl_size_body {α : Type}   (k : Nat) (n_ : Int) (r0 : Int → Option α) : Option α :=
  r0 (max n_ (w64 (0 - n_)))
theorem impl_size_gen {α : Type}   (n : Nat) (n_ : Int) (κ : Res → Option α) : evFn Try.prog (impl_size_XG n) Try.f266 (((buildDs impl_size_sh [.int n_]).map Prod.fst).getD []) κ = impl_size_body n n_ (fun v1 => κ ⟨[.int .i64 v1], []⟩) := by kernel_rfl
theorem impl_size_eq {α : Type} (n : Nat) (n_ : Int) (r0 : Int → Option α) : impl_size_body n n_ r0 = impl_size n n_ r0 := (impl_size_body.eq_1 n n_ r0).trans (impl_size.eq_1 n n_ r0).symm
theorem impl_size_rn {α : Type} (F : Nat → Int → (Int → Option α) → Option α) (n : Nat) (n_ : Int) (κ : Res → Option α) : impl_size_runG F n [.int n_] κ = F n n_ (fun v1 => κ ⟨[.int .i64 v1], []⟩) := rfl
theorem impl_size_ev {α : Type} (n : Nat) (n_ : Int) (κ : Res → Option α) : evFn Try.prog (impl_size_X n) Try.f266 (((buildDs impl_size_sh [.int n_]).map Prod.fst).getD []) κ = impl_size_run n [.int n_] κ := (impl_size_gen n n_ κ).trans ((impl_size_eq n n_ (fun v1 => κ ⟨[.int .i64 v1], []⟩)).trans ((impl_size_run.eq_1 n [.int n_] κ).trans (impl_size_rn impl_size n n_ κ)).symm)
theorem impl_size_en (n_ : Int) : (entry 0 (((buildDs impl_size_sh [.int n_]).map Prod.fst).getD [])).map (fun x => (x.1.length, x.2.lent)) = some (1, []) := by kernel_rfl
theorem impl_size_good {α : Type} : ∀ n, GoodFn (α := α) Try.prog 266 (byShape impl_size_sh (impl_size_run n)) := by
  refine fn_good' Try.func266 (c := (Try.f266.body.getD .skip)) (by kernel_rfl) (by kernel_rfl) (by kernel_rfl) impl_size_C impl_size_M eqs impl_size_lps (fun n => tabC_good (fun _ h => absurd h List.not_mem_nil)) eqs_ok impl_size_Lt ?_ ?_ impl_size_sh impl_size_run ?_
  · exact (fun _ h => absurd h List.not_mem_nil)
  · exact (fun _ h => absurd h List.not_mem_nil)
  · intro n p κ r ds hd hr
    have hr0 := hr
    unfold impl_size_run impl_size_runG at hr
    split at hr
    · rw [← ds_of hd]
      exact ⟨en_of (impl_size_en _) ⟨rfl, rfl⟩, (impl_size_ev n _ κ).trans hr0⟩
    · cases hr

/-! loop.example/g01297/impl.isReduced -/
def impl_isReduced_sh : List SkD := [.agg [.int .i64, .int .i64], .agg [.int .i64, .int .i64]]
def impl_isReduced_runG {α : Type} (F : Nat → Int → Int → Int → Int → (Bool → Option α) → Option α) (n : Nat) (p : List P1) (κ : Res → Option α) : Option α := match p with
  | [.int a, .int a1, .int b_, .int b_1] => F n a a1 b_ b_1 (fun v1 => κ ⟨[.bool v1], []⟩)
  | _ => none
def impl_isReduced_run {α : Type} (n : Nat) (p : List P1) (κ : Res → Option α) : Option α := impl_isReduced_runG impl_isReduced n p κ
def impl_isReduced_CG {α : Type} (F0 : Nat → Int → Int → (Int → Option α) → Option α) (F1 : Nat → Int → Int → Int → Int → (Int → Option α) → Option α) (F2 : Nat → Int → (Int → Option α) → Option α) (n : Nat) : FuncId → List D → (Res → Option α) → Option α := tabC [(154, (byShape impl_Point_norm_sh (impl_Point_norm_runG F0 n))), (157, (byShape impl_dot_sh (impl_dot_runG F1 n))), (266, (byShape impl_size_sh (impl_size_runG F2 n)))]
def impl_isReduced_C {α : Type} (n : Nat) : FuncId → List D → (Res → Option α) → Option α := impl_isReduced_CG impl_Point_norm impl_dot impl_size n
def impl_isReduced_M : FuncId → List Nat := tabM []
def impl_isReduced_lpsG {α : Type}  : List (LoopT α) := []
def impl_isReduced_lps {α : Type} : List (LoopT α) := impl_isReduced_lpsG
def impl_isReduced_XG {α : Type} (F0 : Nat → Int → Int → (Int → Option α) → Option α) (F1 : Nat → Int → Int → Int → Int → (Int → Option α) → Option α) (F2 : Nat → Int → (Int → Option α) → Option α)  (n : Nat) : Ctx α := ⟨impl_isReduced_CG F0 F1 F2 n, impl_isReduced_M, eqs, lpOf (impl_isReduced_lpsG) n⟩
def impl_isReduced_X {α : Type} (n : Nat) : Ctx α := impl_isReduced_XG impl_Point_norm impl_dot impl_size n
def impl_isReduced_Lt (np : Nat) (lent : List (Bool × Nat × Blk)) : Prop := np = 2 ∧ lent = []
def impl_isReduced_body {α : Type} (F0 : Nat → Int → Int → (Int → Option α) → Option α) (F1 : Nat → Int → Int → Int → Int → (Int → Option α) → Option α) (F2 : Nat → Int → (Int → Option α) → Option α)  (k : Nat) (a : Int) (a1 : Int) (b_ : Int) (b_1 : Int) (r0 : Bool → Option α) : Option α :=
  F0 k a a1 fun v =>
  F0 k b_ b_1 fun v1 =>
  bif decide (v ≤ v1) then
    F1 k a a1 b_ b_1 fun v2 =>
    F2 k v2 fun v3 =>
    F0 k a a1 fun v4 =>
    r0 (decide ((w64 (2 * v3)) ≤ v4))
  else
    r0 false
theorem impl_isReduced_gen {α : Type} (F0 : Nat → Int → Int → (Int → Option α) → Option α) (F1 : Nat → Int → Int → Int → Int → (Int → Option α) → Option α) (F2 : Nat → Int → (Int → Option α) → Option α)  (n : Nat) (a : Int) (a1 : Int) (b_ : Int) (b_1 : Int) (κ : Res → Option α) : evFn Try.prog (impl_isReduced_XG F0 F1 F2 n) Try.f153 (((buildDs impl_isReduced_sh [.int a, .int a1, .int b_, .int b_1]).map Prod.fst).getD []) κ = impl_isReduced_body F0 F1 F2 n a a1 b_ b_1 (fun v1 => κ ⟨[.bool v1], []⟩) := by kernel_rfl
theorem impl_isReduced_eq {α : Type} (n : Nat) (a : Int) (a1 : Int) (b_ : Int) (b_1 : Int) (r0 : Bool → Option α) : impl_isReduced_body impl_Point_norm impl_dot impl_size n a a1 b_ b_1 r0 = impl_isReduced n a a1 b_ b_1 r0 := (impl_isReduced_body.eq_1 impl_Point_norm impl_dot impl_size n a a1 b_ b_1 r0).trans (impl_isReduced.eq_1 n a a1 b_ b_1 r0).symm
theorem impl_isReduced_rn {α : Type} (F : Nat → Int → Int → Int → Int → (Bool → Option α) → Option α) (n : Nat) (a : Int) (a1 : Int) (b_ : Int) (b_1 : Int) (κ : Res → Option α) : impl_isReduced_runG F n [.int a, .int a1, .int b_, .int b_1] κ = F n a a1 b_ b_1 (fun v1 => κ ⟨[.bool v1], []⟩) := rfl
theorem impl_isReduced_ev {α : Type} (n : Nat) (a : Int) (a1 : Int) (b_ : Int) (b_1 : Int) (κ : Res → Option α) : evFn Try.prog (impl_isReduced_X n) Try.f153 (((buildDs impl_isReduced_sh [.int a, .int a1, .int b_, .int b_1]).map Prod.fst).getD []) κ = impl_isReduced_run n [.int a, .int a1, .int b_, .int b_1] κ := (impl_isReduced_gen impl_Point_norm impl_dot impl_size n a a1 b_ b_1 κ).trans ((impl_isReduced_eq n a a1 b_ b_1 (fun v1 => κ ⟨[.bool v1], []⟩)).trans ((impl_isReduced_run.eq_1 n [.int a, .int a1, .int b_, .int b_1] κ).trans (impl_isReduced_rn impl_isReduced n a a1 b_ b_1 κ)).symm)
theorem impl_isReduced_en (a : Int) (a1 : Int) (b_ : Int) (b_1 : Int) : (entry 0 (((buildDs impl_isReduced_sh [.int a, .int a1, .int b_, .int b_1]).map Prod.fst).getD [])).map (fun x => (x.1.length, x.2.lent)) = some (2, []) := by kernel_rfl
theorem impl_isReduced_good {α : Type} : ∀ n, GoodFn (α := α) Try.prog 153 (byShape impl_isReduced_sh (impl_isReduced_run n)) := by
  refine fn_good' Try.func153 (c := (Try.f153.body.getD .skip)) (by kernel_rfl) (by kernel_rfl) (by kernel_rfl) impl_isReduced_C impl_isReduced_M eqs impl_isReduced_lps (fun n => tabC_good (List.forall_mem_cons.2 ⟨(impl_Point_norm_good n), (List.forall_mem_cons.2 ⟨(impl_dot_good n), (List.forall_mem_cons.2 ⟨(impl_size_good n), (fun _ h => absurd h List.not_mem_nil)⟩)⟩)⟩)) eqs_ok impl_isReduced_Lt ?_ ?_ impl_isReduced_sh impl_isReduced_run ?_
  · exact (fun _ h => absurd h List.not_mem_nil)
  · exact (fun _ h => absurd h List.not_mem_nil)
  · intro n p κ r ds hd hr
    have hr0 := hr
    unfold impl_isReduced_run impl_isReduced_runG at hr
    split at hr
    · rw [← ds_of hd]
      exact ⟨en_of (impl_isReduced_en _ _ _ _) ⟨rfl, rfl⟩, (impl_isReduced_ev n _ _ _ _ κ).trans hr0⟩
    · cases hr

/-! loop.example/g01297/impl.floor -/
def impl_floor_sh : List SkD := [.int .i64, .int .i64]
def impl_floor_runG {α : Type} (F : Nat → Int → Int → (Int → Option α) → Option α) (n : Nat) (p : List P1) (κ : Res → Option α) : Option α := match p with
  | [.int a, .int b_] => F n a b_ (fun v1 => κ ⟨[.int .i64 v1], []⟩)
  | _ => none
def impl_floor_run {α : Type} (n : Nat) (p : List P1) (κ : Res → Option α) : Option α := impl_floor_runG impl_floor n p κ
def impl_floor_CG {α : Type}  (n : Nat) : FuncId → List D → (Res → Option α) → Option α := tabC []
def impl_floor_C {α : Type} (n : Nat) : FuncId → List D → (Res → Option α) → Option α := impl_floor_CG n
def impl_floor_M : FuncId → List Nat := tabM []
def impl_floor_lpsG {α : Type}  : List (LoopT α) := []
def impl_floor_lps {α : Type} : List (LoopT α) := impl_floor_lpsG
def impl_floor_XG {α : Type}   (n : Nat) : Ctx α := ⟨impl_floor_CG n, impl_floor_M, eqs, lpOf (impl_floor_lpsG) n⟩
def impl_floor_X {α : Type} (n : Nat) : Ctx α := impl_floor_XG n
def impl_floor_Lt (np : Nat) (lent : List (Bool × Nat × Blk)) : Prop := np = 2 ∧ lent = []
def impl_floor_body {α : Type}   (k : Nat) (a : Int) (b_ : Int) (r0 : Int → Option α) : Option α :=
  bif decide (b_ = 0) then
    none
  else
  bif decide (b_ = 0) then
    none
  else
  bif (!decide ((Int.tmod a b_) = 0)) then
    bif (!(decide (a < 0) == decide (b_ < 0))) then
      r0 (w64 ((w64 (Int.tdiv a b_)) - 1))
    else
      r0 (w64 (Int.tdiv a b_))
  else
    r0 (w64 (Int.tdiv a b_))
theorem impl_floor_gen {α : Type}   (n : Nat) (a : Int) (b_ : Int) (κ : Res → Option α) : evFn Try.prog (impl_floor_XG n) Try.f156 (((buildDs impl_floor_sh [.int a, .int b_]).map Prod.fst).getD []) κ = impl_floor_body n a b_ (fun v1 => κ ⟨[.int .i64 v1], []⟩) := by kernel_rfl
theorem impl_floor_eq {α : Type} (n : Nat) (a : Int) (b_ : Int) (r0 : Int → Option α) : impl_floor_body n a b_ r0 = impl_floor n a b_ r0 := (impl_floor_body.eq_1 n a b_ r0).trans (impl_floor.eq_1 n a b_ r0).symm
theorem impl_floor_rn {α : Type} (F : Nat → Int → Int → (Int → Option α) → Option α) (n : Nat) (a : Int) (b_ : Int) (κ : Res → Option α) : impl_floor_runG F n [.int a, .int b_] κ = F n a b_ (fun v1 => κ ⟨[.int .i64 v1], []⟩) := rfl
theorem impl_floor_ev {α : Type} (n : Nat) (a : Int) (b_ : Int) (κ : Res → Option α) : evFn Try.prog (impl_floor_X n) Try.f156 (((buildDs impl_floor_sh [.int a, .int b_]).map Prod.fst).getD []) κ = impl_floor_run n [.int a, .int b_] κ := (impl_floor_gen n a b_ κ).trans ((impl_floor_eq n a b_ (fun v1 => κ ⟨[.int .i64 v1], []⟩)).trans ((impl_floor_run.eq_1 n [.int a, .int b_] κ).trans (impl_floor_rn impl_floor n a b_ κ)).symm)
theorem impl_floor_en (a : Int) (b_ : Int) : (entry 0 (((buildDs impl_floor_sh [.int a, .int b_]).map Prod.fst).getD [])).map (fun x => (x.1.length, x.2.lent)) = some (2, []) := by kernel_rfl
theorem impl_floor_good {α : Type} : ∀ n, GoodFn (α := α) Try.prog 156 (byShape impl_floor_sh (impl_floor_run n)) := by
  refine fn_good' Try.func156 (c := (Try.f156.body.getD .skip)) (by kernel_rfl) (by kernel_rfl) (by kernel_rfl) impl_floor_C impl_floor_M eqs impl_floor_lps (fun n => tabC_good (fun _ h => absurd h List.not_mem_nil)) eqs_ok impl_floor_Lt ?_ ?_ impl_floor_sh impl_floor_run ?_
  · exact (fun _ h => absurd h List.not_mem_nil)
  · exact (fun _ h => absurd h List.not_mem_nil)
  · intro n p κ r ds hd hr
    have hr0 := hr
    unfold impl_floor_run impl_floor_runG at hr
    split at hr
    · rw [← ds_of hd]
      exact ⟨en_of (impl_floor_en _ _) ⟨rfl, rfl⟩, (impl_floor_ev n _ _ κ).trans hr0⟩
    · cases hr

/-! (loop.example/g01297/impl.Point).plus -/
def impl_Point_plus_sh : List SkD := [.agg [.int .i64, .int .i64], .agg [.int .i64, .int .i64], .int .i64]
def impl_Point_plus_runG {α : Type} (F : Nat → Int → Int → Int → Int → Int → (Int → Int → Option α) → Option α) (n : Nat) (p : List P1) (κ : Res → Option α) : Option α := match p with
  | [.int a, .int a1, .int b_, .int b_1, .int k_] => F n a a1 b_ b_1 k_ (fun v1 v2 => κ ⟨[.agg [.int .i64 v1, .int .i64 v2]], []⟩)
  | _ => none
def impl_Point_plus_run {α : Type} (n : Nat) (p : List P1) (κ : Res → Option α) : Option α := impl_Point_plus_runG impl_Point_plus n p κ
def impl_Point_plus_CG {α : Type}  (n : Nat) : FuncId → List D → (Res → Option α) → Option α := tabC []
def impl_Point_plus_C {α : Type} (n : Nat) : FuncId → List D → (Res → Option α) → Option α := impl_Point_plus_CG n
def impl_Point_plus_M : FuncId → List Nat := tabM []
def impl_Point_plus_lpsG {α : Type}  : List (LoopT α) := []
def impl_Point_plus_lps {α : Type} : List (LoopT α) := impl_Point_plus_lpsG
def impl_Point_plus_XG {α : Type}   (n : Nat) : Ctx α := ⟨impl_Point_plus_CG n, impl_Point_plus_M, eqs, lpOf (impl_Point_plus_lpsG) n⟩
def impl_Point_plus_X {α : Type} (n : Nat) : Ctx α := impl_Point_plus_XG n
def impl_Point_plus_Lt (np : Nat) (lent : List (Bool × Nat × Blk)) : Prop := np = 3 ∧ lent = []
def impl_Point_plus_body {α : Type}   (k : Nat) (a : Int) (a1 : Int) (b_ : Int) (b_1 : Int) (k_ : Int) (r0 : Int → Int → Option α) : Option α :=
  r0 (w64 (a + (w64 (k_ * b_)))) (w64 (a1 + (w64 (k_ * b_1))))
theorem impl_Point_plus_gen {α : Type}   (n : Nat) (a : Int) (a1 : Int) (b_ : Int) (b_1 : Int) (k_ : Int) (κ : Res → Option α) : evFn Try.prog (impl_Point_plus_XG n) Try.f155 (((buildDs impl_Point_plus_sh [.int a, .int a1, .int b_, .int b_1, .int k_]).map Prod.fst).getD []) κ = impl_Point_plus_body n a a1 b_ b_1 k_ (fun v1 v2 => κ ⟨[.agg [.int .i64 v1, .int .i64 v2]], []⟩) := by kernel_rfl
theorem impl_Point_plus_eq {α : Type} (n : Nat) (a : Int) (a1 : Int) (b_ : Int) (b_1 : Int) (k_ : Int) (r0 : Int → Int → Option α) : impl_Point_plus_body n a a1 b_ b_1 k_ r0 = impl_Point_plus n a a1 b_ b_1 k_ r0 := (impl_Point_plus_body.eq_1 n a a1 b_ b_1 k_ r0).trans (impl_Point_plus.eq_1 n a a1 b_ b_1 k_ r0).symm
theorem impl_Point_plus_rn {α : Type} (F : Nat → Int → Int → Int → Int → Int → (Int → Int → Option α) → Option α) (n : Nat) (a : Int) (a1 : Int) (b_ : Int) (b_1 : Int) (k_ : Int) (κ : Res → Option α) : impl_Point_plus_runG F n [.int a, .int a1, .int b_, .int b_1, .int k_] κ = F n a a1 b_ b_1 k_ (fun v1 v2 => κ ⟨[.agg [.int .i64 v1, .int .i64 v2]], []⟩) := rfl
theorem impl_Point_plus_ev {α : Type} (n : Nat) (a : Int) (a1 : Int) (b_ : Int) (b_1 : Int) (k_ : Int) (κ : Res → Option α) : evFn Try.prog (impl_Point_plus_X n) Try.f155 (((buildDs impl_Point_plus_sh [.int a, .int a1, .int b_, .int b_1, .int k_]).map Prod.fst).getD []) κ = impl_Point_plus_run n [.int a, .int a1, .int b_, .int b_1, .int k_] κ := (impl_Point_plus_gen n a a1 b_ b_1 k_ κ).trans ((impl_Point_plus_eq n a a1 b_ b_1 k_ (fun v1 v2 => κ ⟨[.agg [.int .i64 v1, .int .i64 v2]], []⟩)).trans ((impl_Point_plus_run.eq_1 n [.int a, .int a1, .int b_, .int b_1, .int k_] κ).trans (impl_Point_plus_rn impl_Point_plus n a a1 b_ b_1 k_ κ)).symm)
theorem impl_Point_plus_en (a : Int) (a1 : Int) (b_ : Int) (b_1 : Int) (k_ : Int) : (entry 0 (((buildDs impl_Point_plus_sh [.int a, .int a1, .int b_, .int b_1, .int k_]).map Prod.fst).getD [])).map (fun x => (x.1.length, x.2.lent)) = some (3, []) := by kernel_rfl
theorem impl_Point_plus_good {α : Type} : ∀ n, GoodFn (α := α) Try.prog 155 (byShape impl_Point_plus_sh (impl_Point_plus_run n)) := by
  refine fn_good' Try.func155 (c := (Try.f155.body.getD .skip)) (by kernel_rfl) (by kernel_rfl) (by kernel_rfl) impl_Point_plus_C impl_Point_plus_M eqs impl_Point_plus_lps (fun n => tabC_good (fun _ h => absurd h List.not_mem_nil)) eqs_ok impl_Point_plus_Lt ?_ ?_ impl_Point_plus_sh impl_Point_plus_run ?_
  · exact (fun _ h => absurd h List.not_mem_nil)
  · exact (fun _ h => absurd h List.not_mem_nil)
  · intro n p κ r ds hd hr
    have hr0 := hr
    unfold impl_Point_plus_run impl_Point_plus_runG at hr
    split at hr
    · rw [← ds_of hd]
      exact ⟨en_of (impl_Point_plus_en _ _ _ _ _) ⟨rfl, rfl⟩, (impl_Point_plus_ev n _ _ _ _ _ κ).trans hr0⟩
    · cases hr

/-! loop.example/g01297/impl.ReducePair -/
def impl_ReducePair_sh : List SkD := [.agg [.int .i64, .int .i64], .agg [.int .i64, .int .i64]]
def impl_ReducePair_runG {α : Type} (F : Nat → Int → Int → Int → Int → (Int → Option α) → ((List (Int × Int)) → Int → Option α) → Option α) (n : Nat) (p : List P1) (κ : Res → Option α) : Option α := match p with
  | [.int a, .int a1, .int b_, .int b_1] => F n a a1 b_ b_1 (fun v1 => κ ⟨[.nilsl, .int .i64 v1], []⟩) (fun v1 v2 => κ ⟨[.sl 26 .pt v1, .int .i64 v2], []⟩)
  | _ => none
def impl_ReducePair_run {α : Type} (n : Nat) (p : List P1) (κ : Res → Option α) : Option α := impl_ReducePair_runG impl_ReducePair n p κ
def impl_ReducePair_CG {α : Type} (F0 : Nat → Int → Int → Int → Int → (Int → Option α) → Option α) (F1 : Nat → Int → Int → Int → Int → (Bool → Option α) → Option α) (F2 : Nat → Int → Int → (Int → Option α) → Option α) (F3 : Nat → Int → Int → Int → Int → (Int → Option α) → Option α) (F4 : Nat → Int → Int → (Int → Option α) → Option α) (F5 : Nat → Int → Int → Int → Int → Int → (Int → Int → Option α) → Option α) (n : Nat) : FuncId → List D → (Res → Option α) → Option α := tabC [(152, (byShape impl_pairFault_sh (impl_pairFault_runG F0 n))), (153, (byShape impl_isReduced_sh (impl_isReduced_runG F1 n))), (154, (byShape impl_Point_norm_sh (impl_Point_norm_runG F2 n))), (157, (byShape impl_dot_sh (impl_dot_runG F3 n))), (156, (byShape impl_floor_sh (impl_floor_runG F4 n))), (155, (byShape impl_Point_plus_sh (impl_Point_plus_runG F5 n)))]
def impl_ReducePair_C {α : Type} (n : Nat) : FuncId → List D → (Res → Option α) → Option α := impl_ReducePair_CG impl_pairFault impl_isReduced impl_Point_norm impl_dot impl_floor impl_Point_plus n
def impl_ReducePair_M : FuncId → List Nat := tabM []
def impl_ReducePair_t4 : Tpl := ⟨[.any, .any, .ptr 128 0 0, .ptr 192 0 0, .any, .any, .any, .any, .any, .any, .any, .any, .any, .any, .any, .any, .any, .any, .any, .any, .any, .any, .any, .any, .any, .any, .any, .any, .any, .any, .any, .any, .any, .any, .any, .any, .any, .any, .any, .any, .any, .any], [(128, .ints 2 26 .i64 2), (192, .ints 2 26 .i64 2)], []⟩
def impl_ReducePair_uG4 {α : Type} (G : Nat → Int → Int → Int → Int → (Int → Int → Int → Int → Option α) → (Int → Option α) → ((List (Int × Int)) → Int → Option α) → Option α) (n : Nat) (p : List P1) (brk : Nat → List P1 → Option α) (ret : Res → Option α) : Option α := match p with
  | [.int a2, .int a3, .int b_2, .int b_3] => G n a2 a3 b_2 b_3 (fun a2 a3 b_2 b_3 => brk 0 [.int a2, .int a3, .int b_2, .int b_3]) (fun v1 => ret ⟨[.nilsl, .int .i64 v1], []⟩) (fun v1 v2 => ret ⟨[.sl 26 .pt v1, .int .i64 v2], []⟩)
  | _ => none
def impl_ReducePair_u4 {α : Type} (n : Nat) (p : List P1) (brk : Nat → List P1 → Option α) (ret : Res → Option α) : Option α := impl_ReducePair_uG4 impl_ReducePair_l4 n p brk ret
def impl_ReducePair_lpsG {α : Type} (G4 : Nat → Int → Int → Int → Int → (Int → Int → Int → Int → Option α) → (Int → Option α) → ((List (Int × Int)) → Int → Option α) → Option α) : List (LoopT α) := [⟨4, impl_ReducePair_t4, impl_ReducePair_uG4 G4⟩]
def impl_ReducePair_lps {α : Type} : List (LoopT α) := impl_ReducePair_lpsG impl_ReducePair_l4
def impl_ReducePair_XG {α : Type} (F0 : Nat → Int → Int → Int → Int → (Int → Option α) → Option α) (F1 : Nat → Int → Int → Int → Int → (Bool → Option α) → Option α) (F2 : Nat → Int → Int → (Int → Option α) → Option α) (F3 : Nat → Int → Int → Int → Int → (Int → Option α) → Option α) (F4 : Nat → Int → Int → (Int → Option α) → Option α) (F5 : Nat → Int → Int → Int → Int → Int → (Int → Int → Option α) → Option α) (G4 : Nat → Int → Int → Int → Int → (Int → Int → Int → Int → Option α) → (Int → Option α) → ((List (Int × Int)) → Int → Option α) → Option α) (n : Nat) : Ctx α := ⟨impl_ReducePair_CG F0 F1 F2 F3 F4 F5 n, impl_ReducePair_M, eqs, lpOf (impl_ReducePair_lpsG G4) n⟩
def impl_ReducePair_X {α : Type} (n : Nat) : Ctx α := impl_ReducePair_XG impl_pairFault impl_isReduced impl_Point_norm impl_dot impl_floor impl_Point_plus impl_ReducePair_l4 n
def impl_ReducePair_Lt (np : Nat) (lent : List (Bool × Nat × Blk)) : Prop := np = 2 ∧ lent = []
def impl_ReducePair_lb4 {α : Type} (F0 : Nat → Int → Int → Int → Int → (Int → Option α) → Option α) (F1 : Nat → Int → Int → Int → Int → (Bool → Option α) → Option α) (F2 : Nat → Int → Int → (Int → Option α) → Option α) (F3 : Nat → Int → Int → Int → Int → (Int → Option α) → Option α) (F4 : Nat → Int → Int → (Int → Option α) → Option α) (F5 : Nat → Int → Int → Int → Int → Int → (Int → Int → Option α) → Option α) (G4 : Nat → Int → Int → Int → Int → (Int → Int → Int → Int → Option α) → (Int → Option α) → ((List (Int × Int)) → Int → Option α) → Option α) (k : Nat) (a2 : Int) (a3 : Int) (b_2 : Int) (b_3 : Int) (b0 : Int → Int → Int → Int → Option α) (r0 : Int → Option α) (r1 : (List (Int × Int)) → Int → Option α) : Option α :=
  F1 k a2 a3 b_2 b_3 fun v1 =>
  bif (!v1) then
    F2 k a2 a3 fun v2 =>
    F2 k b_2 b_3 fun v3 =>
    bif decide (v3 < v2) then
      G4 k b_2 b_3 a2 a3 b0 r0 r1
    else
      F3 k a2 a3 b_2 b_3 fun v4 =>
      F2 k a2 a3 fun v5 =>
      F2 k a2 a3 fun v6 =>
      F4 k (w64 ((w64 (2 * v4)) + v5)) (w64 (2 * v6)) fun v7 =>
      F5 k b_2 b_3 a2 a3 (w64 (0 - v7)) fun v8 v9 =>
      G4 k a2 a3 v8 v9 b0 r0 r1
  else
    b0 a2 a3 b_2 b_3
theorem impl_ReducePair_l4_gen {α : Type} (F0 : Nat → Int → Int → Int → Int → (Int → Option α) → Option α) (F1 : Nat → Int → Int → Int → Int → (Bool → Option α) → Option α) (F2 : Nat → Int → Int → (Int → Option α) → Option α) (F3 : Nat → Int → Int → Int → Int → (Int → Option α) → Option α) (F4 : Nat → Int → Int → (Int → Option α) → Option α) (F5 : Nat → Int → Int → Int → Int → Int → (Int → Int → Option α) → Option α) (G4 : Nat → Int → Int → Int → Int → (Int → Int → Int → Int → Option α) → (Int → Option α) → ((List (Int × Int)) → Int → Option α) → Option α) (n : Nat) (a2 : Int) (a3 : Int) (b_2 : Int) (b_3 : Int) (brk : Nat → List P1 → Option α) (ret : Res → Option α) : ev ((impl_ReducePair_XG F0 F1 F2 F3 F4 F5 G4 n).env Try.prog Try.f20 2 []) (findLoop (loopsIn (Try.f20.body.getD .skip)) 4) ((impl_ReducePair_t4.build [.int a2, .int a3, .int b_2, .int b_3]).getD ⟨[], []⟩) (roundK (2 * 64) impl_ReducePair_t4 (fun q => impl_ReducePair_uG4 G4 n q brk ret) brk ret) = impl_ReducePair_lb4 F0 F1 F2 F3 F4 F5 G4 n a2 a3 b_2 b_3 (fun a2 a3 b_2 b_3 => brk 0 [.int a2, .int a3, .int b_2, .int b_3]) (fun v1 => ret ⟨[.nilsl, .int .i64 v1], []⟩) (fun v1 v2 => ret ⟨[.sl 26 .pt v1, .int .i64 v2], []⟩) := by kernel_rfl
theorem impl_ReducePair_l4_eq {α : Type} (k : Nat) (a2 : Int) (a3 : Int) (b_2 : Int) (b_3 : Int) (b0 : Int → Int → Int → Int → Option α) (r0 : Int → Option α) (r1 : (List (Int × Int)) → Int → Option α) : impl_ReducePair_lb4 impl_pairFault impl_isReduced impl_Point_norm impl_dot impl_floor impl_Point_plus impl_ReducePair_l4 k a2 a3 b_2 b_3 b0 r0 r1 = impl_ReducePair_l4 (k + 1) a2 a3 b_2 b_3 b0 r0 r1 := (impl_ReducePair_lb4.eq_1 impl_pairFault impl_isReduced impl_Point_norm impl_dot impl_floor impl_Point_plus impl_ReducePair_l4 k a2 a3 b_2 b_3 b0 r0 r1).trans (show impl_ReducePair_l4 (k + 1) a2 a3 b_2 b_3 b0 r0 r1 = _ from impl_ReducePair_l4.eq_2 _ _ _ _ _ _ _ _ ).symm
theorem impl_ReducePair_l4_rn {α : Type} (G : Nat → Int → Int → Int → Int → (Int → Int → Int → Int → Option α) → (Int → Option α) → ((List (Int × Int)) → Int → Option α) → Option α) (n : Nat) (a2 : Int) (a3 : Int) (b_2 : Int) (b_3 : Int) (brk : Nat → List P1 → Option α) (ret : Res → Option α) : impl_ReducePair_uG4 G n [.int a2, .int a3, .int b_2, .int b_3] brk ret = G n a2 a3 b_2 b_3 (fun a2 a3 b_2 b_3 => brk 0 [.int a2, .int a3, .int b_2, .int b_3]) (fun v1 => ret ⟨[.nilsl, .int .i64 v1], []⟩) (fun v1 v2 => ret ⟨[.sl 26 .pt v1, .int .i64 v2], []⟩) := rfl
theorem impl_ReducePair_l4_ev {α : Type} (n : Nat) (a2 : Int) (a3 : Int) (b_2 : Int) (b_3 : Int) (brk : Nat → List P1 → Option α) (ret : Res → Option α) : ev ((impl_ReducePair_X n).env Try.prog Try.f20 2 []) (findLoop (loopsIn (Try.f20.body.getD .skip)) 4) ((impl_ReducePair_t4.build [.int a2, .int a3, .int b_2, .int b_3]).getD ⟨[], []⟩) (roundK (2 * 64) impl_ReducePair_t4 (fun q => impl_ReducePair_u4 n q brk ret) brk ret) = impl_ReducePair_u4 (n + 1) [.int a2, .int a3, .int b_2, .int b_3] brk ret := (impl_ReducePair_l4_gen impl_pairFault impl_isReduced impl_Point_norm impl_dot impl_floor impl_Point_plus impl_ReducePair_l4 n a2 a3 b_2 b_3 brk ret).trans ((impl_ReducePair_l4_eq n a2 a3 b_2 b_3 (fun a2 a3 b_2 b_3 => brk 0 [.int a2, .int a3, .int b_2, .int b_3]) (fun v1 => ret ⟨[.nilsl, .int .i64 v1], []⟩) (fun v1 v2 => ret ⟨[.sl 26 .pt v1, .int .i64 v2], []⟩)).trans ((impl_ReducePair_u4.eq_1 (n + 1) [.int a2, .int a3, .int b_2, .int b_3] brk ret).trans (impl_ReducePair_l4_rn impl_ReducePair_l4 (n + 1) a2 a3 b_2 b_3 brk ret)).symm)
def impl_ReducePair_body {α : Type} (F0 : Nat → Int → Int → Int → Int → (Int → Option α) → Option α) (F1 : Nat → Int → Int → Int → Int → (Bool → Option α) → Option α) (F2 : Nat → Int → Int → (Int → Option α) → Option α) (F3 : Nat → Int → Int → Int → Int → (Int → Option α) → Option α) (F4 : Nat → Int → Int → (Int → Option α) → Option α) (F5 : Nat → Int → Int → Int → Int → Int → (Int → Int → Option α) → Option α) (G4 : Nat → Int → Int → Int → Int → (Int → Int → Int → Int → Option α) → (Int → Option α) → ((List (Int × Int)) → Int → Option α) → Option α) (k : Nat) (a : Int) (a1 : Int) (b_ : Int) (b_1 : Int) (r0 : Int → Option α) (r1 : (List (Int × Int)) → Int → Option α) : Option α :=
  F0 k a a1 b_ b_1 fun v =>
  bif (!decide (v = 0)) then
    r0 v
  else
    G4 k a a1 b_ b_1
      (fun a4 a5 b_4 b_5 =>
        r1 [(a4, a5), (b_4, b_5)] 0)
      r0 r1
theorem impl_ReducePair_gen {α : Type} (F0 : Nat → Int → Int → Int → Int → (Int → Option α) → Option α) (F1 : Nat → Int → Int → Int → Int → (Bool → Option α) → Option α) (F2 : Nat → Int → Int → (Int → Option α) → Option α) (F3 : Nat → Int → Int → Int → Int → (Int → Option α) → Option α) (F4 : Nat → Int → Int → (Int → Option α) → Option α) (F5 : Nat → Int → Int → Int → Int → Int → (Int → Int → Option α) → Option α) (G4 : Nat → Int → Int → Int → Int → (Int → Int → Int → Int → Option α) → (Int → Option α) → ((List (Int × Int)) → Int → Option α) → Option α) (n : Nat) (a : Int) (a1 : Int) (b_ : Int) (b_1 : Int) (κ : Res → Option α) : evFn Try.prog (impl_ReducePair_XG F0 F1 F2 F3 F4 F5 G4 n) Try.f20 (((buildDs impl_ReducePair_sh [.int a, .int a1, .int b_, .int b_1]).map Prod.fst).getD []) κ = impl_ReducePair_body F0 F1 F2 F3 F4 F5 G4 n a a1 b_ b_1 (fun v1 => κ ⟨[.nilsl, .int .i64 v1], []⟩) (fun v1 v2 => κ ⟨[.sl 26 .pt v1, .int .i64 v2], []⟩) := by kernel_rfl
theorem impl_ReducePair_eq {α : Type} (n : Nat) (a : Int) (a1 : Int) (b_ : Int) (b_1 : Int) (r0 : Int → Option α) (r1 : (List (Int × Int)) → Int → Option α) : impl_ReducePair_body impl_pairFault impl_isReduced impl_Point_norm impl_dot impl_floor impl_Point_plus impl_ReducePair_l4 n a a1 b_ b_1 r0 r1 = impl_ReducePair n a a1 b_ b_1 r0 r1 := (impl_ReducePair_body.eq_1 impl_pairFault impl_isReduced impl_Point_norm impl_dot impl_floor impl_Point_plus impl_ReducePair_l4 n a a1 b_ b_1 r0 r1).trans (impl_ReducePair.eq_1 n a a1 b_ b_1 r0 r1).symm
theorem impl_ReducePair_rn {α : Type} (F : Nat → Int → Int → Int → Int → (Int → Option α) → ((List (Int × Int)) → Int → Option α) → Option α) (n : Nat) (a : Int) (a1 : Int) (b_ : Int) (b_1 : Int) (κ : Res → Option α) : impl_ReducePair_runG F n [.int a, .int a1, .int b_, .int b_1] κ = F n a a1 b_ b_1 (fun v1 => κ ⟨[.nilsl, .int .i64 v1], []⟩) (fun v1 v2 => κ ⟨[.sl 26 .pt v1, .int .i64 v2], []⟩) := rfl
theorem impl_ReducePair_ev {α : Type} (n : Nat) (a : Int) (a1 : Int) (b_ : Int) (b_1 : Int) (κ : Res → Option α) : evFn Try.prog (impl_ReducePair_X n) Try.f20 (((buildDs impl_ReducePair_sh [.int a, .int a1, .int b_, .int b_1]).map Prod.fst).getD []) κ = impl_ReducePair_run n [.int a, .int a1, .int b_, .int b_1] κ := (impl_ReducePair_gen impl_pairFault impl_isReduced impl_Point_norm impl_dot impl_floor impl_Point_plus impl_ReducePair_l4 n a a1 b_ b_1 κ).trans ((impl_ReducePair_eq n a a1 b_ b_1 (fun v1 => κ ⟨[.nilsl, .int .i64 v1], []⟩) (fun v1 v2 => κ ⟨[.sl 26 .pt v1, .int .i64 v2], []⟩)).trans ((impl_ReducePair_run.eq_1 n [.int a, .int a1, .int b_, .int b_1] κ).trans (impl_ReducePair_rn impl_ReducePair n a a1 b_ b_1 κ)).symm)
theorem impl_ReducePair_en (a : Int) (a1 : Int) (b_ : Int) (b_1 : Int) : (entry 0 (((buildDs impl_ReducePair_sh [.int a, .int a1, .int b_, .int b_1]).map Prod.fst).getD [])).map (fun x => (x.1.length, x.2.lent)) = some (2, []) := by kernel_rfl
theorem impl_ReducePair_good {α : Type} : ∀ n, GoodFn (α := α) Try.prog 20 (byShape impl_ReducePair_sh (impl_ReducePair_run n)) := by
  refine fn_good' Try.func20 (c := (Try.f20.body.getD .skip)) (by kernel_rfl) (by kernel_rfl) (by kernel_rfl) impl_ReducePair_C impl_ReducePair_M eqs impl_ReducePair_lps (fun n => tabC_good (List.forall_mem_cons.2 ⟨(impl_pairFault_good n), (List.forall_mem_cons.2 ⟨(impl_isReduced_good n), (List.forall_mem_cons.2 ⟨(impl_Point_norm_good n), (List.forall_mem_cons.2 ⟨(impl_dot_good n), (List.forall_mem_cons.2 ⟨(impl_floor_good n), (List.forall_mem_cons.2 ⟨(impl_Point_plus_good n), (fun _ h => absurd h List.not_mem_nil)⟩)⟩)⟩)⟩)⟩)⟩)) eqs_ok impl_ReducePair_Lt ?_ ?_ impl_ReducePair_sh impl_ReducePair_run ?_
  · refine List.forall_mem_cons.2 ⟨?_, (fun _ h => absurd h List.not_mem_nil)⟩
    · intro p brk ret; show impl_ReducePair_u4 0 p brk ret = none; unfold impl_ReducePair_u4 impl_ReducePair_uG4; split <;> rfl
  · refine List.forall_mem_cons.2 ⟨?_, (fun _ h => absurd h List.not_mem_nil)⟩
    · intro np lent hL n p brk ret st r hb hr
      obtain ⟨rfl, rfl⟩ := hL
      rw [← tpl_of hb]
      change impl_ReducePair_u4 (n + 1) p brk ret = some r at hr
      have hr0 := hr
      unfold impl_ReducePair_u4 impl_ReducePair_uG4 at hr
      split at hr
      · exact (impl_ReducePair_l4_ev n _ _ _ _ brk ret).trans hr0
      · cases hr
  · intro n p κ r ds hd hr
    have hr0 := hr
    unfold impl_ReducePair_run impl_ReducePair_runG at hr
    split at hr
    · rw [← ds_of hd]
      exact ⟨en_of (impl_ReducePair_en _ _ _ _) ⟨rfl, rfl⟩, (impl_ReducePair_ev n _ _ _ _ κ).trans hr0⟩
    · cases hr

/-! loop.example/g01297/spec.l01In -/
def spec_l01In_sh : List SkD := [.int .i64, .int .i64, .int .i64]
def spec_l01In_runG {α : Type} (F : Nat → Int → Int → Int → (Bool → Option α) → Option α) (n : Nat) (p : List P1) (κ : Res → Option α) : Option α := match p with
  | [.int n_, .int low, .int high] => F n n_ low high (fun v1 => κ ⟨[.bool v1], []⟩)
  | _ => none
def spec_l01In_run {α : Type} (n : Nat) (p : List P1) (κ : Res → Option α) : Option α := spec_l01In_runG spec_l01In n p κ
def spec_l01In_CG {α : Type}  (n : Nat) : FuncId → List D → (Res → Option α) → Option α := tabC []
def spec_l01In_C {α : Type} (n : Nat) : FuncId → List D → (Res → Option α) → Option α := spec_l01In_CG n
def spec_l01In_M : FuncId → List Nat := tabM []
def spec_l01In_lpsG {α : Type}  : List (LoopT α) := []
def spec_l01In_lps {α : Type} : List (LoopT α) := spec_l01In_lpsG
def spec_l01In_XG {α : Type}   (n : Nat) : Ctx α := ⟨spec_l01In_CG n, spec_l01In_M, eqs, lpOf (spec_l01In_lpsG) n⟩
def spec_l01In_X {α : Type} (n : Nat) : Ctx α := spec_l01In_XG n
def spec_l01In_Lt (np : Nat) (lent : List (Bool × Nat × Blk)) : Prop := np = 3 ∧ lent = []
def spec_l01In_body {α : Type}   (k : Nat) (n_ : Int) (low : Int) (high : Int) (r0 : Bool → Option α) : Option α :=
  bif decide (low ≤ n_) then
    r0 (decide (n_ ≤ high))
  else
    r0 false
theorem spec_l01In_gen {α : Type}   (n : Nat) (n_ : Int) (low : Int) (high : Int) (κ : Res → Option α) : evFn Try.prog (spec_l01In_XG n) Try.f170 (((buildDs spec_l01In_sh [.int n_, .int low, .int high]).map Prod.fst).getD []) κ = spec_l01In_body n n_ low high (fun v1 => κ ⟨[.bool v1], []⟩) := by kernel_rfl
theorem spec_l01In_eq {α : Type} (n : Nat) (n_ : Int) (low : Int) (high : Int) (r0 : Bool → Option α) : spec_l01In_body n n_ low high r0 = spec_l01In n n_ low high r0 := (spec_l01In_body.eq_1 n n_ low high r0).trans (spec_l01In.eq_1 n n_ low high r0).symm
theorem spec_l01In_rn {α : Type} (F : Nat → Int → Int → Int → (Bool → Option α) → Option α) (n : Nat) (n_ : Int) (low : Int) (high : Int) (κ : Res → Option α) : spec_l01In_runG F n [.int n_, .int low, .int high] κ = F n n_ low high (fun v1 => κ ⟨[.bool v1], []⟩) := rfl
theorem spec_l01In_ev {α : Type} (n : Nat) (n_ : Int) (low : Int) (high : Int) (κ : Res → Option α) : evFn Try.prog (spec_l01In_X n) Try.f170 (((buildDs spec_l01In_sh [.int n_, .int low, .int high]).map Prod.fst).getD []) κ = spec_l01In_run n [.int n_, .int low, .int high] κ := (spec_l01In_gen n n_ low high κ).trans ((spec_l01In_eq n n_ low high (fun v1 => κ ⟨[.bool v1], []⟩)).trans ((spec_l01In_run.eq_1 n [.int n_, .int low, .int high] κ).trans (spec_l01In_rn spec_l01In n n_ low high κ)).symm)
theorem spec_l01In_en (n_ : Int) (low : Int) (high : Int) : (entry 0 (((buildDs spec_l01In_sh [.int n_, .int low, .int high]).map Prod.fst).getD [])).map (fun x => (x.1.length, x.2.lent)) = some (3, []) := by kernel_rfl
theorem spec_l01In_good {α : Type} : ∀ n, GoodFn (α := α) Try.prog 170 (byShape spec_l01In_sh (spec_l01In_run n)) := by
  refine fn_good' Try.func170 (c := (Try.f170.body.getD .skip)) (by kernel_rfl) (by kernel_rfl) (by kernel_rfl) spec_l01In_C spec_l01In_M eqs spec_l01In_lps (fun n => tabC_good (fun _ h => absurd h List.not_mem_nil)) eqs_ok spec_l01In_Lt ?_ ?_ spec_l01In_sh spec_l01In_run ?_
  · exact (fun _ h => absurd h List.not_mem_nil)
  · exact (fun _ h => absurd h List.not_mem_nil)
  · intro n p κ r ds hd hr
    have hr0 := hr
    unfold spec_l01In_run spec_l01In_runG at hr
    split at hr
    · rw [← ds_of hd]
      exact ⟨en_of (spec_l01In_en _ _ _) ⟨rfl, rfl⟩, (spec_l01In_ev n _ _ _ κ).trans hr0⟩
    · cases hr

/-! loop.example/g01297/spec.l01Fits -/
def spec_l01Fits_sh : List SkD := [.int .i64]
def spec_l01Fits_runG {α : Type} (F : Nat → Int → (Bool → Option α) → Option α) (n : Nat) (p : List P1) (κ : Res → Option α) : Option α := match p with
  | [.int x] => F n x (fun v1 => κ ⟨[.bool v1], []⟩)
  | _ => none
def spec_l01Fits_run {α : Type} (n : Nat) (p : List P1) (κ : Res → Option α) : Option α := spec_l01Fits_runG spec_l01Fits n p κ
def spec_l01Fits_CG {α : Type} (F0 : Nat → Int → Int → Int → (Bool → Option α) → Option α) (n : Nat) : FuncId → List D → (Res → Option α) → Option α := tabC [(170, (byShape spec_l01In_sh (spec_l01In_runG F0 n)))]
def spec_l01Fits_C {α : Type} (n : Nat) : FuncId → List D → (Res → Option α) → Option α := spec_l01Fits_CG spec_l01In n
def spec_l01Fits_M : FuncId → List Nat := tabM []
def spec_l01Fits_lpsG {α : Type}  : List (LoopT α) := []
def spec_l01Fits_lps {α : Type} : List (LoopT α) := spec_l01Fits_lpsG
def spec_l01Fits_XG {α : Type} (F0 : Nat → Int → Int → Int → (Bool → Option α) → Option α)  (n : Nat) : Ctx α := ⟨spec_l01Fits_CG F0 n, spec_l01Fits_M, eqs, lpOf (spec_l01Fits_lpsG) n⟩
def spec_l01Fits_X {α : Type} (n : Nat) : Ctx α := spec_l01Fits_XG spec_l01In n
def spec_l01Fits_Lt (np : Nat) (lent : List (Bool × Nat × Blk)) : Prop := np = 1 ∧ lent = []
def spec_l01Fits_body {α : Type} (F0 : Nat → Int → Int → Int → (Bool → Option α) → Option α)  (k : Nat) (x : Int) (r0 : Bool → Option α) : Option α :=
  F0 k x (-1000000) 1000000 fun v =>
  r0 v
theorem spec_l01Fits_gen {α : Type} (F0 : Nat → Int → Int → Int → (Bool → Option α) → Option α)  (n : Nat) (x : Int) (κ : Res → Option α) : evFn Try.prog (spec_l01Fits_XG F0 n) Try.f244 (((buildDs spec_l01Fits_sh [.int x]).map Prod.fst).getD []) κ = spec_l01Fits_body F0 n x (fun v1 => κ ⟨[.bool v1], []⟩) := by kernel_rfl
theorem spec_l01Fits_eq {α : Type} (n : Nat) (x : Int) (r0 : Bool → Option α) : spec_l01Fits_body spec_l01In n x r0 = spec_l01Fits n x r0 := (spec_l01Fits_body.eq_1 spec_l01In n x r0).trans (spec_l01Fits.eq_1 n x r0).symm
theorem spec_l01Fits_rn {α : Type} (F : Nat → Int → (Bool → Option α) → Option α) (n : Nat) (x : Int) (κ : Res → Option α) : spec_l01Fits_runG F n [.int x] κ = F n x (fun v1 => κ ⟨[.bool v1], []⟩) := rfl
theorem spec_l01Fits_ev {α : Type} (n : Nat) (x : Int) (κ : Res → Option α) : evFn Try.prog (spec_l01Fits_X n) Try.f244 (((buildDs spec_l01Fits_sh [.int x]).map Prod.fst).getD []) κ = spec_l01Fits_run n [.int x] κ := (spec_l01Fits_gen spec_l01In n x κ).trans ((spec_l01Fits_eq n x (fun v1 => κ ⟨[.bool v1], []⟩)).trans ((spec_l01Fits_run.eq_1 n [.int x] κ).trans (spec_l01Fits_rn spec_l01Fits n x κ)).symm)
theorem spec_l01Fits_en (x : Int) : (entry 0 (((buildDs spec_l01Fits_sh [.int x]).map Prod.fst).getD [])).map (fun x => (x.1.length, x.2.lent)) = some (1, []) := by kernel_rfl
theorem spec_l01Fits_good {α : Type} : ∀ n, GoodFn (α := α) Try.prog 244 (byShape spec_l01Fits_sh (spec_l01Fits_run n)) := by
  refine fn_good' Try.func244 (c := (Try.f244.body.getD .skip)) (by kernel_rfl) (by kernel_rfl) (by kernel_rfl) spec_l01Fits_C spec_l01Fits_M eqs spec_l01Fits_lps (fun n => tabC_good (List.forall_mem_cons.2 ⟨(spec_l01In_good n), (fun _ h => absurd h List.not_mem_nil)⟩)) eqs_ok spec_l01Fits_Lt ?_ ?_ spec_l01Fits_sh spec_l01Fits_run ?_
  · exact (fun _ h => absurd h List.not_mem_nil)
  · exact (fun _ h => absurd h List.not_mem_nil)
  · intro n p κ r ds hd hr
    have hr0 := hr
    unfold spec_l01Fits_run spec_l01Fits_runG at hr
    split at hr
    · rw [← ds_of hd]
      exact ⟨en_of (spec_l01Fits_en _) ⟨rfl, rfl⟩, (spec_l01Fits_ev n _ κ).trans hr0⟩
    · cases hr

end Go.Proofs.Ytjekmhinmcniaaa
