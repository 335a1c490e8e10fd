/- Tables: loops by their numbers, functions by the shapes of their data. -/
import Derived.Test.YtbepofgmcchbdaaEvGood
namespace Go.Ev
open Go.RowKit

variable {α : Type} {P : Program}

/-- A loop, by the rounds it may take. -/
structure LoopT (α : Type) where
  key : Nat
  tpl : Tpl
  run : Nat → List P1 → (Nat → List P1 → Option α) → (Res → Option α) → Option α

def pickL : List (LoopT α) → Nat → Option (LoopT α)
  | [], _ => none
  | T :: r, key => bif Nat.beq T.key key then some T else pickL r key

def lpOf (ls : List (LoopT α)) (n key : Nat) : Option (Lp α) := (pickL ls key).map fun T => ⟨T.tpl, T.run n⟩

def loopsIn : Code → List Code
  | .seq a b => loopsIn a ++ loopsIn b
  | .cond _ a b => loopsIn a ++ loopsIn b
  | .block _ b => loopsIn b
  | .loop b => b :: loopsIn b
  | _ => []

def keyIs (b : Code) (key : Nat) : Bool := match firstRegion b with
  | some k => Nat.beq k key
  | none => false

def findLoop : List Code → Nat → Code
  | [], _ => .skip
  | b :: r, key => bif keyIs b key then b else findLoop r key

def anyKey : List Code → Nat → Bool
  | [], _ => false
  | b :: r, key => keyIs b key || anyKey r key

def uniqK : List Code → Bool
  | [] => true
  | b :: r => (match firstRegion b with
    | some k => !anyKey r k && Nat.blt k 100000
    | none => true) && uniqK r

theorem anyKey_mem {ls : List Code} {b : Code} {key : Nat} (h : b ∈ ls) (hk : firstRegion b = some key) : anyKey ls key = true := by
  induction ls with
  | nil => simp at h
  | cons c r ih =>
    simp only [anyKey, Bool.or_eq_true]
    rcases List.mem_cons.1 h with rfl | h
    · left; simp [keyIs, hk]
    · exact .inr (ih h)

theorem findLoop_mem {ls : List Code} (hu : uniqK ls = true) {b : Code} {key : Nat} (h : b ∈ ls) (hk : firstRegion b = some key) : findLoop ls key = b := by
  induction ls with
  | nil => simp at h
  | cons c r ih =>
    simp only [uniqK, Bool.and_eq_true] at hu
    simp only [findLoop]
    rcases List.mem_cons.1 h with rfl | h
    · simp [keyIs, hk]
    · cases hc : keyIs c key with
      | false => simpa using ih hu.2 h
      | true =>
        exfalso
        unfold keyIs at hc
        split at hc
        · rename_i k hck
          have := beq_t hc
          subst this
          have h1 := hu.1
          rw [hck] at h1
          simp [anyKey_mem h hk] at h1
        · cases hc

theorem uniq_lt : ∀ {ls : List Code}, uniqK ls = true → ∀ {b : Code} {key : Nat}, b ∈ ls → firstRegion b = some key → key < 100000
  | c :: r, hu, b, key, h, hk => by
    simp only [uniqK, Bool.and_eq_true] at hu
    rcases List.mem_cons.1 h with rfl | h
    · have h1 := hu.1
      rw [hk] at h1
      simp only [Bool.and_eq_true] at h1
      exact Nat.le_of_ble_eq_true h1.2
    · exact uniq_lt hu.2 h hk

theorem pickL_mem : ∀ {ls : List (LoopT α)} {key : Nat} {T : LoopT α}, pickL ls key = some T → T ∈ ls ∧ T.key = key
  | [], key, T, h => by simp [pickL] at h
  | t :: r, key, T, h => by
    simp only [pickL] at h
    cases hb : Nat.beq t.key key with
    | true =>
      rw [hb, cond_true] at h
      have := Option.some.inj h
      subst this
      exact ⟨by simp, beq_t hb⟩
    | false =>
      rw [hb, cond_false] at h
      obtain ⟨h1, h2⟩ := pickL_mem h
      exact ⟨by simp [h1], h2⟩

theorem loopsOK_of {F : Fix} {R : Res → Act → World → Prop} {E : Env α} : ∀ (c : Code), (∀ b ∈ loopsIn c, ∀ T, ((firstRegion b).bind E.lp = some T ∨ ((firstRegion b).bind fun i => E.lp (i + 100000)) = some T) → LoopOK E.P F R b T) → LoopsOK F R E c
  | .seq a b, h => ⟨loopsOK_of a fun x hx => h x (by simp [loopsIn, hx]), loopsOK_of b fun x hx => h x (by simp [loopsIn, hx])⟩
  | .cond _ a b, h => ⟨loopsOK_of a fun x hx => h x (by simp [loopsIn, hx]), loopsOK_of b fun x hx => h x (by simp [loopsIn, hx])⟩
  | .block _ b, h => loopsOK_of b fun x hx => h x (by simpa [loopsIn] using hx)
  | .loop b, h => ⟨loopsOK_of b fun x hx => h x (by simp [loopsIn, hx]), fun T hT => h b (by simp [loopsIn]) T (.inl hT), fun T hT => h b (by simp [loopsIn]) T (.inr hT)⟩
  | .skip, _ => trivial
  | .region .., _ => trivial
  | .goto _, _ => trivial
  | .label _, _ => trivial
  | .ret, _ => trivial
  | .exit _, _ => trivial
  | .rangeFunc .., _ => trivial
  | .scope .., _ => trivial
  | .refuse .., _ => trivial

theorem loopsIn_sub : ∀ (c : Code) (b : Code), b ∈ loopsIn c → ∀ x ∈ loopsIn b, x ∈ loopsIn c
  | .seq a b, x, h, y, hy => by
    simp only [loopsIn, List.mem_append] at h ⊢
    rcases h with h | h
    · exact .inl (loopsIn_sub a x h y hy)
    · exact .inr (loopsIn_sub b x h y hy)
  | .cond _ a b, x, h, y, hy => by
    simp only [loopsIn, List.mem_append] at h ⊢
    rcases h with h | h
    · exact .inl (loopsIn_sub a x h y hy)
    · exact .inr (loopsIn_sub b x h y hy)
  | .block _ b, x, h, y, hy => by
    simp only [loopsIn] at h ⊢
    exact loopsIn_sub b x h y hy
  | .loop b, x, h, y, hy => by
    simp only [loopsIn, List.mem_cons] at h ⊢
    rcases h with rfl | h
    · exact .inr hy
    · exact .inr (loopsIn_sub b x h y hy)
  | .skip, _, h, _, _ => by simp [loopsIn] at h
  | .region .., _, h, _, _ => by simp [loopsIn] at h
  | .goto _, _, h, _, _ => by simp [loopsIn] at h
  | .label _, _, h, _, _ => by simp [loopsIn] at h
  | .ret, _, h, _, _ => by simp [loopsIn] at h
  | .exit _, _, h, _, _ => by simp [loopsIn] at h
  | .rangeFunc .., _, h, _, _ => by simp [loopsIn] at h
  | .scope .., _, h, _, _ => by simp [loopsIn] at h
  | .refuse .., _, h, _, _ => by simp [loopsIn] at h

/-- Every loop of a function keeps what its template tells. -/
theorem loops_ok {c : Code} {F : Fix} {R : Res → Act → World → Prop} (hu : uniqK (loopsIn c) = true) (lps : List (LoopT α)) (En : Nat → Env α) (hP : ∀ n, (En n).P = P) (hlp : ∀ n, (En n).lp = lpOf lps n) (hE : ∀ n, EnvOK F (En n) R)
    (h0 : ∀ T ∈ lps, ∀ p brk ret, T.run 0 p brk ret = none)
    (hs : ∀ T ∈ lps, ∀ n p brk ret st r, T.tpl.build p = some st → T.run (n + 1) p brk ret = some r → ev (En n) (findLoop (loopsIn c) (T.key % 100000)) st (roundK F.low T.tpl (fun q => T.run n q brk ret) brk ret) = some r) :
    ∀ n, LoopsOK F R (En n) c := by
  have split : ∀ {n : Nat} {b : Code} {T : Lp α}, ((firstRegion b).bind (lpOf lps n) = some T ∨ ((firstRegion b).bind fun i => lpOf lps n (i + 100000)) = some T) → ∃ k k0 t, firstRegion b = some k0 ∧ (k = k0 ∨ k = k0 + 100000) ∧ pickL lps k = some t ∧ T = ⟨t.tpl, t.run n⟩ := by
    intro n b T hT
    rcases hT with hT | hT
    · rw [Option.bind_eq_some_iff] at hT
      obtain ⟨k, hk, hT⟩ := hT
      simp only [lpOf, Option.map_eq_some_iff] at hT
      obtain ⟨t, ht, rfl⟩ := hT
      exact ⟨k, k, t, hk, .inl rfl, ht, rfl⟩
    · rw [Option.bind_eq_some_iff] at hT
      obtain ⟨k, hk, hT⟩ := hT
      simp only [lpOf, Option.map_eq_some_iff] at hT
      obtain ⟨t, ht, rfl⟩ := hT
      exact ⟨k + 100000, k, t, hk, .inr rfl, ht, rfl⟩
  have key : ∀ n, ∀ b ∈ loopsIn c, ∀ k k0 t, firstRegion b = some k0 → (k = k0 ∨ k = k0 + 100000) → pickL lps k = some t → LoopOK P F R b ⟨t.tpl, t.run n⟩ := by
    intro n
    induction n with
    | zero =>
      intro b hb k k0 t hk _ ht r p brk ret hr
      simp [h0 t (pickL_mem ht).1] at hr
    | succ n ih =>
      intro b hb k k0 t hk hkk ht r p brk ret hr st hst a w hrel
      obtain ⟨hmem, hkey⟩ := pickL_mem ht
      have hlt := uniq_lt hu hb hk
      have hmod : t.key % 100000 = k0 := by rw [hkey]; omega
      have hfind := findLoop_mem hu hb hk
      have hbody : LoopsOK F R (En n) b := loopsOK_of b fun x hx T hT => by
        rw [hlp] at hT
        rw [hP]
        obtain ⟨k', k0', t', hk', hkk', ht', rfl⟩ := split hT
        exact ih x (loopsIn_sub c b hb x hx) k' k0' t' hk' hkk' ht'
      have hev := hs t hmem n p brk ret st r hst hr
      rw [hmod, hfind] at hev
      have hev := ev_ok (hE n) b hbody hev hrel
      rw [hP n] at hev
      have hTn := ih b hb k k0 t hk hkk ht
      refine loopWp_step (wp_mono hev fun e a' w' ⟨out, ho, hro⟩ => ?_)
      cases out with
      | normal st' =>
        cases e <;> simp only [OutRel] at hro
        simp only [roundK, Option.bind_eq_some_iff] at ho
        obtain ⟨q, hq, ho⟩ := ho
        obtain ⟨st2, hst2, hrel2⟩ := take_build (F := F) hq
        exact hTn r q brk ret ho st2 hst2 a' w' (hrel2 a' w' hro)
      | exit j st' =>
        cases e <;> simp only [OutRel] at hro
        obtain ⟨rfl, hro⟩ := hro
        simp only [roundK, Option.bind_eq_some_iff] at ho
        obtain ⟨q, hq, ho⟩ := ho
        obtain ⟨st2, hst2, hrel2⟩ := take_build (F := F) hq
        exact .inl ⟨j, q, st2, rfl, ho, hst2, hrel2 a' w' hro⟩
      | ret rr =>
        cases e <;> simp only [OutRel] at hro
        exact .inr ⟨rr, rfl, ho, hro⟩
  intro n
  exact loopsOK_of c fun b hb T hT => by
    rw [hlp] at hT
    rw [hP]
    obtain ⟨k, k0, t, hk, hkk, ht, rfl⟩ := split hT
    exact key n b hb k k0 t hk hkk ht

/-! ### functions by the shapes of their data -/
inductive SkD where
  | int (k : IntKind) | bool | str | nilsl | nilptr
  | agg (l : List SkD)
  | sl (e : TypeId) (t : Ty)
  | slm (e : TypeId) (l : List SkD)
  | msl (e : TypeId) (t : Ty)
  | ptr (e : TypeId) (l : List SkD)
  | mptr (e : TypeId) (l : List SkD)
  | fn (f : FuncId) (l : List SkD)
  | same (i : Nat)
  | keep

mutual
def takeD : SkD → D → Option (List P1)
  | .int k, .int k' n => if k = k' then some [.int n] else none
  | .bool, .bool b => some [.bool b]
  | .str, .str s => some [.str s]
  | .nilsl, .nilsl => some []
  | .nilptr, .nilptr => some []
  | .agg s, .agg l => takeDs s l
  | .sl e t, .sl e' t' l => bif Nat.beq e e' then (if h : t' = t then some [.rows t (h ▸ l)] else none) else none
  | .slm e s, .slm e' l => bif Nat.beq e e' then takeDs s l else none
  | .msl e t, .msl e' t' l => bif Nat.beq e e' then (if h : t' = t then some [.rows t (h ▸ l)] else none) else none
  | .ptr e s, .ptr e' l => bif Nat.beq e e' then takeDs s l else none
  | .mptr e s, .mptr e' l => bif Nat.beq e e' then takeDs s l else none
  | .fn f s, .fn f' l => bif Nat.beq f f' then takeDs s l else none
  | _, _ => none
def takeDs : List SkD → List D → Option (List P1)
  | [], [] => some []
  | s :: ss, v :: vs => (takeD s v).bind fun p => (takeDs ss vs).map fun q => p ++ q
  | _, _ => none
end

mutual
def buildD : SkD → List P1 → Option (D × List P1)
  | .int k, .int n :: p => some (.int k n, p)
  | .bool, .bool b :: p => some (.bool b, p)
  | .str, .str s :: p => some (.str s, p)
  | .nilsl, p => some (.nilsl, p)
  | .nilptr, p => some (.nilptr, p)
  | .agg s, p => (buildDs s p).map fun (l, p) => (.agg l, p)
  | .sl e t, .rows t' l :: p => if h : t' = t then some (.sl e t (h ▸ l), p) else none
  | .slm e s, p => (buildDs s p).map fun (l, p) => (.slm e l, p)
  | .msl e t, .rows t' l :: p => if h : t' = t then some (.msl e t (h ▸ l), p) else none
  | .ptr e s, p => (buildDs s p).map fun (l, p) => (.ptr e l, p)
  | .mptr e s, p => (buildDs s p).map fun (l, p) => (.mptr e l, p)
  | .fn f s, p => (buildDs s p).map fun (l, p) => (.fn f l, p)
  | .same i, p => some (.same i, p)
  | .keep, p => some (.keep, p)
  | _, _ => none
def buildDs : List SkD → List P1 → Option (List D × List P1)
  | [], p => some ([], p)
  | s :: ss, p => (buildD s p).bind fun (v, p) => (buildDs ss p).map fun (vs, p) => (v :: vs, p)
end

theorem SkD.rows_build {t t' : Ty} {l : List t'.den} {p : List P1} {c : Bool} (h : (bif c then (if h : t' = t then some [P1.rows t (h ▸ l)] else none) else none) = some p) : c = true ∧ ∃ e : t' = t, p = [.rows t (e ▸ l)] := by
  obtain ⟨h1, h2⟩ := ifB h
  split at h2
  · rename_i e
    exact ⟨h1, e, (Option.some.inj h2).symm⟩
  · cases h2

mutual
theorem takeD_build : ∀ (s : SkD) (d : D) (p q : List P1), takeD s d = some p → buildD s (p ++ q) = some (d, q)
  | .int k, .int k' n, p, q, h => by
    simp only [takeD] at h
    split at h
    · rename_i e; subst e; simp at h; subst h; simp [buildD]
    · simp at h
  | .bool, .bool b, p, q, h => by simp only [takeD, Option.some.injEq] at h; subst h; simp [buildD]
  | .str, .str s, p, q, h => by simp only [takeD, Option.some.injEq] at h; subst h; simp [buildD]
  | .nilsl, .nilsl, p, q, h => by simp only [takeD, Option.some.injEq] at h; subst h; simp [buildD]
  | .nilptr, .nilptr, p, q, h => by simp only [takeD, Option.some.injEq] at h; subst h; simp [buildD]
  | .agg s, .agg l, p, q, h => by
    simp only [takeD] at h
    simp [buildD, takeDs_build s l p q h]
  | .sl e t, .sl e' t' l, p, q, h => by
    simp only [takeD] at h
    obtain ⟨h1, e2, rfl⟩ := SkD.rows_build h
    have := beq_t h1
    subst this e2
    simp [buildD]
  | .slm e s, .slm e' l, p, q, h => by
    simp only [takeD] at h
    obtain ⟨h1, h2⟩ := ifB h
    have := beq_t h1
    subst this
    simp [buildD, takeDs_build s l p q h2]
  | .msl e t, .msl e' t' l, p, q, h => by
    simp only [takeD] at h
    obtain ⟨h1, e2, rfl⟩ := SkD.rows_build h
    have := beq_t h1
    subst this e2
    simp [buildD]
  | .ptr e s, .ptr e' l, p, q, h => by
    simp only [takeD] at h
    obtain ⟨h1, h2⟩ := ifB h
    have := beq_t h1
    subst this
    simp [buildD, takeDs_build s l p q h2]
  | .mptr e s, .mptr e' l, p, q, h => by
    simp only [takeD] at h
    obtain ⟨h1, h2⟩ := ifB h
    have := beq_t h1
    subst this
    simp [buildD, takeDs_build s l p q h2]
  | .fn e s, .fn e' l, p, q, h => by
    simp only [takeD] at h
    obtain ⟨h1, h2⟩ := ifB h
    have := beq_t h1
    subst this
    simp [buildD, takeDs_build s l p q h2]
theorem takeDs_build : ∀ (s : List SkD) (ds : List D) (p q : List P1), takeDs s ds = some p → buildDs s (p ++ q) = some (ds, q)
  | [], [], p, q, h => by
    simp only [takeDs, Option.some.injEq] at h
    subst h
    simp [buildDs]
  | s :: ss, d :: ds, p, q, h => by
    simp only [takeDs, Option.bind_eq_some_iff, Option.map_eq_some_iff] at h
    obtain ⟨p1, h1, p2, h2, rfl⟩ := h
    simp [buildDs, List.append_assoc, takeD_build s d p1 (p2 ++ q) h1, takeDs_build ss ds p2 q h2]
end

/-- A function, by the shape of its data. -/
def byShape (s : List SkD) (run : List P1 → (Res → Option α) → Option α) (ds : List D) (κ : Res → Option α) : Option α := (takeDs s ds).bind fun p => run p κ

def tabC (l : List (FuncId × (List D → (Res → Option α) → Option α))) (f : FuncId) (ds : List D) (κ : Res → Option α) : Option α := match l with
  | [] => none
  | (g, S) :: r => bif Nat.beq g f then S ds κ else tabC r f ds κ

def tabM (l : List (FuncId × List Nat)) (f : FuncId) : List Nat := match l with
  | [] => []
  | (g, m) :: r => bif Nat.beq g f then m else tabM r f

theorem tabC_good {l : List (FuncId × (List D → (Res → Option α) → Option α))} (h : ∀ p ∈ l, GoodFn P p.1 p.2) : GoodC P (tabC l) := by
  intro f ⟨ds, κ, r, hk⟩
  induction l with
  | nil => simp [tabC] at hk
  | cons p l ih =>
    obtain ⟨g, S⟩ := p
    cases hb : Nat.beq g f with
    | true =>
      have := beq_t hb
      subst this
      have e : tabC ((g, S) :: l) g = S := by
        funext ds κ
        simp [tabC]
      rw [e]
      exact h (g, S) (by simp)
    | false =>
      have e : tabC ((g, S) :: l) f = tabC l f := by
        funext ds κ
        simp [tabC, hb]
      rw [e] at hk ⊢
      exact ih (fun p hp => h p (by simp [hp])) hk

/-- A function with its loops. -/
theorem fn_good' {f : FuncId} {fn : Func} {c : Code} (hf : P.funcs[f]? = some fn) (hb : fn.body = some c) (hname : (fn.name == "runtime.NumGoroutine") = false) (hu : uniqK (loopsIn c) = true)
    (C : Nat → FuncId → List D → (Res → Option α) → Option α) (M : FuncId → List Nat) (eqs : TypeId → Nat → Bool) (lps : List (LoopT α)) (jt : Nat → Option Tpl) (two : Bool) (hC : ∀ n, GoodC P (C n)) (heq : EqOK P eqs)
    (Lt : Nat → List (Bool × Nat × Blk) → Prop)
    (h0 : ∀ T ∈ lps, ∀ p brk ret, T.run 0 p brk ret = none)
    (hs : ∀ T ∈ lps, ∀ np lent, Lt np lent → ∀ n p brk ret st r, T.tpl.build p = some st → T.run (n + 1) p brk ret = some r →
      ev ((Ctx.mk (C n) M eqs (lpOf lps n) jt two).env P fn np lent) (findLoop (loopsIn c) (T.key % 100000)) st (roundK (np * 64) T.tpl (fun q => T.run n q brk ret) brk ret) = some r)
    (sh : List SkD) (run : Nat → List P1 → (Res → Option α) → Option α)
    (hS : ∀ n p κ r ds, buildDs sh p = some (ds, []) → run n p κ = some r → (∃ vs e, entry 0 ds = some (vs, e) ∧ Lt vs.length e.lent) ∧ evFn P (Ctx.mk (C n) M eqs (lpOf lps n) jt two) fn ds κ = some r) :
    ∀ n, GoodFn P f (byShape sh (run n)) := by
  intro n
  refine fn_good hf hb hname (X := Ctx.mk (C n) M eqs (lpOf lps n) jt two) (hC n) heq _ Lt (fun ds κ r h => ?_) (fun F R np lent hLt hE => ?_)
  · unfold byShape at h
    rw [Option.bind_eq_some_iff] at h
    obtain ⟨p, hp, h⟩ := h
    have := takeDs_build sh ds p [] hp
    rw [List.append_nil] at this
    exact hS n p κ r ds this h
  · have hres := hE.res
    exact loops_ok hu lps (fun n => (Ctx.mk (C n) M eqs (lpOf lps n) jt two).env P fn np lent) (fun _ => rfl) (fun _ => rfl)
      (fun m => ⟨hC m, heq, hE.low, hE.res⟩) h0 (fun T hT n p brk ret st r h1 h2 => by
        have hlow : np * 64 = F.low := hE.low
        rw [← hlow]
        exact hs T hT np lent hLt n p brk ret st r h1 h2) n

/-- One function, of two shapes of data. -/
def orShape (s : List SkD) (run : List P1 → (Res → Option α) → Option α) (S : List D → (Res → Option α) → Option α) (ds : List D) (κ : Res → Option α) : Option α := match takeDs s ds with
  | some p => run p κ
  | none => S ds κ

theorem or_good {f : FuncId} {s : List SkD} {run : List P1 → (Res → Option α) → Option α} {S : List D → (Res → Option α) → Option α} (h1 : GoodFn P f (byShape s run)) (h2 : GoodFn P f S) : GoodFn P f (orShape s run S) where
  enters := h1.enters
  runs := fun ds κ r h => by
    unfold orShape at h
    split at h
    · rename_i p hp
      exact h1.runs ds κ r (by unfold byShape; rw [hp]; exact h)
    · exact h2.runs ds κ r h

theorem tpl_of {t : Tpl} {p : List P1} {st : St} (h : t.build p = some st) : (t.build p).getD ⟨[], []⟩ = st := by rw [h]; rfl

theorem ds_of {sh : List SkD} {p q : List P1} {ds : List D} (h : buildDs sh p = some (ds, q)) : ((buildDs sh p).map Prod.fst).getD [] = ds := by rw [h]; rfl

theorem en_of {ds : List D} {np : Nat} {lent : List (Bool × Nat × Blk)} (h : (entry 0 ds).map (fun x => (x.1.length, x.2.lent)) = some (np, lent)) {Lt : Nat → List (Bool × Nat × Blk) → Prop} (hL : Lt np lent) : ∃ vs e, entry 0 ds = some (vs, e) ∧ Lt vs.length e.lent := by
  rw [Option.map_eq_some_iff] at h
  obtain ⟨⟨vs, e⟩, h1, h2⟩ := h
  injection h2 with h2 h3
  exact ⟨vs, e, h1, by rw [h2, h3]; exact hL⟩

end Go.Ev
