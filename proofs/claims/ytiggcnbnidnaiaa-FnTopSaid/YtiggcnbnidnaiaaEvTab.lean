/- Tables: loops by their numbers, functions by the shapes of their data. -/
import Derived.Test.YtiggcnbnidnaiaaEvGood
namespace Go.Ev
open Go.RowKit
variable {α : Type} {P : Program}
structure SK (α : Type) where
 key : Nat
 tpl : Tpl
 run : Nat → List P1 → (Nat → List P1 → Option α) → (Res → Option α) → Option α
def abS : List (SK α) → Nat → Option (SK α)
 | [], _ => none
 | T :: r, key => bif Nat.beq T.key key then some T else abS r key
def lpOf (ls : List (SK α)) (n key : Nat) : Option (Lp α) := (abS ls key).map fun T => ⟨T.tpl, T.run n⟩
def gY : Code → List Code
 | .seq a b => gY a ++ gY b
 | .cond _ a b => gY a ++ gY b
 | .block _ b => gY b
 | .loop b => b :: gY b
 | _ => []
def ac2 (b : Code) (key : Nat) : Bool := match iV b with
 | some k => Nat.beq k key
 | none => false
def Pj : List Code → Nat → Code
 | [], _ => .skip
 | b :: r, key => bif ac2 b key then b else Pj r key
def ad3 : List Code → Nat → Bool
 | [], _ => false
 | b :: r, key => ac2 b key || ad3 r key
def aaK : List Code → Bool
 | [] => true
 | b :: r => (match iV b with
   | some k => !ad3 r k && Nat.blt k 100000
   | none => true) && aaK r
theorem ai6 {ls : List Code} {b : Code} {key : Nat} (h : b ∈ ls) (hk : iV b = some key) : ad3 ls key = true := by
 induction ls with
 | nil => simp at h
 | cons c r ih =>
   simp only [ad3, Bool.or_eq_true]
   rcases List.mem_cons.1 h with rfl | h
   ·left; simp [ac2, hk]
   ·exact .inr (ih h)
theorem aha {ls : List Code} (hu : aaK ls = true) {b : Code} {key : Nat} (h : b ∈ ls) (hk : iV b = some key) : Pj ls key = b := by
 induction ls with
 | nil => simp at h
 | cons c r ih =>
   simp only [aaK, Bool.and_eq_true] at hu
   simp only [Pj]
   rcases List.mem_cons.1 h with rfl | h
   ·simp [ac2, hk]
   ·cases hc : ac2 c key with
    | false => simpa using ih hu.2 h
    | true =>
      exfalso
      unfold ac2 at hc
      split at hc
      ·rename_i k hck
       have := aJ hc
       subst this
       have h1 := hu.1
       rw [hck] at h1
       simp [ai6 h hk] at h1
      ·cases hc
theorem ahY : ∀ {ls : List Code}, aaK ls = true → ∀ {b : Code} {key : Nat}, b ∈ ls → iV b = some key → key < 100000
 | c :: r, hu, b, key, h, hk => by
   simp only [aaK, Bool.and_eq_true] at hu
   rcases List.mem_cons.1 h with rfl | h
   ·have h1 := hu.1
    rw [hk] at h1
    simp only [Bool.and_eq_true] at h1
    exact Nat.le_of_ble_eq_true h1.2
   ·exact ahY hu.2 h hk
theorem acH : ∀ {ls : List (SK α)} {key : Nat} {T : SK α}, abS ls key = some T → T ∈ ls ∧ T.key = key
 | [], key, T, h => by simp [abS] at h
 | t :: r, key, T, h => by
   simp only [abS] at h
   cases hb : Nat.beq t.key key with
   | true =>
     rw [hb, cond_true] at h
     have := Option.some.inj h
     subst this
     exact ⟨by simp, aJ hb⟩
   | false =>
     rw [hb, cond_false] at h
     obtain ⟨h1, h2⟩ := acH h
     exact ⟨by simp [h1], h2⟩
section
variable [Inhabited aQ]
theorem BQ {F : Fix} {R : Res → Act → World → Prop} {E : Env α} : ∀ (c : Code), (∀ b ∈ gY c, ∀ T, ((iV b).bind E.lp = some T ∨ ((iV b).bind fun i => E.lp (i + 100000)) = some T) → acK E.P F R b T) → DX F R E c
 | .seq a b, h => ⟨BQ a fun x hx => h x (by simp [gY, hx]), BQ b fun x hx => h x (by simp [gY, hx])⟩
 | .cond _ a b, h => ⟨BQ a fun x hx => h x (by simp [gY, hx]), BQ b fun x hx => h x (by simp [gY, hx])⟩
 | .block _ b, h => BQ b fun x hx => h x (by simpa [gY] using hx)
 | .loop b, h => ⟨BQ b fun x hx => h x (by simp [gY, hx]), fun T hT => h b (by simp [gY]) T (.inl hT), fun T hT => h b (by simp [gY]) T (.inr hT)⟩
 | .skip, _ => trivial
 | .region .., _ => trivial
 | .goto _, _ => trivial
 | .label _, _ => trivial
 | .ret, _ => trivial
 | .exit _, _ => trivial
 | .rangeFunc .., _ => trivial
 | .scope .., _ => trivial
 | .refuse .., _ => trivial
end
theorem Bz : ∀ (c : Code) (b : Code), b ∈ gY c → ∀ x ∈ gY b, x ∈ gY c
 | .seq a b, x, h, y, hy => by
   simp only [gY, List.mem_append] at h ⊢
   rcases h with h | h
   ·exact .inl (Bz a x h y hy)
   ·exact .inr (Bz b x h y hy)
 | .cond _ a b, x, h, y, hy => by
   simp only [gY, List.mem_append] at h ⊢
   rcases h with h | h
   ·exact .inl (Bz a x h y hy)
   ·exact .inr (Bz b x h y hy)
 | .block _ b, x, h, y, hy => by
   simp only [gY] at h ⊢
   exact Bz b x h y hy
 | .loop b, x, h, y, hy => by
   simp only [gY, List.mem_cons] at h ⊢
   rcases h with rfl | h
   ·exact .inr hy
   ·exact .inr (Bz b x h y hy)
 | .skip, _, h, _, _ => by simp [gY] at h
 | .region .., _, h, _, _ => by simp [gY] at h
 | .goto _, _, h, _, _ => by simp [gY] at h
 | .label _, _, h, _, _ => by simp [gY] at h
 | .ret, _, h, _, _ => by simp [gY] at h
 | .exit _, _, h, _, _ => by simp [gY] at h
 | .rangeFunc .., _, h, _, _ => by simp [gY] at h
 | .scope .., _, h, _, _ => by simp [gY] at h
 | .refuse .., _, h, _, _ => by simp [gY] at h
section
variable [Inhabited aQ]
theorem alv {c : Code} {F : Fix} {R : Res → Act → World → Prop} (hu : aaK (gY c) = true) (lps : List (SK α)) (En : Nat → Env α) (hP : ∀ n, (En n).P = P) (hlp : ∀ n, (En n).lp = lpOf lps n) (hE : ∀ n, LZ F (En n) R)
 (h0 : ∀ T ∈ lps, ∀ p brk ret, T.run 0 p brk ret = none)
 (hs : ∀ T ∈ lps, ∀ n p brk ret st r, T.tpl.build p = some st → T.run (n + 1) p brk ret = some r → ev (En n) (Pj (gY c) (T.key % 100000)) st (aa6 F.low T.tpl (fun q => T.run n q brk ret) brk ret) = some r) :
 ∀ n, DX F R (En n) c := by
 have split : ∀ {n : Nat} {b : Code} {T : Lp α}, ((iV b).bind (lpOf lps n) = some T ∨ ((iV b).bind fun i => lpOf lps n (i + 100000)) = some T) → ∃ k k0 t, iV b = some k0 ∧ (k = k0 ∨ k = k0 + 100000) ∧ abS lps k = some t ∧ T = ⟨t.tpl, t.run n⟩ := by
  intro n b T hT
  rcases hT with hT | hT
  ·rw [Option.bind_eq_some_iff] at hT
   obtain ⟨k, hk, hT⟩ := hT
   simp only [lpOf, Option.map_eq_some_iff] at hT
   obtain ⟨t, ht, rfl⟩ := hT
   exact ⟨k, k, t, hk, .inl rfl, ht, rfl⟩
  ·rw [Option.bind_eq_some_iff] at hT
   obtain ⟨k, hk, hT⟩ := hT
   simp only [lpOf, Option.map_eq_some_iff] at hT
   obtain ⟨t, ht, rfl⟩ := hT
   exact ⟨k + 100000, k, t, hk, .inr rfl, ht, rfl⟩
 have key : ∀ n, ∀ b ∈ gY c, ∀ k k0 t, iV b = some k0 → (k = k0 ∨ k = k0 + 100000) → abS lps k = some t → acK P F R b ⟨t.tpl, t.run n⟩ := by
  intro n
  induction n with
  | zero =>
    intro b hb k k0 t hk _ ht r p brk ret hr
    simp [h0 t (acH ht).1] at hr
  | succ n ih =>
    intro b hb k k0 t hk hkk ht r p brk ret hr st hst a w hrel
    obtain ⟨hmem, hkey⟩ := acH ht
    have hlt := ahY hu hb hk
    have hmod : t.key % 100000 = k0 := by rw [hkey]; omega
    have hfind := aha hu hb hk
    have hbody : DX F R (En n) b := BQ b fun x hx T hT => by
     rw [hlp] at hT
     rw [hP]
     obtain ⟨k', k0', t', hk', hkk', ht', rfl⟩ := split hT
     exact ih x (Bz c b hb x hx) k' k0' t' hk' hkk' ht'
    have hev := hs t hmem n p brk ret st r hst hr
    rw [hmod, hfind] at hev
    have hev := YY (hE n) b hbody hev hrel
    rw [hP n] at hev
    have hTn := ih b hb k k0 t hk hkk ht
    refine aaV (wp_mono hev fun e a' w' ⟨out, ho, hro⟩ => ?_)
    cases out with
    | normal st' =>
      cases e <;> simp only [uZ] at hro
      simp only [aa6, Option.bind_eq_some_iff] at ho
      obtain ⟨q, hq, ho⟩ := ho
      obtain ⟨st2, hst2, hrel2⟩ := Yk (F := F) hq
      exact hTn r q brk ret ho st2 hst2 a' w' (hrel2 a' w' hro)
    | exit j st' =>
      cases e <;> simp only [uZ] at hro
      obtain ⟨rfl, hro⟩ := hro
      simp only [aa6, Option.bind_eq_some_iff] at ho
      obtain ⟨q, hq, ho⟩ := ho
      obtain ⟨st2, hst2, hrel2⟩ := Yk (F := F) hq
      exact .inl ⟨j, q, st2, rfl, ho, hst2, hrel2 a' w' hro⟩
    | ret rr =>
      cases e <;> simp only [uZ] at hro
      exact .inr ⟨rr, rfl, ho, hro⟩
 intro n
 exact BQ c fun b hb T hT => by
  rw [hlp] at hT
  rw [hP]
  obtain ⟨k, k0, t, hk, hkk, ht, rfl⟩ := split hT
  exact key n b hb k k0 t hk hkk ht
end
inductive SkD where
 | int (k : IntKind) | bool | str | nilsl | nilptr
 | agg (l : List SkD)
 | sl (e : TypeId) (t : Ty)
 | slm (e : TypeId) (l : List SkD)
 | msl (e : TypeId) (t : Ty)
 | ptr (e : TypeId) (l : List SkD)
 | mptr (e : TypeId) (l : List SkD)
 | fn (f : FuncId) (l : List SkD)
 | same (i : Nat)
 | keep
mutual
def IY : SkD → D → Option (List P1)
 | .int k, .int k' n => if k = k' then some [.int n] else none
 | .bool, .bool b => some [.bool b]
 | .str, .str s => some [.str s]
 | .nilsl, .nilsl => some []
 | .nilptr, .nilptr => some []
 | .agg s, .agg l => Kv s l
 | .sl e t, .sl e' t' l => bif Nat.beq e e' then (if h : t' = t then some [.rows t (h ▸ l)] else none) else none
 | .slm e s, .slm e' l => bif Nat.beq e e' then Kv s l else none
 | .msl e t, .msl e' t' l => bif Nat.beq e e' then (if h : t' = t then some [.rows t (h ▸ l)] else none) else none
 | .ptr e s, .ptr e' l => bif Nat.beq e e' then Kv s l else none
 | .mptr e s, .mptr e' l => bif Nat.beq e e' then Kv s l else none
 | .fn f s, .fn f' l => bif Nat.beq f f' then Kv s l else none
 | _, _ => none
def Kv : List SkD → List D → Option (List P1)
 | [], [] => some []
 | s :: ss, v :: vs => (IY s v).bind fun p => (Kv ss vs).map fun q => p ++ q
 | _, _ => none
end
mutual
def jK : SkD → List P1 → Option (D × List P1)
 | .int k, .int n :: p => some (.int k n, p)
 | .bool, .bool b :: p => some (.bool b, p)
 | .str, .str s :: p => some (.str s, p)
 | .nilsl, p => some (.nilsl, p)
 | .nilptr, p => some (.nilptr, p)
 | .agg s, p => (lQ s p).map fun (l, p) => (.agg l, p)
 | .sl e t, .rows t' l :: p => if h : t' = t then some (.sl e t (h ▸ l), p) else none
 | .slm e s, p => (lQ s p).map fun (l, p) => (.slm e l, p)
 | .msl e t, .rows t' l :: p => if h : t' = t then some (.msl e t (h ▸ l), p) else none
 | .ptr e s, p => (lQ s p).map fun (l, p) => (.ptr e l, p)
 | .mptr e s, p => (lQ s p).map fun (l, p) => (.mptr e l, p)
 | .fn f s, p => (lQ s p).map fun (l, p) => (.fn f l, p)
 | .same i, p => some (.same i, p)
 | .keep, p => some (.keep, p)
 | _, _ => none
def lQ : List SkD → List P1 → Option (List D × List P1)
 | [], p => some ([], p)
 | s :: ss, p => (jK s p).bind fun (v, p) => (lQ ss p).map fun (vs, p) => (v :: vs, p)
end
theorem SkD.rows_build {t t' : Ty} {l : List t'.den} {p : List P1} {c : Bool} (h : (bif c then (if h : t' = t then some [P1.rows t (h ▸ l)] else none) else none) = some p) : c = true ∧ ∃ e : t' = t, p = [.rows t (e ▸ l)] := by
 obtain ⟨h1, h2⟩ := ifB h
 split at h2
 ·rename_i e
  exact ⟨h1, e, (Option.some.inj h2).symm⟩
 ·cases h2
mutual
theorem ahO : ∀ (s : SkD) (d : D) (p q : List P1), IY s d = some p → jK s (p ++ q) = some (d, q)
 | .int k, .int k' n, p, q, h => by
   simp only [IY] at h
   split at h
   ·rename_i e; subst e; simp at h; subst h; simp [jK]
   ·simp at h
 | .bool, .bool b, p, q, h => by simp only [IY, Option.some.injEq] at h; subst h; simp [jK]
 | .str, .str s, p, q, h => by simp only [IY, Option.some.injEq] at h; subst h; simp [jK]
 | .nilsl, .nilsl, p, q, h => by simp only [IY, Option.some.injEq] at h; subst h; simp [jK]
 | .nilptr, .nilptr, p, q, h => by simp only [IY, Option.some.injEq] at h; subst h; simp [jK]
 | .agg s, .agg l, p, q, h => by
   simp only [IY] at h
   simp [jK, sK s l p q h]
 | .sl e t, .sl e' t' l, p, q, h => by
   simp only [IY] at h
   obtain ⟨h1, e2, rfl⟩ := SkD.rows_build h
   have := aJ h1
   subst this e2
   simp [jK]
 | .slm e s, .slm e' l, p, q, h => by
   simp only [IY] at h
   obtain ⟨h1, h2⟩ := ifB h
   have := aJ h1
   subst this
   simp [jK, sK s l p q h2]
 | .msl e t, .msl e' t' l, p, q, h => by
   simp only [IY] at h
   obtain ⟨h1, e2, rfl⟩ := SkD.rows_build h
   have := aJ h1
   subst this e2
   simp [jK]
 | .ptr e s, .ptr e' l, p, q, h => by
   simp only [IY] at h
   obtain ⟨h1, h2⟩ := ifB h
   have := aJ h1
   subst this
   simp [jK, sK s l p q h2]
 | .mptr e s, .mptr e' l, p, q, h => by
   simp only [IY] at h
   obtain ⟨h1, h2⟩ := ifB h
   have := aJ h1
   subst this
   simp [jK, sK s l p q h2]
 | .fn e s, .fn e' l, p, q, h => by
   simp only [IY] at h
   obtain ⟨h1, h2⟩ := ifB h
   have := aJ h1
   subst this
   simp [jK, sK s l p q h2]
theorem sK : ∀ (s : List SkD) (ds : List D) (p q : List P1), Kv s ds = some p → lQ s (p ++ q) = some (ds, q)
 | [], [], p, q, h => by
   simp only [Kv, Option.some.injEq] at h
   subst h
   simp [lQ]
 | s :: ss, d :: ds, p, q, h => by
   simp only [Kv, Option.bind_eq_some_iff, Option.map_eq_some_iff] at h
   obtain ⟨p1, h1, p2, h2, rfl⟩ := h
   simp [lQ, List.append_assoc, ahO s d p1 (p2 ++ q) h1, sK ss ds p2 q h2]
end
def aZ (s : List SkD) (run : List P1 → (Res → Option α) → Option α) (ds : List D) (κ : Res → Option α) : Option α := (Kv s ds).bind fun p => run p κ
def tabM (l : List (FuncId × List Nat)) (f : FuncId) : List Nat := match l with
 | [] => []
 | (g, m) :: r => bif Nat.beq g f then m else tabM r f
section
variable [Inhabited aQ]
theorem alr {f : FuncId} {fn : Func} {c : Code} (hf : P.funcs[f]? = some fn) (hb : fn.body = some c) (hname : (fn.name == "runtime.NumGoroutine") = false) (hu : aaK (gY c) = true)
 (C : Nat → FuncId → List D → (Res → Option α) → Option α) (M : FuncId → List Nat) (eqs : TypeId → Nat → Bool) (lps : List (SK α)) (jt : Nat → Option Tpl) (two : Opt) (hC : ∀ n, abu P (C n)) (heq : EqOK P eqs) (hbld : acU P two)
 (Lt : Nat → List (Bool × Nat × Blk) → Prop)
 (h0 : ∀ T ∈ lps, ∀ p brk ret, T.run 0 p brk ret = none)
 (hs : ∀ T ∈ lps, ∀ np lent, Lt np lent → ∀ n p brk ret st r, T.tpl.build p = some st → T.run (n + 1) p brk ret = some r →
   ev ((Ctx.mk (C n) M eqs (lpOf lps n) jt two).env P fn np lent) (Pj (gY c) (T.key % 100000)) st (aa6 (np * 64) T.tpl (fun q => T.run n q brk ret) brk ret) = some r)
 (sh : List SkD) (run : Nat → List P1 → (Res → Option α) → Option α)
 (hS : ∀ n p κ r ds, lQ sh p = some (ds, []) → run n p κ = some r → (∃ vs e, uz 0 ds = some (vs, e) ∧ Lt vs.length e.lent) ∧ evFn P (Ctx.mk (C n) M eqs (lpOf lps n) jt two) fn ds κ = some r) :
 ∀ n, az P f (aZ sh (run n)) := by
 intro n
 refine amU hf hb hname (X := Ctx.mk (C n) M eqs (lpOf lps n) jt two) (hC n) heq hbld _ Lt (fun ds κ r h => ?_) (fun F R np lent hLt hE => ?_)
 ·unfold aZ at h
  rw [Option.bind_eq_some_iff] at h
  obtain ⟨p, hp, h⟩ := h
  have := sK sh ds p [] hp
  rw [List.append_nil] at this
  exact hS n p κ r ds this h
 ·have hres := hE.res
  exact alv hu lps (fun n => (Ctx.mk (C n) M eqs (lpOf lps n) jt two).env P fn np lent) (fun _ => rfl) (fun _ => rfl)
   (fun m => ⟨hC m, heq, hE.low, hbld, hE.res⟩) h0 (fun T hT n p brk ret st r h1 h2 => by
     have hlow : np * 64 = F.low := hE.low
     rw [← hlow]
     exact hs T hT np lent hLt n p brk ret st r h1 h2) n
end
section
variable [Inhabited aQ]
end
theorem anm {t : Tpl} {p : List P1} {st : St} (h : t.build p = some st) : (t.build p).getD ⟨[], []⟩ = st := by rw [h]; rfl
theorem amx {sh : List SkD} {p q : List P1} {ds : List D} (h : lQ sh p = some (ds, q)) : ((lQ sh p).map Prod.fst).getD [] = ds := by rw [h]; rfl
end Go.Ev
