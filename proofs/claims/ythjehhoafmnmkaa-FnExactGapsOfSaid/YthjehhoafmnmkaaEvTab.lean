/- Tables: loops by their numbers, functions by the shapes of their data. -/
import Derived.Test.YthjehhoafmnmkaaEvGood
namespace Go.Ev
open Go.RowKit
variable {α : Type} {P : Program}
structure DX (α : Type) where
 key : Nat
 tpl : Tpl
 run : Nat → List P1 → (Nat → List P1 → Option α) → (Res → Option α) → Option α
def Tv : List (DX α) → Nat → Option (DX α)
 | [], _ => none
 | T :: r, key => bif Nat.beq T.key key then some T else Tv r key
def lpOf (ls : List (DX α)) (n key : Nat) : Option (Lp α) := (Tv ls key).map fun T => ⟨T.tpl, T.run n⟩
def fK : Code → List Code
 | .seq a b => fK a ++ fK b
 | .cond _ a b => fK a ++ fK b
 | .block _ b => fK b
 | .loop b => b :: fK b
 | _ => []
def Xv (b : Code) (key : Nat) : Bool := match gY b with
 | some k => Nat.beq k key
 | none => false
def Dy : List Code → Nat → Code
 | [], _ => .skip
 | b :: r, key => bif Xv b key then b else Dy r key
def aat : List Code → Nat → Bool
 | [], _ => false
 | b :: r, key => Xv b key || aat r key
def Kz : List Code → Bool
 | [] => true
 | b :: r => (match gY b with
   | some k => !aat r k && Nat.blt k 100000
   | none => true) && Kz r
theorem ae0 {ls : List Code} {b : Code} {key : Nat} (h : b ∈ ls) (hk : gY b = some key) : aat ls key = true := by
 induction ls with
 | nil => simp at h
 | cons c r ih =>
   simp only [aat, Bool.or_eq_true]
   rcases List.mem_cons.1 h with rfl | h
   ·left; simp [Xv, hk]
   ·exact .inr (ih h)
theorem acF {ls : List Code} (hu : Kz ls = true) {b : Code} {key : Nat} (h : b ∈ ls) (hk : gY b = some key) : Dy ls key = b := by
 induction ls with
 | nil => simp at h
 | cons c r ih =>
   simp only [Kz, Bool.and_eq_true] at hu
   simp only [Dy]
   rcases List.mem_cons.1 h with rfl | h
   ·simp [Xv, hk]
   ·cases hc : Xv c key with
    | false => simpa using ih hu.2 h
    | true =>
      exfalso
      unfold Xv at hc
      split at hc
      ·rename_i k hck
       have := ay hc
       subst this
       have h1 := hu.1
       rw [hck] at h1
       simp [ae0 h hk] at h1
      ·cases hc
theorem aej : ∀ {ls : List Code}, Kz ls = true → ∀ {b : Code} {key : Nat}, b ∈ ls → gY b = some key → key < 100000
 | c :: r, hu, b, key, h, hk => by
   simp only [Kz, Bool.and_eq_true] at hu
   rcases List.mem_cons.1 h with rfl | h
   ·have h1 := hu.1
    rw [hk] at h1
    simp only [Bool.and_eq_true] at h1
    exact Nat.le_of_ble_eq_true h1.2
   ·exact aej hu.2 h hk
theorem UX : ∀ {ls : List (DX α)} {key : Nat} {T : DX α}, Tv ls key = some T → T ∈ ls ∧ T.key = key
 | [], key, T, h => by simp [Tv] at h
 | t :: r, key, T, h => by
   simp only [Tv] at h
   cases hb : Nat.beq t.key key with
   | true =>
     rw [hb, cond_true] at h
     have := Option.some.inj h
     subst this
     exact ⟨by simp, ay hb⟩
   | false =>
     rw [hb, cond_false] at h
     obtain ⟨h1, h2⟩ := UX h
     exact ⟨by simp [h1], h2⟩
section
variable [Inhabited az]
theorem uw {F : Fix} {R : Res → Act → World → Prop} {E : Env α} : ∀ (c : Code), (∀ b ∈ fK c, ∀ T, ((gY b).bind E.lp = some T ∨ ((gY b).bind fun i => E.lp (i + 100000)) = some T) → WV E.P F R b T) → vz F R E c
 | .seq a b, h => ⟨uw a fun x hx => h x (by simp [fK, hx]), uw b fun x hx => h x (by simp [fK, hx])⟩
 | .cond _ a b, h => ⟨uw a fun x hx => h x (by simp [fK, hx]), uw b fun x hx => h x (by simp [fK, hx])⟩
 | .block _ b, h => uw b fun x hx => h x (by simpa [fK] using hx)
 | .loop b, h => ⟨uw b fun x hx => h x (by simp [fK, hx]), fun T hT => h b (by simp [fK]) T (.inl hT), fun T hT => h b (by simp [fK]) T (.inr hT)⟩
 | .skip, _ => trivial
 | .region .., _ => trivial
 | .goto _, _ => trivial
 | .label _, _ => trivial
 | .ret, _ => trivial
 | .exit _, _ => trivial
 | .rangeFunc .., _ => trivial
 | .scope .., _ => trivial
 | .refuse .., _ => trivial
end
theorem vY : ∀ (c : Code) (b : Code), b ∈ fK c → ∀ x ∈ fK b, x ∈ fK c
 | .seq a b, x, h, y, hy => by
   simp only [fK, List.mem_append] at h ⊢
   rcases h with h | h
   ·exact .inl (vY a x h y hy)
   ·exact .inr (vY b x h y hy)
 | .cond _ a b, x, h, y, hy => by
   simp only [fK, List.mem_append] at h ⊢
   rcases h with h | h
   ·exact .inl (vY a x h y hy)
   ·exact .inr (vY b x h y hy)
 | .block _ b, x, h, y, hy => by
   simp only [fK] at h ⊢
   exact vY b x h y hy
 | .loop b, x, h, y, hy => by
   simp only [fK, List.mem_cons] at h ⊢
   rcases h with rfl | h
   ·exact .inr hy
   ·exact .inr (vY b x h y hy)
 | .skip, _, h, _, _ => by simp [fK] at h
 | .region .., _, h, _, _ => by simp [fK] at h
 | .goto _, _, h, _, _ => by simp [fK] at h
 | .label _, _, h, _, _ => by simp [fK] at h
 | .ret, _, h, _, _ => by simp [fK] at h
 | .exit _, _, h, _, _ => by simp [fK] at h
 | .rangeFunc .., _, h, _, _ => by simp [fK] at h
 | .scope .., _, h, _, _ => by simp [fK] at h
 | .refuse .., _, h, _, _ => by simp [fK] at h
section
variable [Inhabited az]
theorem ahW {c : Code} {F : Fix} {R : Res → Act → World → Prop} (hu : Kz (fK c) = true) (lps : List (DX α)) (En : Nat → Env α) (hP : ∀ n, (En n).P = P) (hlp : ∀ n, (En n).lp = lpOf lps n) (hE : ∀ n, BX F (En n) R)
 (h0 : ∀ T ∈ lps, ∀ p brk ret, T.run 0 p brk ret = none)
 (hs : ∀ T ∈ lps, ∀ n p brk ret st r, T.tpl.build p = some st → T.run (n + 1) p brk ret = some r → ev (En n) (Dy (fK c) (T.key % 100000)) st (Qw F.low T.tpl (fun q => T.run n q brk ret) brk ret) = some r) :
 ∀ n, vz F R (En n) c := by
 have split : ∀ {n : Nat} {b : Code} {T : Lp α}, ((gY b).bind (lpOf lps n) = some T ∨ ((gY b).bind fun i => lpOf lps n (i + 100000)) = some T) → ∃ k k0 t, gY b = some k0 ∧ (k = k0 ∨ k = k0 + 100000) ∧ Tv lps k = some t ∧ T = ⟨t.tpl, t.run n⟩ := by
  intro n b T hT
  rcases hT with hT | hT
  ·rw [Option.bind_eq_some_iff] at hT
   obtain ⟨k, hk, hT⟩ := hT
   simp only [lpOf, Option.map_eq_some_iff] at hT
   obtain ⟨t, ht, rfl⟩ := hT
   exact ⟨k, k, t, hk, .inl rfl, ht, rfl⟩
  ·rw [Option.bind_eq_some_iff] at hT
   obtain ⟨k, hk, hT⟩ := hT
   simp only [lpOf, Option.map_eq_some_iff] at hT
   obtain ⟨t, ht, rfl⟩ := hT
   exact ⟨k + 100000, k, t, hk, .inr rfl, ht, rfl⟩
 have key : ∀ n, ∀ b ∈ fK c, ∀ k k0 t, gY b = some k0 → (k = k0 ∨ k = k0 + 100000) → Tv lps k = some t → WV P F R b ⟨t.tpl, t.run n⟩ := by
  intro n
  induction n with
  | zero =>
    intro b hb k k0 t hk _ ht r p brk ret hr
    simp [h0 t (UX ht).1] at hr
  | succ n ih =>
    intro b hb k k0 t hk hkk ht r p brk ret hr st hst a w hrel
    obtain ⟨hmem, hkey⟩ := UX ht
    have hlt := aej hu hb hk
    have hmod : t.key % 100000 = k0 := by rw [hkey]; omega
    have hfind := acF hu hb hk
    have hbody : vz F R (En n) b := uw b fun x hx T hT => by
     rw [hlp] at hT
     rw [hP]
     obtain ⟨k', k0', t', hk', hkk', ht', rfl⟩ := split hT
     exact ih x (vY c b hb x hx) k' k0' t' hk' hkk' ht'
    have hev := hs t hmem n p brk ret st r hst hr
    rw [hmod, hfind] at hev
    have hev := KX (hE n) b hbody hev hrel
    rw [hP n] at hev
    have hTn := ih b hb k k0 t hk hkk ht
    refine Pj (wp_mono hev fun e a' w' ⟨out, ho, hro⟩ => ?_)
    cases out with
    | normal st' =>
      cases e <;> simp only [pX] at hro
      simp only [Qw, Option.bind_eq_some_iff] at ho
      obtain ⟨q, hq, ho⟩ := ho
      obtain ⟨st2, hst2, hrel2⟩ := KY (F := F) hq
      exact hTn r q brk ret ho st2 hst2 a' w' (hrel2 a' w' hro)
    | exit j st' =>
      cases e <;> simp only [pX] at hro
      obtain ⟨rfl, hro⟩ := hro
      simp only [Qw, Option.bind_eq_some_iff] at ho
      obtain ⟨q, hq, ho⟩ := ho
      obtain ⟨st2, hst2, hrel2⟩ := KY (F := F) hq
      exact .inl ⟨j, q, st2, rfl, ho, hst2, hrel2 a' w' hro⟩
    | ret rr =>
      cases e <;> simp only [pX] at hro
      exact .inr ⟨rr, rfl, ho, hro⟩
 intro n
 exact uw c fun b hb T hT => by
  rw [hlp] at hT
  rw [hP]
  obtain ⟨k, k0, t, hk, hkk, ht, rfl⟩ := split hT
  exact key n b hb k k0 t hk hkk ht
end
inductive SkD where
 | int (k : IntKind) | bool | str | nilsl | nilptr
 | agg (l : List SkD)
 | sl (e : TypeId) (t : Ty)
 | slm (e : TypeId) (l : List SkD)
 | msl (e : TypeId) (t : Ty)
 | ptr (e : TypeId) (l : List SkD)
 | mptr (e : TypeId) (l : List SkD)
 | fn (f : FuncId) (l : List SkD)
 | same (i : Nat)
 | keep
mutual
def yw : SkD → D → Option (List P1)
 | .int k, .int k' n => if k = k' then some [.int n] else none
 | .bool, .bool b => some [.bool b]
 | .str, .str s => some [.str s]
 | .nilsl, .nilsl => some []
 | .nilptr, .nilptr => some []
 | .agg s, .agg l => zZ s l
 | .sl e t, .sl e' t' l => bif Nat.beq e e' then (if h : t' = t then some [.rows t (h ▸ l)] else none) else none
 | .slm e s, .slm e' l => bif Nat.beq e e' then zZ s l else none
 | .msl e t, .msl e' t' l => bif Nat.beq e e' then (if h : t' = t then some [.rows t (h ▸ l)] else none) else none
 | .ptr e s, .ptr e' l => bif Nat.beq e e' then zZ s l else none
 | .mptr e s, .mptr e' l => bif Nat.beq e e' then zZ s l else none
 | .fn f s, .fn f' l => bif Nat.beq f f' then zZ s l else none
 | _, _ => none
def zZ : List SkD → List D → Option (List P1)
 | [], [] => some []
 | s :: ss, v :: vs => (yw s v).bind fun p => (zZ ss vs).map fun q => p ++ q
 | _, _ => none
end
mutual
def iV : SkD → List P1 → Option (D × List P1)
 | .int k, .int n :: p => some (.int k n, p)
 | .bool, .bool b :: p => some (.bool b, p)
 | .str, .str s :: p => some (.str s, p)
 | .nilsl, p => some (.nilsl, p)
 | .nilptr, p => some (.nilptr, p)
 | .agg s, p => (lW s p).map fun (l, p) => (.agg l, p)
 | .sl e t, .rows t' l :: p => if h : t' = t then some (.sl e t (h ▸ l), p) else none
 | .slm e s, p => (lW s p).map fun (l, p) => (.slm e l, p)
 | .msl e t, .rows t' l :: p => if h : t' = t then some (.msl e t (h ▸ l), p) else none
 | .ptr e s, p => (lW s p).map fun (l, p) => (.ptr e l, p)
 | .mptr e s, p => (lW s p).map fun (l, p) => (.mptr e l, p)
 | .fn f s, p => (lW s p).map fun (l, p) => (.fn f l, p)
 | .same i, p => some (.same i, p)
 | .keep, p => some (.keep, p)
 | _, _ => none
def lW : List SkD → List P1 → Option (List D × List P1)
 | [], p => some ([], p)
 | s :: ss, p => (iV s p).bind fun (v, p) => (lW ss p).map fun (vs, p) => (v :: vs, p)
end
theorem SkD.rows_build {t t' : Ty} {l : List t'.den} {p : List P1} {c : Bool} (h : (bif c then (if h : t' = t then some [P1.rows t (h ▸ l)] else none) else none) = some p) : c = true ∧ ∃ e : t' = t, p = [.rows t (e ▸ l)] := by
 obtain ⟨h1, h2⟩ := ifB h
 split at h2
 ·rename_i e
  exact ⟨h1, e, (Option.some.inj h2).symm⟩
 ·cases h2
mutual
theorem ad4 : ∀ (s : SkD) (d : D) (p q : List P1), yw s d = some p → iV s (p ++ q) = some (d, q)
 | .int k, .int k' n, p, q, h => by
   simp only [yw] at h
   split at h
   ·rename_i e; subst e; simp at h; subst h; simp [iV]
   ·simp at h
 | .bool, .bool b, p, q, h => by simp only [yw, Option.some.injEq] at h; subst h; simp [iV]
 | .str, .str s, p, q, h => by simp only [yw, Option.some.injEq] at h; subst h; simp [iV]
 | .nilsl, .nilsl, p, q, h => by simp only [yw, Option.some.injEq] at h; subst h; simp [iV]
 | .nilptr, .nilptr, p, q, h => by simp only [yw, Option.some.injEq] at h; subst h; simp [iV]
 | .agg s, .agg l, p, q, h => by
   simp only [yw] at h
   simp [iV, uY s l p q h]
 | .sl e t, .sl e' t' l, p, q, h => by
   simp only [yw] at h
   obtain ⟨h1, e2, rfl⟩ := SkD.rows_build h
   have := ay h1
   subst this e2
   simp [iV]
 | .slm e s, .slm e' l, p, q, h => by
   simp only [yw] at h
   obtain ⟨h1, h2⟩ := ifB h
   have := ay h1
   subst this
   simp [iV, uY s l p q h2]
 | .msl e t, .msl e' t' l, p, q, h => by
   simp only [yw] at h
   obtain ⟨h1, e2, rfl⟩ := SkD.rows_build h
   have := ay h1
   subst this e2
   simp [iV]
 | .ptr e s, .ptr e' l, p, q, h => by
   simp only [yw] at h
   obtain ⟨h1, h2⟩ := ifB h
   have := ay h1
   subst this
   simp [iV, uY s l p q h2]
 | .mptr e s, .mptr e' l, p, q, h => by
   simp only [yw] at h
   obtain ⟨h1, h2⟩ := ifB h
   have := ay h1
   subst this
   simp [iV, uY s l p q h2]
 | .fn e s, .fn e' l, p, q, h => by
   simp only [yw] at h
   obtain ⟨h1, h2⟩ := ifB h
   have := ay h1
   subst this
   simp [iV, uY s l p q h2]
theorem uY : ∀ (s : List SkD) (ds : List D) (p q : List P1), zZ s ds = some p → lW s (p ++ q) = some (ds, q)
 | [], [], p, q, h => by
   simp only [zZ, Option.some.injEq] at h
   subst h
   simp [lW]
 | s :: ss, d :: ds, p, q, h => by
   simp only [zZ, Option.bind_eq_some_iff, Option.map_eq_some_iff] at h
   obtain ⟨p1, h1, p2, h2, rfl⟩ := h
   simp [lW, List.append_assoc, ad4 s d p1 (p2 ++ q) h1, uY ss ds p2 q h2]
end
def eQ (s : List SkD) (run : List P1 → (Res → Option α) → Option α) (ds : List D) (κ : Res → Option α) : Option α := (zZ s ds).bind fun p => run p κ
def tabM (l : List (FuncId × List Nat)) (f : FuncId) : List Nat := match l with
 | [] => []
 | (g, m) :: r => bif Nat.beq g f then m else tabM r f
section
variable [Inhabited az]
theorem ahb {f : FuncId} {fn : Func} {c : Code} (hf : P.funcs[f]? = some fn) (hb : fn.body = some c) (hname : (fn.name == "runtime.NumGoroutine") = false) (hu : Kz (fK c) = true)
 (C : Nat → FuncId → List D → (Res → Option α) → Option α) (M : FuncId → List Nat) (eqs : TypeId → Nat → Bool) (lps : List (DX α)) (jt : Nat → Option Tpl) (two : Opt) (hC : ∀ n, Rx P (C n)) (heq : EqOK P eqs) (hbld : Rk P two)
 (Lt : Nat → List (Bool × Nat × Blk) → Prop)
 (h0 : ∀ T ∈ lps, ∀ p brk ret, T.run 0 p brk ret = none)
 (hs : ∀ T ∈ lps, ∀ np lent, Lt np lent → ∀ n p brk ret st r, T.tpl.build p = some st → T.run (n + 1) p brk ret = some r →
   ev ((Ctx.mk (C n) M eqs (lpOf lps n) jt two).env P fn np lent) (Dy (fK c) (T.key % 100000)) st (Qw (np * 64) T.tpl (fun q => T.run n q brk ret) brk ret) = some r)
 (sh : List SkD) (run : Nat → List P1 → (Res → Option α) → Option α)
 (hS : ∀ n p κ r ds, lW sh p = some (ds, []) → run n p κ = some r → (∃ vs e, entry 0 ds = some (vs, e) ∧ Lt vs.length e.lent) ∧ evFn P (Ctx.mk (C n) M eqs (lpOf lps n) jt two) fn ds κ = some r) :
 ∀ n, iw P f (eQ sh (run n)) := by
 intro n
 refine ai9 hf hb hname (X := Ctx.mk (C n) M eqs (lpOf lps n) jt two) (hC n) heq hbld _ Lt (fun ds κ r h => ?_) (fun F R np lent hLt hE => ?_)
 ·unfold eQ at h
  rw [Option.bind_eq_some_iff] at h
  obtain ⟨p, hp, h⟩ := h
  have := uY sh ds p [] hp
  rw [List.append_nil] at this
  exact hS n p κ r ds this h
 ·have hres := hE.res
  exact ahW hu lps (fun n => (Ctx.mk (C n) M eqs (lpOf lps n) jt two).env P fn np lent) (fun _ => rfl) (fun _ => rfl)
   (fun m => ⟨hC m, heq, hE.low, hbld, hE.res⟩) h0 (fun T hT n p brk ret st r h1 h2 => by
     have hlow : np * 64 = F.low := hE.low
     rw [← hlow]
     exact hs T hT np lent hLt n p brk ret st r h1 h2) n
end
section
variable [Inhabited az]
end
theorem aje {t : Tpl} {p : List P1} {st : St} (h : t.build p = some st) : (t.build p).getD ⟨[], []⟩ = st := by rw [h]; rfl
theorem ajT {sh : List SkD} {p q : List P1} {ds : List D} (h : lW sh p = some (ds, q)) : ((lW sh p).map Prod.fst).getD [] = ds := by rw [h]; rfl
end Go.Ev
