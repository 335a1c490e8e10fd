/- Signatures: functions and loops, by the leaves of their data. -/
import Derived.Test.YtiggcnbnidnaiaaEvEq
namespace Go.Ev
open Go.RowKit
universe u
variable {α : Type} {P : Program}
inductive LT where
 | int | bool | str | nat
 | rows (t : Ty)
@[reducible] def LT.den : LT → Type
 | .int => Int
 | .bool => Bool
 | .str => ByteArray
 | .nat => Nat
 | .rows t => List t.den
def LT.p1 : (t : LT) → t.den → P1
 | .int, n => .int n
 | .bool, b => .bool b
 | .str, s => .str s
 | .nat, n => .nat n
 | .rows t, l => .rows t l
def LT.get : (t : LT) → P1 → Option t.den
 | .int, .int n => some n
 | .bool, .bool b => some b
 | .str, .str s => some s
 | .nat, .nat n => some n
 | .rows t, .rows t' l => if h : t' = t then some (h ▸ l) else none
 | _, _ => none
theorem LT.get_p1 {t : LT} {p : P1} {x : t.den} (h : t.get p = some x) : p = t.p1 x := by
 cases t <;> cases p <;> first
  | (simp only [LT.get] at h; cases h; done)
  | (simp only [LT.get] at h; cases h; rfl)
  | (simp only [LT.get] at h
     split at h
     ·rename_i e
      subst e
      cases h
      rfl
     ·cases h)
def FT : List LT → Type → Type
 | [], R => R
 | t :: r, R => t.den → FT r R
def appP {R : Type} : (ts : List LT) → FT ts R → List P1 → Option R
 | [], f, [] => some f
 | t :: r, f, p :: ps => (t.get p).bind fun x => appP r (f x) ps
 | _, _, _ => none
def cur {R : Type} : (ts : List LT) → (List P1 → R) → FT ts R
 | [], f => f []
 | t :: r, f => fun x => cur r fun ps => f (t.p1 x :: ps)
def AllP : List LT → (List P1 → Prop) → Prop
 | [], f => f []
 | t :: r, f => ∀ x : t.den, AllP r fun ps => f (t.p1 x :: ps)
theorem abW {R : Type} : ∀ {ts : List LT} {f : FT ts R} {p : List P1} {x : R} {Q : List P1 → Prop}, appP ts f p = some x → AllP ts Q → Q p
 | [], f, [], x, Q, _, h => h
 | t :: r, f, p :: ps, x, Q, h, ha => by
   simp only [appP, Option.bind_eq_some_iff] at h
   obtain ⟨y, hy, h⟩ := h
   rw [LT.get_p1 hy]
   exact abW (Q := fun ps => Q (t.p1 y :: ps)) h (ha y)
 | [], _, _ :: _, _, _, h, _ => by simp [appP] at h
 | _ :: _, _, [], _, _, h, _ => by simp [appP] at h
theorem AllP.mono {Q Q' : List P1 → Prop} (h : ∀ p, Q p → Q' p) : ∀ {ts : List LT}, AllP ts Q → AllP ts Q' := by
 intro ts
 induction ts generalizing Q Q' with
 | nil => exact h []
 | cons t r ih => exact fun ha x => ih (fun ps => h (t.p1 x :: ps)) (ha x)
theorem afA {R : Type} : ∀ {ts : List LT} {f g : List P1 → R}, AllP ts (fun p => f p = g p) → cur ts f = cur ts g
 | [], _, _, h => h
 | t :: r, f, g, h => funext fun x => afA (ts := r) (f := fun ps => f (t.p1 x :: ps)) (g := fun ps => g (t.p1 x :: ps)) (h x)
structure RetS where
 lv : List LT
 rs : List SkD
 outs : List SkD := []
def RetS.mk1 (r : RetS) (p : List P1) : Res := match lQ r.rs p with
 | some (ds, q) => match lQ r.outs q with
   | some (os, _) => ⟨ds, os⟩
   | none => ⟨ds, []⟩
 | none => ⟨[], []⟩
def FK (α : Type) : List RetS → Type
 | [] => Option α
 | r :: rs => FT r.lv (Option α) → FK α rs
def feed : (rs : List RetS) → FK α rs → (Res → Option α) → Option α
 | [], f, _ => f
 | r :: rs, f, κ => feed rs (f (cur r.lv fun p => κ (r.mk1 p))) κ
def noK : (rs : List RetS) → FK α rs
 | [] => none
 | _ :: rs => fun _ => noK rs
theorem agB : ∀ (rs : List RetS) (κ : Res → Option α), feed rs (noK rs) κ = none
 | [], _ => rfl
 | r :: rs, κ => agB rs κ
structure Sig where
 sh : List SkD
 lv : List LT
 rets : List RetS
def Sig.ty (S : Sig) (α : Type) : Type := Nat → FT S.lv (FK α S.rets)
def bY (S : Sig) (F : S.ty α) (n : Nat) (p : List P1) (κ : Res → Option α) : Option α := (appP S.lv (F n) p).bind fun f => feed S.rets f κ
structure PcS where
 lv : List LT
 outs : List (Nat × List LT)
def FB (α : Type) : List (Nat × List LT) → Type → Type
 | [], R => R
 | j :: js, R => FT j.2 (Option α) → FB α js R
def PcS.ty (L : PcS) (rets : List RetS) (α : Type) : Type := Nat → FT L.lv (FB α L.outs (FK α rets))
def acX {R : Type} : (js : List (Nat × List LT)) → FB α js R → (Nat → List P1 → Option α) → R
 | [], f, _ => f
 | j :: js, f, brk => acX js (f (cur j.2 fun p => brk j.1 p)) brk
def noB {R : Type} (x : R) : (js : List (Nat × List LT)) → FB α js R
 | [] => x
 | _ :: js => fun _ => noB x js
theorem afl {R : Type} (x : R) : ∀ (js : List (Nat × List LT)) (brk : Nat → List P1 → Option α), acX js (noB x js) brk = x
 | [], _ => rfl
 | _ :: js, brk => afl x js brk
def zy (L : PcS) (rets : List RetS) (G : L.ty rets α) (n : Nat) (p : List P1) (brk : Nat → List P1 → Option α) (ret : Res → Option α) : Option α := (appP L.lv (G n) p).bind fun f => feed rets (acX L.outs f brk) ret
def noF {R : Type} (x : R) : (ts : List LT) → FT ts R
 | [] => x
 | _ :: r => fun _ => noF x r
theorem agE {R : Type} (x : R) : ∀ {ts : List LT} {p : List P1} {y : R}, appP ts (noF x ts) p = some y → y = x
 | [], [], y, h => (Option.some.inj h).symm
 | _ :: _, _ :: _, y, h => by
   simp only [appP, Option.bind_eq_some_iff] at h
   obtain ⟨_, _, h⟩ := h
   exact agE x h
 | [], _ :: _, _, h => by simp [appP] at h
 | _ :: _, [], _, h => by simp [appP] at h
def noL (L : PcS) (rets : List RetS) : FT L.lv (FB α L.outs (FK α rets)) := noF (noB (noK rets) L.outs) L.lv
theorem ajR {L : PcS} {rets : List RetS} {G : L.ty rets α} {n : Nat} (h : G n = noL L rets) (p : List P1) (brk : Nat → List P1 → Option α) (ret : Res → Option α) : zy L rets G n p brk ret = none := by
 unfold zy
 rw [h]
 cases hp : appP L.lv (noL L rets : FT L.lv (FB α L.outs (FK α rets))) p with
 | none => rfl
 | some f =>
   rw [agE _ hp, Option.bind_some, afl, agB]
def lpT (key : Nat) (t : Tpl) (L : PcS) (rets : List RetS) (G : L.ty rets α) : SK α := ⟨key, t, zy L rets G⟩
structure Ctr (α : Type) where
 f : FuncId
 S : Sig
 F : S.ty α
def Ctr.run (c : Ctr α) (n : Nat) : List D → (Res → Option α) → Option α := aZ c.S.sh (bY c.S c.F n)
def tabS (n : Nat) (f : FuncId) (ds : List D) (κ : Res → Option α) (l : List (Ctr α)) : Option α := match l with
 | [] => none
 | c :: r => bif Nat.beq c.f f then (match Kv c.S.sh ds with
   | some p => bY c.S c.F n p κ
   | none => tabS n f ds κ r) else tabS n f ds κ r
theorem acE {n : Nat} {f : FuncId} {ds : List D} {κ : Res → Option α} {r : α} : ∀ {l : List (Ctr α)}, tabS n f ds κ l = some r → ∃ c ∈ l, c.f = f ∧ c.run n ds κ = some r
 | [], h => by simp [tabS] at h
 | c :: l, h => by
   have tail : tabS n f ds κ l = some r → ∃ c' ∈ c :: l, c'.f = f ∧ c'.run n ds κ = some r := fun h => by
    obtain ⟨c', h1, h2⟩ := acE h
    exact ⟨c', List.mem_cons_of_mem _ h1, h2⟩
   simp only [tabS] at h
   cases hb : Nat.beq c.f f with
   | false => rw [hb] at h; exact tail h
   | true =>
     rw [hb, cond_true] at h
     split at h
     ·rename_i p hp
      exact ⟨c, List.mem_cons_self, aJ hb, by unfold Ctr.run aZ; rw [hp]; exact h⟩
     ·exact tail h
section
variable [Inhabited aQ]
theorem ajG {n : Nat} {l : List (Ctr α)} (h : ∀ c ∈ l, ∀ n, az P c.f (c.run n)) : abu P fun f ds κ => tabS n f ds κ l := by
 intro f ⟨ds, κ, r, hk⟩
 obtain ⟨c, hc, rfl, _⟩ := acE hk
 refine ⟨(h c hc n).enters, fun ds κ r hr => ?_⟩
 obtain ⟨c', hc', hf, hr'⟩ := acE hr
 have := (h c' hc' n).runs ds κ r hr'
 rwa [hf] at this
end
def ctxS (two : Opt) (M : FuncId → List Nat) (eqs : TypeId → Nat → Bool) (jt : Nat → Option Tpl) (cs : List (Ctr α)) (ls : List (SK α)) (n : Nat) : Ctx α := ⟨fun f ds κ => tabS n f ds κ cs, M, eqs, lpOf ls n, jt, two⟩
def dsOf (S : Sig) (p : List P1) : List D := ((lQ S.sh p).map Prod.fst).getD []
def aml : SkD → Bool
 | .msl _ _ => true
 | .mptr _ _ => true
 | _ => false
def YW : List SkD → Bool
 | [] => false
 | s :: r => aml s || YW r
def amm : D → Bool
 | .msl _ _ _ => true
 | .mptr _ _ => true
 | _ => false
theorem ai0 {s : SkD} {p q : List P1} {d : D} (h : jK s p = some (d, q)) : amm d = aml s := by
 cases s with
 | sl e t =>
   cases p with
   | nil => simp [jK] at h
   | cons x p => cases x <;> simp only [jK, reduceCtorEq] at h; split at h <;> simp only [Option.some.injEq, Prod.mk.injEq, reduceCtorEq] at h; obtain ⟨rfl, _⟩ := h; rfl
 | msl e t =>
   cases p with
   | nil => simp [jK] at h
   | cons x p => cases x <;> simp only [jK, reduceCtorEq] at h; split at h <;> simp only [Option.some.injEq, Prod.mk.injEq, reduceCtorEq] at h; obtain ⟨rfl, _⟩ := h; rfl
 | int k =>
   cases p with
   | nil => simp [jK] at h
   | cons x p => cases x <;> simp [jK] at h <;> (obtain ⟨h, _⟩ := h; subst h; rfl)
 | bool =>
   cases p with
   | nil => simp [jK] at h
   | cons x p => cases x <;> simp [jK] at h <;> (obtain ⟨h, _⟩ := h; subst h; rfl)
 | str =>
   cases p with
   | nil => simp [jK] at h
   | cons x p => cases x <;> simp [jK] at h <;> (obtain ⟨h, _⟩ := h; subst h; rfl)
 | nilsl => simp [jK] at h; obtain ⟨h, _⟩ := h; subst h; rfl
 | nilptr => simp [jK] at h; obtain ⟨h, _⟩ := h; subst h; rfl
 | same i => simp [jK] at h; obtain ⟨h, _⟩ := h; subst h; rfl
 | keep => simp [jK] at h; obtain ⟨h, _⟩ := h; subst h; rfl
 | agg l => simp only [jK, Option.map_eq_some_iff, Prod.mk.injEq] at h; obtain ⟨_, _, rfl, _⟩ := h; rfl
 | slm e l => simp only [jK, Option.map_eq_some_iff, Prod.mk.injEq] at h; obtain ⟨_, _, rfl, _⟩ := h; rfl
 | ptr e l => simp only [jK, Option.map_eq_some_iff, Prod.mk.injEq] at h; obtain ⟨_, _, rfl, _⟩ := h; rfl
 | mptr e l => simp only [jK, Option.map_eq_some_iff, Prod.mk.injEq] at h; obtain ⟨_, _, rfl, _⟩ := h; rfl
 | fn e l => simp only [jK, Option.map_eq_some_iff, Prod.mk.injEq] at h; obtain ⟨_, _, rfl, _⟩ := h; rfl
theorem ahJ {n m : Nat} {d : D} {v : AV} {e : Ent} (h : zV n d = some (v, e, m)) (hl : amm d = false) : e.lent = [] := by
 cases d with
 | msl => cases hl
 | mptr => cases hl
 | agg l => simp only [zV, Option.map_eq_some_iff, Prod.mk.injEq] at h; obtain ⟨_, _, _, rfl, _⟩ := h; rfl
 | slm _ l => simp only [zV, Option.map_eq_some_iff, Prod.mk.injEq] at h; obtain ⟨_, _, _, rfl, _⟩ := h; rfl
 | fn _ l => simp only [zV, Option.map_eq_some_iff, Prod.mk.injEq] at h; obtain ⟨_, _, _, rfl, _⟩ := h; rfl
 | _ => simp only [zV, Option.map_eq_some_iff, Prod.mk.injEq] at h; obtain ⟨_, _, _, rfl, _⟩ := h; rfl
def aci (S : Sig) (p : List P1) : List (Bool × Nat × Blk) := bif YW S.sh then ((uz 0 (dsOf S p)).map fun x => x.2.lent).getD [] else []
def GenF (P : Program) (f : Func) (S : Sig) (X : Ctx α) (n : Nat) (B : S.ty α) : Prop := AllP S.lv fun p => ∀ κ : Res → Option α, evFn P X f (dsOf S p) κ = bY S B n p κ
def BZ (f : Func) : Code := f.body.getD .skip
def GenL (P : Program) (f : Func) (S : Sig) (X : Ctx α) (key : Nat) (t : Tpl) (L : PcS) (n : Nat) (G B : L.ty S.rets α) : Prop :=
 AllP (bif YW S.sh then S.lv else []) fun p0 => AllP L.lv fun p => ∀ (brk : Nat → List P1 → Option α) (ret : Res → Option α),
  ev (X.env P f S.sh.length (aci S p0)) (Pj (gY (BZ f)) (key % 100000)) ((t.build p).getD ⟨[], []⟩) (aa6 (S.sh.length * 64) t (fun q => zy L S.rets G n q brk ret) brk ret) = zy L S.rets B n p brk ret
section
variable [Inhabited aQ]
def agf (P : Program) (f : Func) (S : Sig) (X : Nat → Ctx α) (T : SK α) : Prop := (∀ p brk ret, T.run 0 p brk ret = none) ∧
 AllP (bif YW S.sh then S.lv else []) fun p0 => ∀ n p brk ret st r, T.tpl.build p = some st → T.run (n + 1) p brk ret = some r →
  ev ((X n).env P f S.sh.length (aci S p0)) (Pj (gY (BZ f)) (T.key % 100000)) st (aa6 (S.sh.length * 64) T.tpl (fun q => T.run n q brk ret) brk ret) = some r
end
theorem AllP.all {β : Sort u} : ∀ {ts : List LT} {Q : β → List P1 → Prop}, (∀ b, AllP ts (Q b)) → AllP ts fun p => ∀ b, Q b p
 | [], _, h => h
 | t :: _, Q, h => fun x => AllP.all (Q := fun b ps => Q b (t.p1 x :: ps)) fun b => h b x
theorem nY {f : Func} {S : Sig} {X : Nat → Ctx α} {key : Nat} {t : Tpl} {L : PcS} {G B : L.ty S.rets α} (h0 : G 0 = noL L S.rets) (hB : ∀ n, B n = G (n + 1)) (hg : ∀ n, GenL P f S (X n) key t L n G B) : agf P f S X (lpT key t L S.rets G) := by
 refine ⟨fun p brk ret => ajR h0 p brk ret, AllP.mono (fun p0 h n p brk ret st r hb hr => ?_) (AllP.all hg)⟩
 have hr' := hr
 have hcall : zy L S.rets B n p brk ret = zy L S.rets G (n + 1) p brk ret := by
  unfold zy
  rw [hB n]
 simp only [lpT, zy, Option.bind_eq_some_iff] at hr'
 obtain ⟨x, hx, _⟩ := hr'
 have := abW hx (h n) brk ret
 rw [anm (show t.build p = some st from hb)] at this
 exact this.trans (hcall.trans hr)
theorem adT {n : Nat} : ∀ {sh : List SkD} {p q : List P1} {ds : List D} {vs : List AV} {e : Ent}, YW sh = false → lQ sh p = some (ds, q) → uz n ds = some (vs, e) → e.lent = [] := by
 intro sh
 induction sh generalizing n with
 | nil =>
   intro p q ds vs e _ hb he
   simp only [lQ, Option.some.injEq, Prod.mk.injEq] at hb
   rw [← hb.1] at he
   simp only [uz, Option.some.injEq, Prod.mk.injEq] at he
   rw [← he.2]
 | cons s r ih =>
   intro p q ds vs e hl hb he
   simp only [YW, Bool.or_eq_false_iff] at hl
   simp only [lQ, Option.bind_eq_some_iff, Option.map_eq_some_iff, Prod.mk.injEq] at hb
   obtain ⟨⟨d, p1⟩, hd, ⟨ds', p2⟩, hds, rfl, rfl⟩ := hb
   simp only [uz, Option.bind_eq_some_iff] at he
   obtain ⟨⟨v, e1, m⟩, h1, he⟩ := he
   obtain ⟨hm, he⟩ := ifB he
   simp only [Option.map_eq_some_iff, Prod.mk.injEq] at he
   obtain ⟨⟨vs', e'⟩, h2, rfl, rfl⟩ := he
   have hr := ih hl.2 hds h2
   simp [ahJ h1 ((ai0 hd).trans hl.1), hr]
theorem ach : ∀ {ds : List D} {n : Nat} {vs : List AV} {e : Ent}, uz n ds = some (vs, e) → vs.length = ds.length
 | [], n, vs, e, he => by
   simp only [uz, Option.some.injEq, Prod.mk.injEq] at he
   simp [← he.1]
 | d :: ds, n, vs, e, he => by
   simp only [uz, Option.bind_eq_some_iff] at he
   obtain ⟨⟨v, e1, m⟩, h1, he⟩ := he
   obtain ⟨hm, he⟩ := ifB he
   simp only [Option.map_eq_some_iff, Prod.mk.injEq] at he
   obtain ⟨⟨vs', e'⟩, h2, rfl, rfl⟩ := he
   simp [ach h2]
theorem acr : ∀ {sh : List SkD} {p q : List P1} {ds : List D}, lQ sh p = some (ds, q) → ds.length = sh.length
 | [], p, q, ds, hb => by
   simp only [lQ, Option.some.injEq, Prod.mk.injEq] at hb
   simp [← hb.1]
 | s :: r, p, q, ds, hb => by
   simp only [lQ, Option.bind_eq_some_iff, Option.map_eq_some_iff, Prod.mk.injEq] at hb
   obtain ⟨⟨d, p1⟩, hd, ⟨ds', p2⟩, hds, rfl, rfl⟩ := hb
   simp [acr hds]
section
variable [Inhabited aQ]
theorem aK {f : FuncId} {fn : Func} (hf : P.funcs[f]? = some fn) (hb : fn.body.isSome = true) (hname : (fn.name == "runtime.NumGoroutine") = false) (hu : aaK (gY (BZ fn)) = true)
 {M : FuncId → List Nat} {eqs : TypeId → Nat → Bool} {jt : Nat → Option Tpl} {two : Opt} (heq : EqOK P eqs) {cs : List (Ctr α)} {ls : List (SK α)} {S : Sig} {F B : S.ty α}
 (hg : ∀ n, GenF P fn S (ctxS two M eqs jt cs ls n) n B) (hB : B = F)
 (hc : ∀ c ∈ cs, ∀ n, az P c.f (c.run n)) (hl : ∀ T ∈ ls, agf P fn S (ctxS two M eqs jt cs ls) T) (hbld : acU P two := by first | exact an8 | exact anV) : ∀ n, az P f (aZ S.sh (bY S F n)) := by
 subst hB
 obtain ⟨c, hbody⟩ := Option.isSome_iff_exists.1 hb
 have hcode : BZ fn = c := by unfold BZ; rw [hbody]; rfl
 rw [hcode] at hu
 refine alr hf hbody hname hu (fun n f ds κ => tabS n f ds κ cs) M eqs ls jt two (fun n => ajG hc) heq hbld (fun np lent => np = S.sh.length ∧ ∃ p0, lent = aci S p0 ∧ ∀ Q : List P1 → Prop, AllP (bif YW S.sh then S.lv else []) Q → Q p0) (fun T hT => (hl T hT).1) (fun T hT np lent hL n p brk ret st r h1 h2 => ?_) S.sh (bY S B) (fun n p κ r ds hd hr => ?_)
 ·obtain ⟨rfl, p0, rfl, hp0⟩ := hL
  have := hp0 _ (hl T hT).2 n p brk ret st r h1 h2
  rw [hcode] at this
  exact this
 ·have hr' := hr
  simp only [bY, Option.bind_eq_some_iff] at hr'
  obtain ⟨x, hx, _⟩ := hr'
  have hev := (abW hx (hg n) κ).trans hr
  have hds : dsOf S p = ds := amx hd
  rw [hds] at hev
  refine ⟨?_, hev⟩
  have hev2 := hev
  unfold evFn at hev2
  rw [hbody] at hev2
  simp only [Option.bind_eq_some_iff] at hev2
  obtain ⟨⟨vs, e⟩, he, _⟩ := hev2
  refine ⟨vs, e, he, (ach he).trans (acr hd), ?_⟩
  cases hls : YW S.sh with
  | true =>
    refine ⟨p, ?_, fun Q hQ => abW hx hQ⟩
    unfold aci
    rw [hls, cond_true, hds, he]
    rfl
  | false =>
    refine ⟨[], ?_, fun Q hQ => hQ⟩
    unfold aci
    rw [hls, cond_false]
    exact adT hls hd he
end
section
variable [Inhabited aQ]
end
theorem allC {β : Type u} {Q : β → Prop} {a : β} {l : List β} (h : Q a) (t : ∀ b ∈ l, Q b) : ∀ b ∈ a :: l, Q b := List.forall_mem_cons.2 ⟨h, t⟩
theorem allN {β : Type u} {Q : β → Prop} : ∀ b ∈ ([] : List β), Q b := fun _ h => absurd h List.not_mem_nil
def anyN : Nat → List Sk → List Sk
 | 0, l => l
 | n + 1, l => .any :: anyN n l
def Cj (lv : List LT) (js : List Nat) : PcS := ⟨lv, js.map fun j => (j, lv)⟩
def cutK (E : Env α) (κs : Nat → List P1 → Option α) (s : Nat) (st : St) : Option α := match E.jt s with
 | some t => (t.take E.low st).bind (κs s)
 | none => none
noncomputable def pcK (E : Env α) (c : Code) (k : Out → Option α) (s : Nat) (p : List P1) : Option α := match E.jt s with
 | some t => (t.build p).bind (ac6 E c k s)
 | none => none
noncomputable def pcX (E : Env α) (S : List Nat) (c : Code) (κs : Nat → List P1 → Option α) (k : Out → Option α) (s : Nat) (p : List P1) : Option α := match E.jt s with
 | some t => (t.build p).bind fun st => aak E (LJ s c).1 (LJ s c).2 st fun st => ctxX E S (cutK E κs) s c k (.normal st)
 | none => none
def allJ (jt : Nat → Option Tpl) : List Nat → Bool
 | [] => true
 | s :: r => (jt s).isSome && allJ jt r
theorem agW {jt : Nat → Option Tpl} : ∀ {S : List Nat} {s : Nat}, allJ jt S = true → memN s S = true → ∃ t, jt s = some t
 | [], _, _, h => by cases h
 | x :: r, s, h, hs => by
   simp only [allJ, Bool.and_eq_true] at h
   simp only [memN, Bool.or_eq_true] at hs
   rcases hs with hs | hs
   ·have := aJ hs
    subst this
    exact Option.isSome_iff_exists.1 h.1
   ·exact agW h.2 hs
theorem amj {E : Env α} {S : List Nat} {c : Code} {k : Out → Option α} (hj : allJ E.jt S = true) : AtOK E S (cutK E (pcK E c k)) c k := fun s hs _ st => by
 obtain ⟨t, ht⟩ := agW hj hs
 unfold cutK pcK abb
 rw [ht]
theorem an0 {E : Env α} {S : List Nat} {c : Code} {k : Out → Option α} (ho : wJ S c = true) (hj : allJ E.jt S = true) (st : St) : ev E c st k = evX E S (cutK E (pcK E c k)) c st k := aaf ho (amj hj) st
theorem ap6 {E : Env α} {S : List Nat} {c : Code} {k : Out → Option α} (ho : wJ S c = true) (hj : allJ E.jt S = true) (s : Nat) (p : List P1) : pcK E c k s p = pcX E S c (pcK E c k) k s p := by
 unfold pcX
 rw [← abg (S := S) ho (amj hj)]
 rfl
noncomputable def amu (P : Program) (X : Ctx α) (f : Func) (np : Nat) (S : List Nat) (args : List D) (κs : Nat → List P1 → Option α) (k : Res → Option α) : Option α :=
 (uz 0 args).bind fun (vs, e) => evX (X.env P f np []) S (cutK (X.env P f np []) κs) (BZ f) { slots := vs ++ List.replicate (f.ntmps - vs.length) .undef, heap := e.heap } (endK P f np [] k)
def GenP (P : Program) (f : Func) (S : Sig) (X : Ctx α) (Z : List Nat) (s : Nat) (L : PcS) (n : Nat) (B : L.ty S.rets α) : Prop :=
 AllP L.lv fun p => ∀ (κs : Nat → List P1 → Option α) (κ : Res → Option α), pcX (X.env P f S.sh.length []) Z (BZ f) κs (endK P f S.sh.length [] κ) s p = zy L S.rets B n p κs κ
def amr (P : Program) (f : Func) (S : Sig) (X : Ctx α) (Z : List Nat) (L : PcS) (n : Nat) (B : L.ty S.rets α) : Prop :=
 AllP L.lv fun p => ∀ (κs : Nat → List P1 → Option α) (κ : Res → Option α), amu P X f S.sh.length Z (dsOf S p) κs κ = zy L S.rets B n p κs κ
structure Pc (α : Type) (rets : List RetS) where
 s : Nat
 lv : List LT
 B : PcS.ty ⟨lv, []⟩ rets α
def noBr : Nat → List P1 → Option α := fun _ _ => none
def Pc.run {rets : List RetS} (c : Pc α rets) (n : Nat) (p : List P1) (κ : Res → Option α) : Option α := zy ⟨c.lv, []⟩ rets c.B n p noBr κ
def brkP {rets : List RetS} (n : Nat) (κ : Res → Option α) (s : Nat) (p : List P1) : List (Pc α rets) → Option α
 | [] => none
 | c :: r => bif Nat.beq c.s s then c.run n p κ else brkP n κ s p r
section
variable [Inhabited aQ]
def PcOK (P : Program) (f : Func) (S : Sig) (X : Ctx α) (n : Nat) (c : Pc α S.rets) : Prop :=
 AllP c.lv fun p => ∀ κ : Res → Option α, pcK (X.env P f S.sh.length []) (BZ f) (endK P f S.sh.length [] κ) c.s p = c.run n p κ
end
def IZ (rets : List RetS) (L : PcS) (n : Nat) (b : L.ty rets α) (B : PcS.ty ⟨L.lv, []⟩ rets α) (l : List (Pc α rets)) : Prop :=
 AllP L.lv fun p => ∀ κ : Res → Option α, zy L rets b n p (fun s p => brkP n κ s p l) κ = zy ⟨L.lv, []⟩ rets B n p noBr κ
theorem ac8 {R : Type} {brk brk' : Nat → List P1 → Option α} : ∀ {js : List (Nat × List LT)} {f : FB α js R}, (∀ j ∈ js, AllP j.2 fun p => brk j.1 p = brk' j.1 p) → acX js f brk = acX js f brk'
 | [], _, _ => rfl
 | j :: js, f, h => by
   simp only [acX]
   rw [afA (h j List.mem_cons_self)]
   exact ac8 fun j hj => h j (List.mem_cons_of_mem _ hj)
theorem adk {L : PcS} {rets : List RetS} {G : L.ty rets α} {n : Nat} {p : List P1} {brk brk' : Nat → List P1 → Option α} {ret : Res → Option α} (h : ∀ j ∈ L.outs, AllP j.2 fun p => brk j.1 p = brk' j.1 p) : zy L rets G n p brk ret = zy L rets G n p brk' ret := by
 unfold zy
 congr 1
 funext f
 rw [ac8 h]
def akx (P : Program) (f : Func) (S : Sig) (X : Ctx α) (n : Nat) (l : List (Pc α S.rets)) (L : PcS) : Prop :=
 ∀ j ∈ L.outs, AllP j.2 fun p => ∀ κ : Res → Option α, pcK (X.env P f S.sh.length []) (BZ f) (endK P f S.sh.length [] κ) j.1 p = brkP n κ j.1 p l
theorem AllP.and {Q Q' : List P1 → Prop} : ∀ {ts : List LT}, AllP ts Q → AllP ts Q' → AllP ts fun p => Q p ∧ Q' p := by
 intro ts
 induction ts generalizing Q Q' with
 | nil => exact fun h h' => ⟨h, h'⟩
 | cons t r ih => exact fun h h' x => ih (h x) (h' x)
theorem zQ {f : Func} {S : Sig} {X : Ctx α} {Z : List Nat} {s n : Nat} {L : PcS} {b : L.ty S.rets α} {B B' : PcS.ty ⟨L.lv, []⟩ S.rets α} {l : List (Pc α S.rets)} (ho : wJ Z (BZ f) = true) (hj : allJ X.jt Z = true)
 (hg : GenP P f S X Z s L n b) (hJ : IZ S.rets L n b B' l) (hB : B' = B) (hl : akx P f S X n l L) : PcOK P f S X n ⟨s, L.lv, B⟩ := by
 subst hB
 refine AllP.mono (fun p h κ => ?_) (AllP.and hg hJ)
 rw [ap6 ho (by exact hj), h.1, adk (brk' := fun s p => brkP n κ s p l) fun j hj => AllP.mono (fun p h => h κ) (hl j hj)]
 exact h.2 κ
theorem aiC {f : Func} {S : Sig} {X : Ctx α} {Z : List Nat} {n : Nat} {L : PcS} {b : L.ty S.rets α} {B : S.ty α} {B' : PcS.ty ⟨L.lv, []⟩ S.rets α} {l : List (Pc α S.rets)} (ho : wJ Z (BZ f) = true) (hj : allJ X.jt Z = true) (hsome : f.body.isSome = true) (hls : YW S.sh = false) (hlv : L.lv = S.lv) (hbd : AllP L.lv fun p => (lQ S.sh p).isSome = true)
 (hg : amr P f S X Z L n b) (hJ : IZ S.rets L n b B' l) (hB : ∀ p κ, zy ⟨L.lv, []⟩ S.rets B' n p noBr κ = bY S B n p κ) (hl : akx P f S X n l L) : GenF P f S X n B := by
 unfold GenF
 rw [← hlv]
 refine AllP.mono (fun p h κ => ?_) (AllP.and hbd (AllP.and hg hJ))
 rw [← hB, ← h.2.2 κ, ← adk (brk' := fun s p => brkP n κ s p l) fun j hj => AllP.mono (fun p h => h κ) (hl j hj), ← h.2.1]
 obtain ⟨c, hbody⟩ := Option.isSome_iff_exists.1 hsome
 have hcode : BZ f = c := by unfold BZ; rw [hbody]; rfl
 obtain ⟨⟨ds, q⟩, hd⟩ := Option.isSome_iff_exists.1 h.1
 have hds : dsOf S p = ds := amx hd
 unfold evFn amu
 rw [hbody, hds]
 cases hx : uz 0 ds with
 | none => rfl
 | some x =>
   obtain ⟨vs, e⟩ := x
   simp only [Option.bind_some]
   have h1 : vs.length = S.sh.length := (ach hx).trans (acr hd)
   have h2 := adT hls hd hx
   rw [h1, h2, ← an0 ho (by exact hj), hcode]
   rfl
end Go.Ev
