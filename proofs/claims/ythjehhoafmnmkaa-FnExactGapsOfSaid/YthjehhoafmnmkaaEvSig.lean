/- Signatures: functions and loops, by the leaves of their data. -/
import Derived.Test.YthjehhoafmnmkaaEvEq
namespace Go.Ev
open Go.RowKit
universe u
variable {α : Type} {P : Program}
inductive LT where
 | int | bool | str | nat
 | rows (t : Ty)
@[reducible] def LT.den : LT → Type
 | .int => Int
 | .bool => Bool
 | .str => ByteArray
 | .nat => Nat
 | .rows t => List t.den
def LT.p1 : (t : LT) → t.den → P1
 | .int, n => .int n
 | .bool, b => .bool b
 | .str, s => .str s
 | .nat, n => .nat n
 | .rows t, l => .rows t l
def LT.get : (t : LT) → P1 → Option t.den
 | .int, .int n => some n
 | .bool, .bool b => some b
 | .str, .str s => some s
 | .nat, .nat n => some n
 | .rows t, .rows t' l => if h : t' = t then some (h ▸ l) else none
 | _, _ => none
theorem LT.get_p1 {t : LT} {p : P1} {x : t.den} (h : t.get p = some x) : p = t.p1 x := by
 cases t <;> cases p <;> first
  | (simp only [LT.get] at h; cases h; done)
  | (simp only [LT.get] at h; cases h; rfl)
  | (simp only [LT.get] at h
     split at h
     ·rename_i e
      subst e
      cases h
      rfl
     ·cases h)
def FT : List LT → Type → Type
 | [], R => R
 | t :: r, R => t.den → FT r R
def appP {R : Type} : (ts : List LT) → FT ts R → List P1 → Option R
 | [], f, [] => some f
 | t :: r, f, p :: ps => (t.get p).bind fun x => appP r (f x) ps
 | _, _, _ => none
def cur {R : Type} : (ts : List LT) → (List P1 → R) → FT ts R
 | [], f => f []
 | t :: r, f => fun x => cur r fun ps => f (t.p1 x :: ps)
def AllP : List LT → (List P1 → Prop) → Prop
 | [], f => f []
 | t :: r, f => ∀ x : t.den, AllP r fun ps => f (t.p1 x :: ps)
theorem Tj {R : Type} : ∀ {ts : List LT} {f : FT ts R} {p : List P1} {x : R} {Q : List P1 → Prop}, appP ts f p = some x → AllP ts Q → Q p
 | [], f, [], x, Q, _, h => h
 | t :: r, f, p :: ps, x, Q, h, ha => by
   simp only [appP, Option.bind_eq_some_iff] at h
   obtain ⟨y, hy, h⟩ := h
   rw [LT.get_p1 hy]
   exact Tj (Q := fun ps => Q (t.p1 y :: ps)) h (ha y)
 | [], _, _ :: _, _, _, h, _ => by simp [appP] at h
 | _ :: _, _, [], _, _, h, _ => by simp [appP] at h
theorem AllP.mono {Q Q' : List P1 → Prop} (h : ∀ p, Q p → Q' p) : ∀ {ts : List LT}, AllP ts Q → AllP ts Q' := by
 intro ts
 induction ts generalizing Q Q' with
 | nil => exact h []
 | cons t r ih => exact fun ha x => ih (fun ps => h (t.p1 x :: ps)) (ha x)
structure RetS where
 lv : List LT
 rs : List SkD
 outs : List SkD := []
def RetS.mk1 (r : RetS) (p : List P1) : Res := match lW r.rs p with
 | some (ds, q) => match lW r.outs q with
   | some (os, _) => ⟨ds, os⟩
   | none => ⟨ds, []⟩
 | none => ⟨[], []⟩
def FK (α : Type) : List RetS → Type
 | [] => Option α
 | r :: rs => FT r.lv (Option α) → FK α rs
def feed : (rs : List RetS) → FK α rs → (Res → Option α) → Option α
 | [], f, _ => f
 | r :: rs, f, κ => feed rs (f (cur r.lv fun p => κ (r.mk1 p))) κ
def noK : (rs : List RetS) → FK α rs
 | [] => none
 | _ :: rs => fun _ => noK rs
theorem Zj : ∀ (rs : List RetS) (κ : Res → Option α), feed rs (noK rs) κ = none
 | [], _ => rfl
 | r :: rs, κ => Zj rs κ
structure Sig where
 sh : List SkD
 lv : List LT
 rets : List RetS
def Sig.ty (S : Sig) (α : Type) : Type := Nat → FT S.lv (FK α S.rets)
def gX (S : Sig) (F : S.ty α) (n : Nat) (p : List P1) (κ : Res → Option α) : Option α := (appP S.lv (F n) p).bind fun f => feed S.rets f κ
structure PcS where
 lv : List LT
 outs : List (Nat × List LT)
def FB (α : Type) : List (Nat × List LT) → Type → Type
 | [], R => R
 | j :: js, R => FT j.2 (Option α) → FB α js R
def PcS.ty (L : PcS) (rets : List RetS) (α : Type) : Type := Nat → FT L.lv (FB α L.outs (FK α rets))
def ae6 {R : Type} : (js : List (Nat × List LT)) → FB α js R → (Nat → List P1 → Option α) → R
 | [], f, _ => f
 | j :: js, f, brk => ae6 js (f (cur j.2 fun p => brk j.1 p)) brk
def noB {R : Type} (x : R) : (js : List (Nat × List LT)) → FB α js R
 | [] => x
 | _ :: js => fun _ => noB x js
theorem acb {R : Type} (x : R) : ∀ (js : List (Nat × List LT)) (brk : Nat → List P1 → Option α), ae6 js (noB x js) brk = x
 | [], _ => rfl
 | _ :: js, brk => acb x js brk
def Iw (L : PcS) (rets : List RetS) (G : L.ty rets α) (n : Nat) (p : List P1) (brk : Nat → List P1 → Option α) (ret : Res → Option α) : Option α := (appP L.lv (G n) p).bind fun f => feed rets (ae6 L.outs f brk) ret
def noF {R : Type} (x : R) : (ts : List LT) → FT ts R
 | [] => x
 | _ :: r => fun _ => noF x r
theorem Zx {R : Type} (x : R) : ∀ {ts : List LT} {p : List P1} {y : R}, appP ts (noF x ts) p = some y → y = x
 | [], [], y, h => (Option.some.inj h).symm
 | _ :: _, _ :: _, y, h => by
   simp only [appP, Option.bind_eq_some_iff] at h
   obtain ⟨_, _, h⟩ := h
   exact Zx x h
 | [], _ :: _, _, h => by simp [appP] at h
 | _ :: _, [], _, h => by simp [appP] at h
def noL (L : PcS) (rets : List RetS) : FT L.lv (FB α L.outs (FK α rets)) := noF (noB (noK rets) L.outs) L.lv
theorem agj {L : PcS} {rets : List RetS} {G : L.ty rets α} {n : Nat} (h : G n = noL L rets) (p : List P1) (brk : Nat → List P1 → Option α) (ret : Res → Option α) : Iw L rets G n p brk ret = none := by
 unfold Iw
 rw [h]
 cases hp : appP L.lv (noL L rets : FT L.lv (FB α L.outs (FK α rets))) p with
 | none => rfl
 | some f =>
   rw [Zx _ hp, Option.bind_some, acb, Zj]
def lpT (key : Nat) (t : Tpl) (L : PcS) (rets : List RetS) (G : L.ty rets α) : DX α := ⟨key, t, Iw L rets G⟩
structure Ctr (α : Type) where
 f : FuncId
 S : Sig
 F : S.ty α
def Ctr.run (c : Ctr α) (n : Nat) : List D → (Res → Option α) → Option α := eQ c.S.sh (gX c.S c.F n)
def tabS (n : Nat) (f : FuncId) (ds : List D) (κ : Res → Option α) (l : List (Ctr α)) : Option α := match l with
 | [] => none
 | c :: r => bif Nat.beq c.f f then (match zZ c.S.sh ds with
   | some p => gX c.S c.F n p κ
   | none => tabS n f ds κ r) else tabS n f ds κ r
theorem WQ {n : Nat} {f : FuncId} {ds : List D} {κ : Res → Option α} {r : α} : ∀ {l : List (Ctr α)}, tabS n f ds κ l = some r → ∃ c ∈ l, c.f = f ∧ c.run n ds κ = some r
 | [], h => by simp [tabS] at h
 | c :: l, h => by
   have tail : tabS n f ds κ l = some r → ∃ c' ∈ c :: l, c'.f = f ∧ c'.run n ds κ = some r := fun h => by
    obtain ⟨c', h1, h2⟩ := WQ h
    exact ⟨c', List.mem_cons_of_mem _ h1, h2⟩
   simp only [tabS] at h
   cases hb : Nat.beq c.f f with
   | false => rw [hb] at h; exact tail h
   | true =>
     rw [hb, cond_true] at h
     split at h
     ·rename_i p hp
      exact ⟨c, List.mem_cons_self, ay hb, by unfold Ctr.run eQ; rw [hp]; exact h⟩
     ·exact tail h
section
variable [Inhabited az]
theorem agn {n : Nat} {l : List (Ctr α)} (h : ∀ c ∈ l, ∀ n, iw P c.f (c.run n)) : Rx P fun f ds κ => tabS n f ds κ l := by
 intro f ⟨ds, κ, r, hk⟩
 obtain ⟨c, hc, rfl, _⟩ := WQ hk
 refine ⟨(h c hc n).enters, fun ds κ r hr => ?_⟩
 obtain ⟨c', hc', hf, hr'⟩ := WQ hr
 have := (h c' hc' n).runs ds κ r hr'
 rwa [hf] at this
end
def ctxS (two : Opt) (M : FuncId → List Nat) (eqs : TypeId → Nat → Bool) (jt : Nat → Option Tpl) (cs : List (Ctr α)) (ls : List (DX α)) (n : Nat) : Ctx α := ⟨fun f ds κ => tabS n f ds κ cs, M, eqs, lpOf ls n, jt, two⟩
def dsOf (S : Sig) (p : List P1) : List D := ((lW S.sh p).map Prod.fst).getD []
def aiD : SkD → Bool
 | .msl _ _ => true
 | .mptr _ _ => true
 | _ => false
def Oz : List SkD → Bool
 | [] => false
 | s :: r => aiD s || Oz r
def ait : D → Bool
 | .msl _ _ _ => true
 | .mptr _ _ => true
 | _ => false
theorem aeS {s : SkD} {p q : List P1} {d : D} (h : iV s p = some (d, q)) : ait d = aiD s := by
 cases s with
 | sl e t =>
   cases p with
   | nil => simp [iV] at h
   | cons x p => cases x <;> simp only [iV, reduceCtorEq] at h; split at h <;> simp only [Option.some.injEq, Prod.mk.injEq, reduceCtorEq] at h; obtain ⟨rfl, _⟩ := h; rfl
 | msl e t =>
   cases p with
   | nil => simp [iV] at h
   | cons x p => cases x <;> simp only [iV, reduceCtorEq] at h; split at h <;> simp only [Option.some.injEq, Prod.mk.injEq, reduceCtorEq] at h; obtain ⟨rfl, _⟩ := h; rfl
 | int k =>
   cases p with
   | nil => simp [iV] at h
   | cons x p => cases x <;> simp [iV] at h <;> (obtain ⟨h, _⟩ := h; subst h; rfl)
 | bool =>
   cases p with
   | nil => simp [iV] at h
   | cons x p => cases x <;> simp [iV] at h <;> (obtain ⟨h, _⟩ := h; subst h; rfl)
 | str =>
   cases p with
   | nil => simp [iV] at h
   | cons x p => cases x <;> simp [iV] at h <;> (obtain ⟨h, _⟩ := h; subst h; rfl)
 | nilsl => simp [iV] at h; obtain ⟨h, _⟩ := h; subst h; rfl
 | nilptr => simp [iV] at h; obtain ⟨h, _⟩ := h; subst h; rfl
 | same i => simp [iV] at h; obtain ⟨h, _⟩ := h; subst h; rfl
 | keep => simp [iV] at h; obtain ⟨h, _⟩ := h; subst h; rfl
 | agg l => simp only [iV, Option.map_eq_some_iff, Prod.mk.injEq] at h; obtain ⟨_, _, rfl, _⟩ := h; rfl
 | slm e l => simp only [iV, Option.map_eq_some_iff, Prod.mk.injEq] at h; obtain ⟨_, _, rfl, _⟩ := h; rfl
 | ptr e l => simp only [iV, Option.map_eq_some_iff, Prod.mk.injEq] at h; obtain ⟨_, _, rfl, _⟩ := h; rfl
 | mptr e l => simp only [iV, Option.map_eq_some_iff, Prod.mk.injEq] at h; obtain ⟨_, _, rfl, _⟩ := h; rfl
 | fn e l => simp only [iV, Option.map_eq_some_iff, Prod.mk.injEq] at h; obtain ⟨_, _, rfl, _⟩ := h; rfl
theorem ad6 {n m : Nat} {d : D} {v : AV} {e : Ent} (h : uQ n d = some (v, e, m)) (hl : ait d = false) : e.lent = [] := by
 cases d with
 | msl => cases hl
 | mptr => cases hl
 | agg l => simp only [uQ, Option.map_eq_some_iff, Prod.mk.injEq] at h; obtain ⟨_, _, _, rfl, _⟩ := h; rfl
 | slm _ l => simp only [uQ, Option.map_eq_some_iff, Prod.mk.injEq] at h; obtain ⟨_, _, _, rfl, _⟩ := h; rfl
 | fn _ l => simp only [uQ, Option.map_eq_some_iff, Prod.mk.injEq] at h; obtain ⟨_, _, _, rfl, _⟩ := h; rfl
 | _ => simp only [uQ, Option.map_eq_some_iff, Prod.mk.injEq] at h; obtain ⟨_, _, _, rfl, _⟩ := h; rfl
def Vk (S : Sig) (p : List P1) : List (Bool × Nat × Blk) := bif Oz S.sh then ((entry 0 (dsOf S p)).map fun x => x.2.lent).getD [] else []
def GenF (P : Program) (f : Func) (S : Sig) (X : Ctx α) (n : Nat) (B : S.ty α) : Prop := AllP S.lv fun p => ∀ κ : Res → Option α, evFn P X f (dsOf S p) κ = gX S B n p κ
def Py (f : Func) : Code := f.body.getD .skip
def GenL (P : Program) (f : Func) (S : Sig) (X : Ctx α) (key : Nat) (t : Tpl) (L : PcS) (n : Nat) (G B : L.ty S.rets α) : Prop :=
 AllP (bif Oz S.sh then S.lv else []) fun p0 => AllP L.lv fun p => ∀ (brk : Nat → List P1 → Option α) (ret : Res → Option α),
  ev (X.env P f S.sh.length (Vk S p0)) (Dy (fK (Py f)) (key % 100000)) ((t.build p).getD ⟨[], []⟩) (Qw (S.sh.length * 64) t (fun q => Iw L S.rets G n q brk ret) brk ret) = Iw L S.rets B n p brk ret
section
variable [Inhabited az]
def Zq (P : Program) (f : Func) (S : Sig) (X : Nat → Ctx α) (T : DX α) : Prop := (∀ p brk ret, T.run 0 p brk ret = none) ∧
 AllP (bif Oz S.sh then S.lv else []) fun p0 => ∀ n p brk ret st r, T.tpl.build p = some st → T.run (n + 1) p brk ret = some r →
  ev ((X n).env P f S.sh.length (Vk S p0)) (Dy (fK (Py f)) (T.key % 100000)) st (Qw (S.sh.length * 64) T.tpl (fun q => T.run n q brk ret) brk ret) = some r
end
theorem AllP.all {β : Sort u} : ∀ {ts : List LT} {Q : β → List P1 → Prop}, (∀ b, AllP ts (Q b)) → AllP ts fun p => ∀ b, Q b p
 | [], _, h => h
 | t :: _, Q, h => fun x => AllP.all (Q := fun b ps => Q b (t.p1 x :: ps)) fun b => h b x
theorem jQ {f : Func} {S : Sig} {X : Nat → Ctx α} {key : Nat} {t : Tpl} {L : PcS} {G B : L.ty S.rets α} (h0 : G 0 = noL L S.rets) (hB : ∀ n, B n = G (n + 1)) (hg : ∀ n, GenL P f S (X n) key t L n G B) : Zq P f S X (lpT key t L S.rets G) := by
 refine ⟨fun p brk ret => agj h0 p brk ret, AllP.mono (fun p0 h n p brk ret st r hb hr => ?_) (AllP.all hg)⟩
 have hr' := hr
 have hcall : Iw L S.rets B n p brk ret = Iw L S.rets G (n + 1) p brk ret := by
  unfold Iw
  rw [hB n]
 simp only [lpT, Iw, Option.bind_eq_some_iff] at hr'
 obtain ⟨x, hx, _⟩ := hr'
 have := Tj hx (h n) brk ret
 rw [aje (show t.build p = some st from hb)] at this
 exact this.trans (hcall.trans hr)
theorem aeX {n : Nat} : ∀ {sh : List SkD} {p q : List P1} {ds : List D} {vs : List AV} {e : Ent}, Oz sh = false → lW sh p = some (ds, q) → entry n ds = some (vs, e) → e.lent = [] := by
 intro sh
 induction sh generalizing n with
 | nil =>
   intro p q ds vs e _ hb he
   simp only [lW, Option.some.injEq, Prod.mk.injEq] at hb
   rw [← hb.1] at he
   simp only [entry, Option.some.injEq, Prod.mk.injEq] at he
   rw [← he.2]
 | cons s r ih =>
   intro p q ds vs e hl hb he
   simp only [Oz, Bool.or_eq_false_iff] at hl
   simp only [lW, Option.bind_eq_some_iff, Option.map_eq_some_iff, Prod.mk.injEq] at hb
   obtain ⟨⟨d, p1⟩, hd, ⟨ds', p2⟩, hds, rfl, rfl⟩ := hb
   simp only [entry, Option.bind_eq_some_iff] at he
   obtain ⟨⟨v, e1, m⟩, h1, he⟩ := he
   obtain ⟨hm, he⟩ := ifB he
   simp only [Option.map_eq_some_iff, Prod.mk.injEq] at he
   obtain ⟨⟨vs', e'⟩, h2, rfl, rfl⟩ := he
   have hr := ih hl.2 hds h2
   simp [ad6 h1 ((aeS hd).trans hl.1), hr]
theorem abO : ∀ {ds : List D} {n : Nat} {vs : List AV} {e : Ent}, entry n ds = some (vs, e) → vs.length = ds.length
 | [], n, vs, e, he => by
   simp only [entry, Option.some.injEq, Prod.mk.injEq] at he
   simp [← he.1]
 | d :: ds, n, vs, e, he => by
   simp only [entry, Option.bind_eq_some_iff] at he
   obtain ⟨⟨v, e1, m⟩, h1, he⟩ := he
   obtain ⟨hm, he⟩ := ifB he
   simp only [Option.map_eq_some_iff, Prod.mk.injEq] at he
   obtain ⟨⟨vs', e'⟩, h2, rfl, rfl⟩ := he
   simp [abO h2]
theorem abS : ∀ {sh : List SkD} {p q : List P1} {ds : List D}, lW sh p = some (ds, q) → ds.length = sh.length
 | [], p, q, ds, hb => by
   simp only [lW, Option.some.injEq, Prod.mk.injEq] at hb
   simp [← hb.1]
 | s :: r, p, q, ds, hb => by
   simp only [lW, Option.bind_eq_some_iff, Option.map_eq_some_iff, Prod.mk.injEq] at hb
   obtain ⟨⟨d, p1⟩, hd, ⟨ds', p2⟩, hds, rfl, rfl⟩ := hb
   simp [abS hds]
section
variable [Inhabited az]
theorem lw {f : FuncId} {fn : Func} (hf : P.funcs[f]? = some fn) (hb : fn.body.isSome = true) (hname : (fn.name == "runtime.NumGoroutine") = false) (hu : Kz (fK (Py fn)) = true)
 {M : FuncId → List Nat} {eqs : TypeId → Nat → Bool} {jt : Nat → Option Tpl} {two : Opt} (heq : EqOK P eqs) {cs : List (Ctr α)} {ls : List (DX α)} {S : Sig} {F B : S.ty α}
 (hg : ∀ n, GenF P fn S (ctxS two M eqs jt cs ls n) n B) (hB : B = F)
 (hc : ∀ c ∈ cs, ∀ n, iw P c.f (c.run n)) (hl : ∀ T ∈ ls, Zq P fn S (ctxS two M eqs jt cs ls) T) (hbld : Rk P two := by first | exact ag5 | exact age) : ∀ n, iw P f (eQ S.sh (gX S F n)) := by
 subst hB
 obtain ⟨c, hbody⟩ := Option.isSome_iff_exists.1 hb
 have hcode : Py fn = c := by unfold Py; rw [hbody]; rfl
 rw [hcode] at hu
 refine ahb hf hbody hname hu (fun n f ds κ => tabS n f ds κ cs) M eqs ls jt two (fun n => agn hc) heq hbld (fun np lent => np = S.sh.length ∧ ∃ p0, lent = Vk S p0 ∧ ∀ Q : List P1 → Prop, AllP (bif Oz S.sh then S.lv else []) Q → Q p0) (fun T hT => (hl T hT).1) (fun T hT np lent hL n p brk ret st r h1 h2 => ?_) S.sh (gX S B) (fun n p κ r ds hd hr => ?_)
 ·obtain ⟨rfl, p0, rfl, hp0⟩ := hL
  have := hp0 _ (hl T hT).2 n p brk ret st r h1 h2
  rw [hcode] at this
  exact this
 ·have hr' := hr
  simp only [gX, Option.bind_eq_some_iff] at hr'
  obtain ⟨x, hx, _⟩ := hr'
  have hev := (Tj hx (hg n) κ).trans hr
  have hds : dsOf S p = ds := ajT hd
  rw [hds] at hev
  refine ⟨?_, hev⟩
  have hev2 := hev
  unfold evFn at hev2
  rw [hbody] at hev2
  simp only [Option.bind_eq_some_iff] at hev2
  obtain ⟨⟨vs, e⟩, he, _⟩ := hev2
  refine ⟨vs, e, he, (abO he).trans (abS hd), ?_⟩
  cases hls : Oz S.sh with
  | true =>
    refine ⟨p, ?_, fun Q hQ => Tj hx hQ⟩
    unfold Vk
    rw [hls, cond_true, hds, he]
    rfl
  | false =>
    refine ⟨[], ?_, fun Q hQ => hQ⟩
    unfold Vk
    rw [hls, cond_false]
    exact aeX hls hd he
end
theorem Yj {S : Sig} {F G : S.ty α} {n m : Nat} (h : F n = G m) : gX S F n = gX S G m := by
 funext p κ
 unfold gX
 rw [h]
theorem afa {S : Sig} {F : S.ty α} {n : Nat} (h : F n = noF (noK S.rets) S.lv) (p : List P1) (κ : Res → Option α) : gX S F n p κ = none := by
 unfold gX
 rw [h]
 cases hp : appP S.lv (noF (noK S.rets) S.lv : FT S.lv (FK α S.rets)) p with
 | none => rfl
 | some f =>
   rw [Zx _ hp, Option.bind_some, Zj]
section
variable [Inhabited az]
theorem ab3 {f : FuncId} {fn : Func} (hf : P.funcs[f]? = some fn) (hb : fn.body.isSome = true) (hname : (fn.name == "runtime.NumGoroutine") = false) {S : Sig} {F : S.ty α} {n : Nat} (h : F n = noF (noK S.rets) S.lv) : iw P f (eQ S.sh (gX S F n)) where
 enters := fun args w => by
  obtain ⟨c, hbody⟩ := Option.isSome_iff_exists.1 hb
  have hn : ¬ fn.name = "runtime.NumGoroutine" := by simpa using hname
  simp [callFunc, hf, hn, hbody]
 runs := fun ds κ r hr => by
  unfold eQ at hr
  rw [Option.bind_eq_some_iff] at hr
  obtain ⟨p, _, hr⟩ := hr
  rw [afa h] at hr
  cases hr
theorem adF {f : FuncId} {fn : Func} {M : FuncId → List Nat} {eqs : TypeId → Nat → Bool} {jt : Nat → Option Tpl} {two : Opt} {cs : List (Ctr α)} {ls : List (DX α)} {S : Sig} {F : S.ty α} {body : S.ty α → S.ty α}
 (hf : P.funcs[f]? = some fn) (hb : fn.body.isSome = true) (hname : (fn.name == "runtime.NumGoroutine") = false) (hu : Kz (fK (Py fn)) = true) (heq : EqOK P eqs)
 (hg : ∀ (F' : S.ty α) n, GenF P fn S (ctxS two M eqs jt (⟨f, S, F'⟩ :: cs) ls n) n (body F')) (h0 : F 0 = noF (noK S.rets) S.lv) (hs : ∀ n, F (n + 1) = body F n) (hr : ∀ (F' : S.ty α) n, F' n = F n → body F' n = body F n)
 (hc : ∀ c ∈ cs, ∀ n, iw P c.f (c.run n)) (hl : ∀ (F' : S.ty α), ∀ T ∈ ls, Zq P fn S (ctxS two M eqs jt (⟨f, S, F'⟩ :: cs) ls) T) (hbld : Rk P two := by first | exact ag5 | exact age) : ∀ n, iw P f (eQ S.sh (gX S F n))
 | 0 => ab3 hf hb hname h0
 | n + 1 => by
   have ih := adF hf hb hname hu heq hg h0 hs hr hc hl hbld n
   let F' : S.ty α := fun m => if m = n then F n else noF (noK S.rets) S.lv
   have hF' : ∀ m, iw P f (eQ S.sh (gX S F' m)) := fun m => by
    by_cases e : m = n
    ·have : F' m = F n := if_pos e
     rw [Yj this]
     exact ih
    ·exact ab3 hf hb hname (if_neg e)
   have h1 := lw hf hb hname hu heq (cs := ⟨f, S, F'⟩ :: cs) (hg F') rfl (List.forall_mem_cons.2 ⟨hF', hc⟩) (hl F') hbld n
   rwa [Yj ((hr F' n (if_pos rfl)).trans (hs n).symm)] at h1
end
theorem allC {β : Type u} {Q : β → Prop} {a : β} {l : List β} (h : Q a) (t : ∀ b ∈ l, Q b) : ∀ b ∈ a :: l, Q b := List.forall_mem_cons.2 ⟨h, t⟩
theorem allN {β : Type u} {Q : β → Prop} : ∀ b ∈ ([] : List β), Q b := fun _ h => absurd h List.not_mem_nil
def anyN : Nat → List Sk → List Sk
 | 0, l => l
 | n + 1, l => .any :: anyN n l
def qY (lv : List LT) (js : List Nat) : PcS := ⟨lv, js.map fun j => (j, lv)⟩
structure Pc (α : Type) (rets : List RetS) where
 s : Nat
 lv : List LT
 B : PcS.ty ⟨lv, []⟩ rets α
def noBr : Nat → List P1 → Option α := fun _ _ => none
def Pc.run {rets : List RetS} (c : Pc α rets) (n : Nat) (p : List P1) (κ : Res → Option α) : Option α := Iw ⟨c.lv, []⟩ rets c.B n p noBr κ
section
variable [Inhabited az]
end
theorem AllP.and {Q Q' : List P1 → Prop} : ∀ {ts : List LT}, AllP ts Q → AllP ts Q' → AllP ts fun p => Q p ∧ Q' p := by
 intro ts
 induction ts generalizing Q Q' with
 | nil => exact fun h h' => ⟨h, h'⟩
 | cons t r ih => exact fun h h' x => ih (h x) (h' x)
end Go.Ev
