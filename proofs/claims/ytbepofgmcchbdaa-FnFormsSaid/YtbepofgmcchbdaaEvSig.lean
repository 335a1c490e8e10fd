/- Signatures: functions and loops, by the leaves of their data. -/
import Derived.Test.YtbepofgmcchbdaaEvEq
namespace Go.Ev
open Go.RowKit

universe u
variable {α : Type} {P : Program}

/-- A leaf's type. -/
inductive LT where
  | int | bool | str | nat
  | rows (t : Ty)

@[reducible] def LT.den : LT → Type
  | .int => Int
  | .bool => Bool
  | .str => ByteArray
  | .nat => Nat
  | .rows t => List t.den

def LT.p1 : (t : LT) → t.den → P1
  | .int, n => .int n
  | .bool, b => .bool b
  | .str, s => .str s
  | .nat, n => .nat n
  | .rows t, l => .rows t l

def LT.get : (t : LT) → P1 → Option t.den
  | .int, .int n => some n
  | .bool, .bool b => some b
  | .str, .str s => some s
  | .nat, .nat n => some n
  | .rows t, .rows t' l => if h : t' = t then some (h ▸ l) else none
  | _, _ => none

theorem LT.get_p1 {t : LT} {p : P1} {x : t.den} (h : t.get p = some x) : p = t.p1 x := by
  cases t <;> cases p <;> first
    | (simp only [LT.get] at h; cases h; done)
    | (simp only [LT.get] at h; cases h; rfl)
    | (simp only [LT.get] at h
       split at h
       · rename_i e
         subst e
         cases h
         rfl
       · cases h)

/-- What takes leaves. -/
def FT : List LT → Type → Type
  | [], R => R
  | t :: r, R => t.den → FT r R

def appP {R : Type} : (ts : List LT) → FT ts R → List P1 → Option R
  | [], f, [] => some f
  | t :: r, f, p :: ps => (t.get p).bind fun x => appP r (f x) ps
  | _, _, _ => none

def cur {R : Type} : (ts : List LT) → (List P1 → R) → FT ts R
  | [], f => f []
  | t :: r, f => fun x => cur r fun ps => f (t.p1 x :: ps)

def AllP : List LT → (List P1 → Prop) → Prop
  | [], f => f []
  | t :: r, f => ∀ x : t.den, AllP r fun ps => f (t.p1 x :: ps)

theorem appP_all {R : Type} : ∀ {ts : List LT} {f : FT ts R} {p : List P1} {x : R} {Q : List P1 → Prop}, appP ts f p = some x → AllP ts Q → Q p
  | [], f, [], x, Q, _, h => h
  | t :: r, f, p :: ps, x, Q, h, ha => by
    simp only [appP, Option.bind_eq_some_iff] at h
    obtain ⟨y, hy, h⟩ := h
    rw [LT.get_p1 hy]
    exact appP_all (Q := fun ps => Q (t.p1 y :: ps)) h (ha y)
  | [], _, _ :: _, _, _, h, _ => by simp [appP] at h
  | _ :: _, _, [], _, _, h, _ => by simp [appP] at h

theorem AllP.mono {Q Q' : List P1 → Prop} (h : ∀ p, Q p → Q' p) : ∀ {ts : List LT}, AllP ts Q → AllP ts Q' := by
  intro ts
  induction ts generalizing Q Q' with
  | nil => exact h []
  | cons t r ih => exact fun ha x => ih (fun ps => h (t.p1 x :: ps)) (ha x)

theorem cur_congr {R : Type} : ∀ {ts : List LT} {f g : List P1 → R}, AllP ts (fun p => f p = g p) → cur ts f = cur ts g
  | [], _, _, h => h
  | t :: r, f, g, h => funext fun x => cur_congr (ts := r) (f := fun ps => f (t.p1 x :: ps)) (g := fun ps => g (t.p1 x :: ps)) (h x)

/-- A shape of results. -/
structure RetS where
  lv : List LT
  rs : List SkD
  outs : List SkD := []

def RetS.mk1 (r : RetS) (p : List P1) : Res := match buildDs r.rs p with
  | some (ds, q) => match buildDs r.outs q with
    | some (os, _) => ⟨ds, os⟩
    | none => ⟨ds, []⟩
  | none => ⟨[], []⟩

/-- What takes the ways on. -/
def FK (α : Type) : List RetS → Type
  | [] => Option α
  | r :: rs => FT r.lv (Option α) → FK α rs

def feed : (rs : List RetS) → FK α rs → (Res → Option α) → Option α
  | [], f, _ => f
  | r :: rs, f, κ => feed rs (f (cur r.lv fun p => κ (r.mk1 p))) κ

def noK : (rs : List RetS) → FK α rs
  | [] => none
  | _ :: rs => fun _ => noK rs

theorem feed_noK : ∀ (rs : List RetS) (κ : Res → Option α), feed rs (noK rs) κ = none
  | [], _ => rfl
  | r :: rs, κ => feed_noK rs κ

structure Sig where
  sh : List SkD
  lv : List LT
  rets : List RetS

def Sig.ty (S : Sig) (α : Type) : Type := Nat → FT S.lv (FK α S.rets)

def callS (S : Sig) (F : S.ty α) (n : Nat) (p : List P1) (κ : Res → Option α) : Option α := (appP S.lv (F n) p).bind fun f => feed S.rets f κ

/-- A piece of a body: what it takes, and where it goes on. -/
structure PcS where
  lv : List LT
  outs : List (Nat × List LT)

def FB (α : Type) : List (Nat × List LT) → Type → Type
  | [], R => R
  | j :: js, R => FT j.2 (Option α) → FB α js R

def PcS.ty (L : PcS) (rets : List RetS) (α : Type) : Type := Nat → FT L.lv (FB α L.outs (FK α rets))

def feedB {R : Type} : (js : List (Nat × List LT)) → FB α js R → (Nat → List P1 → Option α) → R
  | [], f, _ => f
  | j :: js, f, brk => feedB js (f (cur j.2 fun p => brk j.1 p)) brk

def noB {R : Type} (x : R) : (js : List (Nat × List LT)) → FB α js R
  | [] => x
  | _ :: js => fun _ => noB x js

theorem feedB_noB {R : Type} (x : R) : ∀ (js : List (Nat × List LT)) (brk : Nat → List P1 → Option α), feedB js (noB x js) brk = x
  | [], _ => rfl
  | _ :: js, brk => feedB_noB x js brk

def callL (L : PcS) (rets : List RetS) (G : L.ty rets α) (n : Nat) (p : List P1) (brk : Nat → List P1 → Option α) (ret : Res → Option α) : Option α := (appP L.lv (G n) p).bind fun f => feed rets (feedB L.outs f brk) ret

def noF {R : Type} (x : R) : (ts : List LT) → FT ts R
  | [] => x
  | _ :: r => fun _ => noF x r

theorem appP_noF {R : Type} (x : R) : ∀ {ts : List LT} {p : List P1} {y : R}, appP ts (noF x ts) p = some y → y = x
  | [], [], y, h => (Option.some.inj h).symm
  | _ :: _, _ :: _, y, h => by
    simp only [appP, Option.bind_eq_some_iff] at h
    obtain ⟨_, _, h⟩ := h
    exact appP_noF x h
  | [], _ :: _, _, h => by simp [appP] at h
  | _ :: _, [], _, h => by simp [appP] at h

/-- No round is left. -/
def noL (L : PcS) (rets : List RetS) : FT L.lv (FB α L.outs (FK α rets)) := noF (noB (noK rets) L.outs) L.lv

theorem callL_noL {L : PcS} {rets : List RetS} {G : L.ty rets α} {n : Nat} (h : G n = noL L rets) (p : List P1) (brk : Nat → List P1 → Option α) (ret : Res → Option α) : callL L rets G n p brk ret = none := by
  unfold callL
  rw [h]
  cases hp : appP L.lv (noL L rets : FT L.lv (FB α L.outs (FK α rets))) p with
  | none => rfl
  | some f =>
    rw [appP_noF _ hp, Option.bind_some, feedB_noB, feed_noK]

/-- A loop. -/
def lpT (key : Nat) (t : Tpl) (L : PcS) (rets : List RetS) (G : L.ty rets α) : LoopT α := ⟨key, t, callL L rets G⟩

/-- A callee. -/
structure Ctr (α : Type) where
  f : FuncId
  S : Sig
  F : S.ty α

def Ctr.run (c : Ctr α) (n : Nat) : List D → (Res → Option α) → Option α := byShape c.S.sh (callS c.S c.F n)

def tabS (n : Nat) (f : FuncId) (ds : List D) (κ : Res → Option α) (l : List (Ctr α)) : Option α := match l with
  | [] => none
  | c :: r => bif Nat.beq c.f f then (match takeDs c.S.sh ds with
    | some p => callS c.S c.F n p κ
    | none => tabS n f ds κ r) else tabS n f ds κ r

theorem tabS_some {n : Nat} {f : FuncId} {ds : List D} {κ : Res → Option α} {r : α} : ∀ {l : List (Ctr α)}, tabS n f ds κ l = some r → ∃ c ∈ l, c.f = f ∧ c.run n ds κ = some r
  | [], h => by simp [tabS] at h
  | c :: l, h => by
    have tail : tabS n f ds κ l = some r → ∃ c' ∈ c :: l, c'.f = f ∧ c'.run n ds κ = some r := fun h => by
      obtain ⟨c', h1, h2⟩ := tabS_some h
      exact ⟨c', List.mem_cons_of_mem _ h1, h2⟩
    simp only [tabS] at h
    cases hb : Nat.beq c.f f with
    | false => rw [hb] at h; exact tail h
    | true =>
      rw [hb, cond_true] at h
      split at h
      · rename_i p hp
        exact ⟨c, List.mem_cons_self, beq_t hb, by unfold Ctr.run byShape; rw [hp]; exact h⟩
      · exact tail h

theorem tabS_good {n : Nat} {l : List (Ctr α)} (h : ∀ c ∈ l, ∀ n, GoodFn P c.f (c.run n)) : GoodC P fun f ds κ => tabS n f ds κ l := by
  intro f ⟨ds, κ, r, hk⟩
  obtain ⟨c, hc, rfl, _⟩ := tabS_some hk
  refine ⟨(h c hc n).enters, fun ds κ r hr => ?_⟩
  obtain ⟨c', hc', hf, hr'⟩ := tabS_some hr
  have := (h c' hc' n).runs ds κ r hr'
  rwa [hf] at this

/-- What a function is read in. -/
def ctxS (two : Bool) (M : FuncId → List Nat) (eqs : TypeId → Nat → Bool) (jt : Nat → Option Tpl) (cs : List (Ctr α)) (ls : List (LoopT α)) (n : Nat) : Ctx α := ⟨fun f ds κ => tabS n f ds κ cs, M, eqs, lpOf ls n, jt, two⟩

def dsOf (S : Sig) (p : List P1) : List D := ((buildDs S.sh p).map Prod.fst).getD []

def lend1 : SkD → Bool
  | .msl _ _ => true
  | .mptr _ _ => true
  | _ => false

def lends : List SkD → Bool
  | [] => false
  | s :: r => lend1 s || lends r

def lendX : D → Bool
  | .msl _ _ _ => true
  | .mptr _ _ => true
  | _ => false

theorem build_lend {s : SkD} {p q : List P1} {d : D} (h : buildD s p = some (d, q)) : lendX d = lend1 s := by
  cases s with
  | sl e t =>
    cases p with
    | nil => simp [buildD] at h
    | cons x p => cases x <;> simp only [buildD, reduceCtorEq] at h; split at h <;> simp only [Option.some.injEq, Prod.mk.injEq, reduceCtorEq] at h; obtain ⟨rfl, _⟩ := h; rfl
  | msl e t =>
    cases p with
    | nil => simp [buildD] at h
    | cons x p => cases x <;> simp only [buildD, reduceCtorEq] at h; split at h <;> simp only [Option.some.injEq, Prod.mk.injEq, reduceCtorEq] at h; obtain ⟨rfl, _⟩ := h; rfl
  | int k =>
    cases p with
    | nil => simp [buildD] at h
    | cons x p => cases x <;> simp [buildD] at h <;> (obtain ⟨h, _⟩ := h; subst h; rfl)
  | bool =>
    cases p with
    | nil => simp [buildD] at h
    | cons x p => cases x <;> simp [buildD] at h <;> (obtain ⟨h, _⟩ := h; subst h; rfl)
  | str =>
    cases p with
    | nil => simp [buildD] at h
    | cons x p => cases x <;> simp [buildD] at h <;> (obtain ⟨h, _⟩ := h; subst h; rfl)
  | nilsl => simp [buildD] at h; obtain ⟨h, _⟩ := h; subst h; rfl
  | nilptr => simp [buildD] at h; obtain ⟨h, _⟩ := h; subst h; rfl
  | same i => simp [buildD] at h; obtain ⟨h, _⟩ := h; subst h; rfl
  | keep => simp [buildD] at h; obtain ⟨h, _⟩ := h; subst h; rfl
  | agg l => simp only [buildD, Option.map_eq_some_iff, Prod.mk.injEq] at h; obtain ⟨_, _, rfl, _⟩ := h; rfl
  | slm e l => simp only [buildD, Option.map_eq_some_iff, Prod.mk.injEq] at h; obtain ⟨_, _, rfl, _⟩ := h; rfl
  | ptr e l => simp only [buildD, Option.map_eq_some_iff, Prod.mk.injEq] at h; obtain ⟨_, _, rfl, _⟩ := h; rfl
  | mptr e l => simp only [buildD, Option.map_eq_some_iff, Prod.mk.injEq] at h; obtain ⟨_, _, rfl, _⟩ := h; rfl
  | fn e l => simp only [buildD, Option.map_eq_some_iff, Prod.mk.injEq] at h; obtain ⟨_, _, rfl, _⟩ := h; rfl

theorem entry1_lend {n m : Nat} {d : D} {v : AV} {e : Ent} (h : entry1 n d = some (v, e, m)) (hl : lendX d = false) : e.lent = [] := by
  cases d with
  | msl => cases hl
  | mptr => cases hl
  | agg l => simp only [entry1, Option.map_eq_some_iff, Prod.mk.injEq] at h; obtain ⟨_, _, _, rfl, _⟩ := h; rfl
  | slm _ l => simp only [entry1, Option.map_eq_some_iff, Prod.mk.injEq] at h; obtain ⟨_, _, _, rfl, _⟩ := h; rfl
  | fn _ l => simp only [entry1, Option.map_eq_some_iff, Prod.mk.injEq] at h; obtain ⟨_, _, _, rfl, _⟩ := h; rfl
  | _ => simp only [entry1, Option.map_eq_some_iff, Prod.mk.injEq] at h; obtain ⟨_, _, _, rfl, _⟩ := h; rfl

/-- What is lent at the entry. -/
def lentOf (S : Sig) (p : List P1) : List (Bool × Nat × Blk) := bif lends S.sh then ((entry 0 (dsOf S p)).map fun x => x.2.lent).getD [] else []

/-- A function's reading. -/
def GenF (P : Program) (f : Func) (S : Sig) (X : Ctx α) (n : Nat) (B : S.ty α) : Prop := AllP S.lv fun p => ∀ κ : Res → Option α, evFn P X f (dsOf S p) κ = callS S B n p κ

def codeOf (f : Func) : Code := f.body.getD .skip

/-- A loop's reading. -/
def GenL (P : Program) (f : Func) (S : Sig) (X : Ctx α) (key : Nat) (t : Tpl) (L : PcS) (n : Nat) (G B : L.ty S.rets α) : Prop :=
  AllP (bif lends S.sh then S.lv else []) fun p0 => AllP L.lv fun p => ∀ (brk : Nat → List P1 → Option α) (ret : Res → Option α),
    ev (X.env P f S.sh.length (lentOf S p0)) (findLoop (loopsIn (codeOf f)) (key % 100000)) ((t.build p).getD ⟨[], []⟩) (roundK (S.sh.length * 64) t (fun q => callL L S.rets G n q brk ret) brk ret) = callL L S.rets B n p brk ret

def LoopFine (P : Program) (f : Func) (S : Sig) (X : Nat → Ctx α) (T : LoopT α) : Prop := (∀ p brk ret, T.run 0 p brk ret = none) ∧
  AllP (bif lends S.sh then S.lv else []) fun p0 => ∀ n p brk ret st r, T.tpl.build p = some st → T.run (n + 1) p brk ret = some r →
    ev ((X n).env P f S.sh.length (lentOf S p0)) (findLoop (loopsIn (codeOf f)) (T.key % 100000)) st (roundK (S.sh.length * 64) T.tpl (fun q => T.run n q brk ret) brk ret) = some r

theorem AllP.all {β : Sort u} : ∀ {ts : List LT} {Q : β → List P1 → Prop}, (∀ b, AllP ts (Q b)) → AllP ts fun p => ∀ b, Q b p
  | [], _, h => h
  | t :: _, Q, h => fun x => AllP.all (Q := fun b ps => Q b (t.p1 x :: ps)) fun b => h b x

theorem loop_fine {f : Func} {S : Sig} {X : Nat → Ctx α} {key : Nat} {t : Tpl} {L : PcS} {G B : L.ty S.rets α} (h0 : G 0 = noL L S.rets) (hB : ∀ n, B n = G (n + 1)) (hg : ∀ n, GenL P f S (X n) key t L n G B) : LoopFine P f S X (lpT key t L S.rets G) := by
  refine ⟨fun p brk ret => callL_noL h0 p brk ret, AllP.mono (fun p0 h n p brk ret st r hb hr => ?_) (AllP.all hg)⟩
  have hr' := hr
  have hcall : callL L S.rets B n p brk ret = callL L S.rets G (n + 1) p brk ret := by
    unfold callL
    rw [hB n]
  simp only [lpT, callL, Option.bind_eq_some_iff] at hr'
  obtain ⟨x, hx, _⟩ := hr'
  have := appP_all hx (h n) brk ret
  rw [tpl_of (show t.build p = some st from hb)] at this
  exact this.trans (hcall.trans hr)

theorem entry_lent {n : Nat} : ∀ {sh : List SkD} {p q : List P1} {ds : List D} {vs : List AV} {e : Ent}, lends sh = false → buildDs sh p = some (ds, q) → entry n ds = some (vs, e) → e.lent = [] := by
  intro sh
  induction sh generalizing n with
  | nil =>
    intro p q ds vs e _ hb he
    simp only [buildDs, Option.some.injEq, Prod.mk.injEq] at hb
    rw [← hb.1] at he
    simp only [entry, Option.some.injEq, Prod.mk.injEq] at he
    rw [← he.2]
  | cons s r ih =>
    intro p q ds vs e hl hb he
    simp only [lends, Bool.or_eq_false_iff] at hl
    simp only [buildDs, Option.bind_eq_some_iff, Option.map_eq_some_iff, Prod.mk.injEq] at hb
    obtain ⟨⟨d, p1⟩, hd, ⟨ds', p2⟩, hds, rfl, rfl⟩ := hb
    simp only [entry, Option.bind_eq_some_iff] at he
    obtain ⟨⟨v, e1, m⟩, h1, he⟩ := he
    obtain ⟨hm, he⟩ := ifB he
    simp only [Option.map_eq_some_iff, Prod.mk.injEq] at he
    obtain ⟨⟨vs', e'⟩, h2, rfl, rfl⟩ := he
    have hr := ih hl.2 hds h2
    simp [entry1_lend h1 ((build_lend hd).trans hl.1), hr]

theorem entry_len : ∀ {ds : List D} {n : Nat} {vs : List AV} {e : Ent}, entry n ds = some (vs, e) → vs.length = ds.length
  | [], n, vs, e, he => by
    simp only [entry, Option.some.injEq, Prod.mk.injEq] at he
    simp [← he.1]
  | d :: ds, n, vs, e, he => by
    simp only [entry, Option.bind_eq_some_iff] at he
    obtain ⟨⟨v, e1, m⟩, h1, he⟩ := he
    obtain ⟨hm, he⟩ := ifB he
    simp only [Option.map_eq_some_iff, Prod.mk.injEq] at he
    obtain ⟨⟨vs', e'⟩, h2, rfl, rfl⟩ := he
    simp [entry_len h2]

theorem build_len : ∀ {sh : List SkD} {p q : List P1} {ds : List D}, buildDs sh p = some (ds, q) → ds.length = sh.length
  | [], p, q, ds, hb => by
    simp only [buildDs, Option.some.injEq, Prod.mk.injEq] at hb
    simp [← hb.1]
  | s :: r, p, q, ds, hb => by
    simp only [buildDs, Option.bind_eq_some_iff, Option.map_eq_some_iff, Prod.mk.injEq] at hb
    obtain ⟨⟨d, p1⟩, hd, ⟨ds', p2⟩, hds, rfl, rfl⟩ := hb
    simp [build_len hds]

/-- A function by its reading: its callees and loops hold to theirs. -/
theorem good_of {f : FuncId} {fn : Func} (hf : P.funcs[f]? = some fn) (hb : fn.body.isSome = true) (hname : (fn.name == "runtime.NumGoroutine") = false) (hu : uniqK (loopsIn (codeOf fn)) = true)
    {M : FuncId → List Nat} {eqs : TypeId → Nat → Bool} {jt : Nat → Option Tpl} {two : Bool} (heq : EqOK P eqs) {cs : List (Ctr α)} {ls : List (LoopT α)} {S : Sig} {F B : S.ty α}
    (hg : ∀ n, GenF P fn S (ctxS two M eqs jt cs ls n) n B) (hB : B = F)
    (hc : ∀ c ∈ cs, ∀ n, GoodFn P c.f (c.run n)) (hl : ∀ T ∈ ls, LoopFine P fn S (ctxS two M eqs jt cs ls) T) : ∀ n, GoodFn P f (byShape S.sh (callS S F n)) := by
  subst hB
  obtain ⟨c, hbody⟩ := Option.isSome_iff_exists.1 hb
  have hcode : codeOf fn = c := by unfold codeOf; rw [hbody]; rfl
  rw [hcode] at hu
  refine fn_good' hf hbody hname hu (fun n f ds κ => tabS n f ds κ cs) M eqs ls jt two (fun n => tabS_good hc) heq (fun np lent => np = S.sh.length ∧ ∃ p0, lent = lentOf S p0 ∧ ∀ Q : List P1 → Prop, AllP (bif lends S.sh then S.lv else []) Q → Q p0) (fun T hT => (hl T hT).1) (fun T hT np lent hL n p brk ret st r h1 h2 => ?_) S.sh (callS S B) (fun n p κ r ds hd hr => ?_)
  · obtain ⟨rfl, p0, rfl, hp0⟩ := hL
    have := hp0 _ (hl T hT).2 n p brk ret st r h1 h2
    rw [hcode] at this
    exact this
  · have hr' := hr
    simp only [callS, Option.bind_eq_some_iff] at hr'
    obtain ⟨x, hx, _⟩ := hr'
    have hev := (appP_all hx (hg n) κ).trans hr
    have hds : dsOf S p = ds := ds_of hd
    rw [hds] at hev
    refine ⟨?_, hev⟩
    have hev2 := hev
    unfold evFn at hev2
    rw [hbody] at hev2
    simp only [Option.bind_eq_some_iff] at hev2
    obtain ⟨⟨vs, e⟩, he, _⟩ := hev2
    refine ⟨vs, e, he, (entry_len he).trans (build_len hd), ?_⟩
    cases hls : lends S.sh with
    | true =>
      refine ⟨p, ?_, fun Q hQ => appP_all hx hQ⟩
      unfold lentOf
      rw [hls, cond_true, hds, he]
      rfl
    | false =>
      refine ⟨[], ?_, fun Q hQ => hQ⟩
      unfold lentOf
      rw [hls, cond_false]
      exact entry_lent hls hd he

theorem callS_congr {S : Sig} {F G : S.ty α} {n m : Nat} (h : F n = G m) : callS S F n = callS S G m := by
  funext p κ
  unfold callS
  rw [h]

theorem callS_none {S : Sig} {F : S.ty α} {n : Nat} (h : F n = noF (noK S.rets) S.lv) (p : List P1) (κ : Res → Option α) : callS S F n p κ = none := by
  unfold callS
  rw [h]
  cases hp : appP S.lv (noF (noK S.rets) S.lv : FT S.lv (FK α S.rets)) p with
  | none => rfl
  | some f =>
    rw [appP_noF _ hp, Option.bind_some, feed_noK]

theorem good_none {f : FuncId} {fn : Func} (hf : P.funcs[f]? = some fn) (hb : fn.body.isSome = true) (hname : (fn.name == "runtime.NumGoroutine") = false) {S : Sig} {F : S.ty α} {n : Nat} (h : F n = noF (noK S.rets) S.lv) : GoodFn P f (byShape S.sh (callS S F n)) where
  enters := fun args w => by
    obtain ⟨c, hbody⟩ := Option.isSome_iff_exists.1 hb
    have hn : ¬ fn.name = "runtime.NumGoroutine" := by simpa using hname
    simp [callFunc, hf, hn, hbody]
  runs := fun ds κ r hr => by
    unfold byShape at hr
    rw [Option.bind_eq_some_iff] at hr
    obtain ⟨p, _, hr⟩ := hr
    rw [callS_none h] at hr
    cases hr

/-- A function that calls itself. -/
theorem good_rec {f : FuncId} {fn : Func} {M : FuncId → List Nat} {eqs : TypeId → Nat → Bool} {jt : Nat → Option Tpl} {two : Bool} {cs : List (Ctr α)} {ls : List (LoopT α)} {S : Sig} {F : S.ty α} {body : S.ty α → S.ty α}
    (hf : P.funcs[f]? = some fn) (hb : fn.body.isSome = true) (hname : (fn.name == "runtime.NumGoroutine") = false) (hu : uniqK (loopsIn (codeOf fn)) = true) (heq : EqOK P eqs)
    (hg : ∀ (F' : S.ty α) n, GenF P fn S (ctxS two M eqs jt (⟨f, S, F'⟩ :: cs) ls n) n (body F')) (h0 : F 0 = noF (noK S.rets) S.lv) (hs : ∀ n, F (n + 1) = body F n) (hr : ∀ (F' : S.ty α) n, F' n = F n → body F' n = body F n)
    (hc : ∀ c ∈ cs, ∀ n, GoodFn P c.f (c.run n)) (hl : ∀ (F' : S.ty α), ∀ T ∈ ls, LoopFine P fn S (ctxS two M eqs jt (⟨f, S, F'⟩ :: cs) ls) T) : ∀ n, GoodFn P f (byShape S.sh (callS S F n))
  | 0 => good_none hf hb hname h0
  | n + 1 => by
    have ih := good_rec hf hb hname hu heq hg h0 hs hr hc hl n
    let F' : S.ty α := fun m => if m = n then F n else noF (noK S.rets) S.lv
    have hF' : ∀ m, GoodFn P f (byShape S.sh (callS S F' m)) := fun m => by
      by_cases e : m = n
      · have : F' m = F n := if_pos e
        rw [callS_congr this]
        exact ih
      · exact good_none hf hb hname (if_neg e)
    have h1 := good_of hf hb hname hu heq (cs := ⟨f, S, F'⟩ :: cs) (hg F') rfl (List.forall_mem_cons.2 ⟨hF', hc⟩) (hl F') n
    rwa [callS_congr ((hr F' n (if_pos rfl)).trans (hs n).symm)] at h1

theorem allC {β : Type u} {Q : β → Prop} {a : β} {l : List β} (h : Q a) (t : ∀ b ∈ l, Q b) : ∀ b ∈ a :: l, Q b := List.forall_mem_cons.2 ⟨h, t⟩

theorem allN {β : Type u} {Q : β → Prop} : ∀ b ∈ ([] : List β), Q b := fun _ h => absurd h List.not_mem_nil

/-- So many unknown slots. -/
def anyN : Nat → List Sk → List Sk
  | 0, l => l
  | n + 1, l => .any :: anyN n l

/-- A loop's signature: it is left with what it takes. -/
def loopS (lv : List LT) (js : List Nat) : PcS := ⟨lv, js.map fun j => (j, lv)⟩

/-! ### a long body in pieces -/
/-- What goes on at a region, by what is known there. -/
def cutK (E : Env α) (κs : Nat → List P1 → Option α) (s : Nat) (st : St) : Option α := match E.jt s with
  | some t => (t.take E.low st).bind (κs s)
  | none => none

/-- From a region on. -/
noncomputable def pcK (E : Env α) (c : Code) (k : Out → Option α) (s : Nat) (p : List P1) : Option α := match E.jt s with
  | some t => (t.build p).bind (atReg E c k s)
  | none => none

/-- From a region on, to the next ones of a list. -/
noncomputable def pcX (E : Env α) (S : List Nat) (c : Code) (κs : Nat → List P1 → Option α) (k : Out → Option α) (s : Nat) (p : List P1) : Option α := match E.jt s with
  | some t => (t.build p).bind fun st => evRegion E (regOf s c).1 (regOf s c).2 st fun st => ctxX E S (cutK E κs) s c k (.normal st)
  | none => none

def allJ (jt : Nat → Option Tpl) : List Nat → Bool
  | [] => true
  | s :: r => (jt s).isSome && allJ jt r

theorem allJ_mem {jt : Nat → Option Tpl} : ∀ {S : List Nat} {s : Nat}, allJ jt S = true → memN s S = true → ∃ t, jt s = some t
  | [], _, _, h => by cases h
  | x :: r, s, h, hs => by
    simp only [allJ, Bool.and_eq_true] at h
    simp only [memN, Bool.or_eq_true] at hs
    rcases hs with hs | hs
    · have := beq_t hs
      subst this
      exact Option.isSome_iff_exists.1 h.1
    · exact allJ_mem h.2 hs

theorem pc_ok {E : Env α} {S : List Nat} {c : Code} {k : Out → Option α} (hj : allJ E.jt S = true) : AtOK E S (cutK E (pcK E c k)) c k := fun s hs _ st => by
  obtain ⟨t, ht⟩ := allJ_mem hj hs
  unfold cutK pcK normSt
  rw [ht]

theorem pc_all {E : Env α} {S : List Nat} {c : Code} {k : Out → Option α} (ho : onceC S c = true) (hj : allJ E.jt S = true) (st : St) : ev E c st k = evX E S (cutK E (pcK E c k)) c st k := evX_eq ho (pc_ok hj) st

theorem pc_eq {E : Env α} {S : List Nat} {c : Code} {k : Out → Option α} (ho : onceC S c = true) (hj : allJ E.jt S = true) (s : Nat) (p : List P1) : pcK E c k s p = pcX E S c (pcK E c k) k s p := by
  unfold pcX
  rw [← ctx_eq (S := S) ho (pc_ok hj)]
  rfl

/-- A function's body, left at the regions of a list. -/
noncomputable def evFnX (P : Program) (X : Ctx α) (f : Func) (np : Nat) (S : List Nat) (args : List D) (κs : Nat → List P1 → Option α) (k : Res → Option α) : Option α :=
  (entry 0 args).bind fun (vs, e) => evX (X.env P f np []) S (cutK (X.env P f np []) κs) (codeOf f) { slots := vs ++ List.replicate (f.ntmps - vs.length) .undef, heap := e.heap } (endK P f np [] k)

/-- A piece's reading. -/
def GenP (P : Program) (f : Func) (S : Sig) (X : Ctx α) (Z : List Nat) (s : Nat) (L : PcS) (n : Nat) (B : L.ty S.rets α) : Prop :=
  AllP L.lv fun p => ∀ (κs : Nat → List P1 → Option α) (κ : Res → Option α), pcX (X.env P f S.sh.length []) Z (codeOf f) κs (endK P f S.sh.length [] κ) s p = callL L S.rets B n p κs κ

/-- The first piece's. -/
def GenP0 (P : Program) (f : Func) (S : Sig) (X : Ctx α) (Z : List Nat) (L : PcS) (n : Nat) (B : L.ty S.rets α) : Prop :=
  AllP L.lv fun p => ∀ (κs : Nat → List P1 → Option α) (κ : Res → Option α), evFnX P X f S.sh.length Z (dsOf S p) κs κ = callL L S.rets B n p κs κ

/-- A piece with all that follows. -/
structure Pc (α : Type) (rets : List RetS) where
  s : Nat
  lv : List LT
  B : PcS.ty ⟨lv, []⟩ rets α

def noBr : Nat → List P1 → Option α := fun _ _ => none

def Pc.run {rets : List RetS} (c : Pc α rets) (n : Nat) (p : List P1) (κ : Res → Option α) : Option α := callL ⟨c.lv, []⟩ rets c.B n p noBr κ

def brkP {rets : List RetS} (n : Nat) (κ : Res → Option α) (s : Nat) (p : List P1) : List (Pc α rets) → Option α
  | [] => none
  | c :: r => bif Nat.beq c.s s then c.run n p κ else brkP n κ s p r

/-- A piece, with what follows, is told. -/
def PcOK (P : Program) (f : Func) (S : Sig) (X : Ctx α) (n : Nat) (c : Pc α S.rets) : Prop :=
  AllP c.lv fun p => ∀ κ : Res → Option α, pcK (X.env P f S.sh.length []) (codeOf f) (endK P f S.sh.length [] κ) c.s p = c.run n p κ

/-- The pieces of a list are joined. -/
def JoinP (rets : List RetS) (L : PcS) (n : Nat) (b : L.ty rets α) (B : PcS.ty ⟨L.lv, []⟩ rets α) (l : List (Pc α rets)) : Prop :=
  AllP L.lv fun p => ∀ κ : Res → Option α, callL L rets b n p (fun s p => brkP n κ s p l) κ = callL ⟨L.lv, []⟩ rets B n p noBr κ

theorem feedB_congr {R : Type} {brk brk' : Nat → List P1 → Option α} : ∀ {js : List (Nat × List LT)} {f : FB α js R}, (∀ j ∈ js, AllP j.2 fun p => brk j.1 p = brk' j.1 p) → feedB js f brk = feedB js f brk'
  | [], _, _ => rfl
  | j :: js, f, h => by
    simp only [feedB]
    rw [cur_congr (h j List.mem_cons_self)]
    exact feedB_congr fun j hj => h j (List.mem_cons_of_mem _ hj)

theorem callL_congr {L : PcS} {rets : List RetS} {G : L.ty rets α} {n : Nat} {p : List P1} {brk brk' : Nat → List P1 → Option α} {ret : Res → Option α} (h : ∀ j ∈ L.outs, AllP j.2 fun p => brk j.1 p = brk' j.1 p) : callL L rets G n p brk ret = callL L rets G n p brk' ret := by
  unfold callL
  congr 1
  funext f
  rw [feedB_congr h]

/-- What goes on at the pieces' ends. -/
def PcOuts (P : Program) (f : Func) (S : Sig) (X : Ctx α) (n : Nat) (l : List (Pc α S.rets)) (L : PcS) : Prop :=
  ∀ j ∈ L.outs, AllP j.2 fun p => ∀ κ : Res → Option α, pcK (X.env P f S.sh.length []) (codeOf f) (endK P f S.sh.length [] κ) j.1 p = brkP n κ j.1 p l

theorem AllP.and {Q Q' : List P1 → Prop} : ∀ {ts : List LT}, AllP ts Q → AllP ts Q' → AllP ts fun p => Q p ∧ Q' p := by
  intro ts
  induction ts generalizing Q Q' with
  | nil => exact fun h h' => ⟨h, h'⟩
  | cons t r ih => exact fun h h' x => ih (h x) (h' x)

theorem piece_ok {f : Func} {S : Sig} {X : Ctx α} {Z : List Nat} {s n : Nat} {L : PcS} {b : L.ty S.rets α} {B B' : PcS.ty ⟨L.lv, []⟩ S.rets α} {l : List (Pc α S.rets)} (ho : onceC Z (codeOf f) = true) (hj : allJ X.jt Z = true)
    (hg : GenP P f S X Z s L n b) (hJ : JoinP S.rets L n b B' l) (hB : B' = B) (hl : PcOuts P f S X n l L) : PcOK P f S X n ⟨s, L.lv, B⟩ := by
  subst hB
  refine AllP.mono (fun p h κ => ?_) (AllP.and hg hJ)
  rw [pc_eq ho (by exact hj), h.1, callL_congr (brk' := fun s p => brkP n κ s p l) fun j hj => AllP.mono (fun p h => h κ) (hl j hj)]
  exact h.2 κ

theorem pieces_gen {f : Func} {S : Sig} {X : Ctx α} {Z : List Nat} {n : Nat} {L : PcS} {b : L.ty S.rets α} {B : S.ty α} {B' : PcS.ty ⟨L.lv, []⟩ S.rets α} {l : List (Pc α S.rets)} (ho : onceC Z (codeOf f) = true) (hj : allJ X.jt Z = true) (hsome : f.body.isSome = true) (hls : lends S.sh = false) (hlv : L.lv = S.lv) (hbd : AllP L.lv fun p => (buildDs S.sh p).isSome = true)
    (hg : GenP0 P f S X Z L n b) (hJ : JoinP S.rets L n b B' l) (hB : ∀ p κ, callL ⟨L.lv, []⟩ S.rets B' n p noBr κ = callS S B n p κ) (hl : PcOuts P f S X n l L) : GenF P f S X n B := by
  unfold GenF
  rw [← hlv]
  refine AllP.mono (fun p h κ => ?_) (AllP.and hbd (AllP.and hg hJ))
  rw [← hB, ← h.2.2 κ, ← callL_congr (brk' := fun s p => brkP n κ s p l) fun j hj => AllP.mono (fun p h => h κ) (hl j hj), ← h.2.1]
  obtain ⟨c, hbody⟩ := Option.isSome_iff_exists.1 hsome
  have hcode : codeOf f = c := by unfold codeOf; rw [hbody]; rfl
  obtain ⟨⟨ds, q⟩, hd⟩ := Option.isSome_iff_exists.1 h.1
  have hds : dsOf S p = ds := ds_of hd
  unfold evFn evFnX
  rw [hbody, hds]
  cases hx : entry 0 ds with
  | none => rfl
  | some x =>
    obtain ⟨vs, e⟩ := x
    simp only [Option.bind_some]
    have h1 : vs.length = S.sh.length := (entry_len hx).trans (build_len hd)
    have h2 := entry_lent hls hd hx
    rw [h1, h2, ← pc_all ho (by exact hj), hcode]
    rfl

end Go.Ev
