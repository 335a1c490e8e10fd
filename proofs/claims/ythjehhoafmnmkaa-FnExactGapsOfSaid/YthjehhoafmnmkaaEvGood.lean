/- Functions, by their contracts: tables, loops, the whole. -/
import Derived.Test.YthjehhoafmnmkaaEvRes
namespace Go.Ev
open Go.RowKit
variable {α : Type} {P : Program}
section
variable [Inhabited az]
theorem afc {F : Fix} {L : LM} {st : St} {a : Act} {w : World} (h : RelL F L st a w) {gone u I u' : List Nat} (ht : Took L st gone u I u') : (ak L I).Nodup ∧ ∀ g ∈ ak L I, F.N ≤ g ∨ ∃ id l, id ∈ gone ∧ L id = some l ∧ l.backed = true ∧ l.size ≠ 0 ∧ l.b = g := by
 refine ⟨Ky h (fun id hid => ?_) ht.nodup, fun g hg => ?_⟩
 ·obtain ⟨b, hb, hm⟩ := ht.own id hid
  exact ⟨b, hb, by omega⟩
 ·obtain ⟨id, l, hid, hL, hbk, rfl⟩ := xW hg
  obtain ⟨b, hb, hm⟩ := ht.own id hid
  obtain ⟨l2, hl2, hbl⟩ := h.heap id b hb
  rw [hL] at hl2
  have := Option.some.inj hl2
  subst this
  rcases hm with hm | ⟨_, hg, hs⟩
  ·exact .inl (hbl.m2 hbk hm)
  ·exact .inr ⟨id, l, hg, hL, hbk, (hs l hL).2, rfl⟩
end
theorem aaI {ds : List D} {vs : List Value} {os : List D} {e : TypeId} {t : Ty} {l : List t.den} {v : Value} {o : D} {g : Nat} (h : g ∈ qJ ds vs os) : g ∈ qJ (.msl e t l :: ds) (v :: vs) (o :: os) := by
 simp only [qJ]
 split
 ·exact List.mem_cons_of_mem _ h
 ·exact h
theorem Wx {sl : List AV} {rs : List ResultVar} : ∀ {lent : List (Bool × Nat × Blk)} {id : Nat}, id ∈ GZ sl rs lent → ∃ b, (true, id, b) ∈ lent
 | [], id, h => by simp [GZ] at h
 | (s, i, b) :: r, id, h => by
   simp only [GZ] at h
   cases hc : (s && rs.any (aiF sl i)) with
   | true =>
     rw [hc, cond_true] at h
     simp only [Bool.and_eq_true] at hc
     rcases List.mem_cons.1 h with rfl | h
     ·exact ⟨b, by rw [hc.1]; exact List.mem_cons_self⟩
     ·obtain ⟨c, hc⟩ := Wx h
      exact ⟨c, List.mem_cons_of_mem _ hc⟩
   | false =>
     rw [hc, cond_false] at h
     obtain ⟨c, hc⟩ := Wx h
     exact ⟨c, List.mem_cons_of_mem _ hc⟩
theorem MZ {w : World} {L0 : LM} : ∀ {ds : List D} {vs : List Value} {lent : List (Bool × Nat × Blk)} {ν : List Nat} {x : Bool × Nat × Blk}, dJ w L0 ds vs lent ν → x ∈ lent → ∃ lc, L0 x.2.1 = some lc
 | [], [], [], [], x, _, h => by simp at h
 | d :: ds, v :: vs, lent, ν, x, hl, h => by
   cases d with
   | msl e t l =>
     match lent, hl, h with
     | (s, id, b0) :: r, hl, h =>
       simp only [dJ] at hl
       obtain ⟨_, _, lc, h1, _, _, hl⟩ := hl
       rcases List.mem_cons.1 h with rfl | h
       ·exact ⟨lc, h1⟩
       ·rcases hl with ⟨μ', _, _, _, _, _, _, _, _, hh⟩ | ⟨_, _, hh⟩
        ·exact MZ hh h
        ·exact MZ hh h
     | [], hl, _ => simp [dJ] at hl
   | mptr e l =>
     match lent, hl, h with
     | (s, id, b0) :: r, hl, h =>
       simp only [dJ] at hl
       obtain ⟨_, lc, μ', xs, cur, h1, _, _, _, _, _, _, _, _, _, _, _, hl'⟩ := hl
       rcases List.mem_cons.1 h with rfl | h
       ·exact ⟨lc, h1⟩
       ·exact MZ hl' h
     | [], hl, _ => simp [dJ] at hl
   | _ =>
     simp only [dJ] at hl
     exact MZ hl h
 | [], _ :: _, _, _, _, hl, _ => by simp [dJ] at hl
 | [], [], _ :: _, _, _, hl, _ => by simp [dJ] at hl
 | [], [], [], _ :: _, _, hl, _ => by simp [dJ] at hl
 | d :: ds, [], lent, ν, _, hl, _ => by cases d <;> cases lent <;> simp [dJ] at hl
theorem XW {w w' : World} {L0 : LM} {gone : List Nat} : ∀ {ds : List D} {vs : List Value} {lent : List (Bool × Nat × Blk)} {ν : List Nat} {os : List D}, dJ w L0 ds vs lent ν → jJ w w' ds vs os →
 jJ w w' ds vs (Rq gone lent os) ∧ ∀ id lc b, id ∈ gone → (true, id, b) ∈ lent → L0 id = some lc → lc.backed = true → lc.size ≠ 0 → lc.b ∈ qJ ds vs (Rq gone lent os)
 | [], [], [], [], os, _, ho => ⟨by simpa [Rq] using ho, fun _ _ _ _ h => by simp at h⟩
 | d :: ds, v :: vs, lent, ν, os, hl, ho => by
   cases d with
   | msl e t l =>
     match lent, os, hl, ho with
     | (s, id, b0) :: r, o :: os, hl, ho =>
       simp only [dJ] at hl
       obtain ⟨rfl, rfl, lc, h1, h2, h3, hl⟩ := hl
       simp only [jJ] at ho
       obtain ⟨ho1, ho2⟩ := ho
       obtain ⟨ν', hl'⟩ : ∃ ν', dJ w L0 ds vs r ν' := by
        rcases hl with ⟨μ', _, _, _, _, _, _, _, _, h⟩ | ⟨_, _, h⟩
        ·exact ⟨μ', h⟩
        ·exact ⟨_, h⟩
       obtain ⟨k1, k2⟩ := XW (gone := gone) hl' ho2
       simp only [Rq, Bool.true_and]
       cases hm : memN id gone with
       | true =>
         rw [cond_true]
         simp only [jJ]
         refine ⟨⟨.inl trivial, k1⟩, fun i lc' b hi hmem hL hbk hsz => ?_⟩
         rcases List.mem_cons.1 hmem with he | hmem
         ·injection he with _ he
          injection he with he _
          subst he
          rw [h1] at hL
          have := Option.some.inj hL
          subst this
          rcases hl with ⟨μ', cap, cur, _, _, rfl, _, k5, kc, _⟩ | ⟨hnb, _⟩
          ·obtain ⟨c, rfl⟩ : ∃ c, cap = c + 1 := by
            cases cap with
            | zero => exact absurd (by rw [k5, kc]; simp) hsz
            | succ c => exact ⟨c, rfl⟩
           simp [qJ]
          ·rw [hnb] at hbk; cases hbk
         ·exact aaI (k2 i lc' b hi hmem hL hbk hsz)
       | false =>
         rw [cond_false]
         simp only [jJ]
         refine ⟨⟨ho1, k1⟩, fun i lc' b hi hmem hL hbk hsz => ?_⟩
         rcases List.mem_cons.1 hmem with he | hmem
         ·injection he with _ he
          injection he with he _
          subst he
          exact absurd hi (kz hm)
         ·exact aaI (k2 i lc' b hi hmem hL hbk hsz)
     | (_, _, _) :: _, [], _, ho => simp [jJ] at ho
     | [], _, hl, _ => simp [dJ] at hl
   | mptr e l =>
     match lent, os, hl, ho with
     | (s, id, b0) :: r, o :: os, hl, ho =>
       simp only [dJ] at hl
       obtain ⟨rfl, lc, μ', xs, cur, _, _, _, _, _, _, _, _, _, _, _, _, hl'⟩ := hl
       simp only [jJ] at ho
       obtain ⟨ho1, ho2⟩ := ho
       obtain ⟨k1, k2⟩ := XW (gone := gone) hl' ho2
       simp only [Rq, Bool.false_and, cond_false, jJ, qJ]
       refine ⟨⟨ho1, k1⟩, fun i lc' b hi hmem hL hbk hsz => ?_⟩
       rcases List.mem_cons.1 hmem with he | hmem
       ·injection he with he _
        cases he
       ·exact k2 i lc' b hi hmem hL hbk hsz
     | (_, _, _) :: _, [], _, ho => simp [jJ] at ho
     | [], _, hl, _ => simp [dJ] at hl
   | _ =>
     simp only [dJ] at hl
     simp only [jJ] at ho
     simp only [jJ, qJ]
     exact XW hl ho
 | [], _ :: _, _, _, _, hl, _ => by simp [dJ] at hl
 | [], [], _ :: _, _, _, hl, _ => by simp [dJ] at hl
 | [], [], [], _ :: _, _, hl, _ => by simp [dJ] at hl
 | d :: ds, [], lent, ν, _, hl, _ => by cases d <;> cases lent <;> simp [dJ] at hl
theorem ahV (vs : Array Value) (n i : Nat) : (vs ++ Array.replicate n undef).getD i undef = vs.getD i undef := by
 simp only [Array.getD_eq_getD_getElem?, Array.getElem?_append]
 split
 ·rfl
 ·rename_i h
  rw [Array.getElem?_eq_none (xs := vs) (by omega), Array.getElem?_replicate]
  split <;> rfl
section
variable [Inhabited az]
theorem ai9 {f : FuncId} {fn : Func} {c : Code} (hf : P.funcs[f]? = some fn) (hb : fn.body = some c) (hname : (fn.name == "runtime.NumGoroutine") = false)
 {X : Ctx α} (hC : Rx P X.C) (heq : EqOK P X.eqs) (hbld : Rk P X.two) (S : List D → (Res → Option α) → Option α) (Lt : Nat → List (Bool × Nat × Blk) → Prop)
 (hS : ∀ ds κ r, S ds κ = some r → (∃ vs e, entry 0 ds = some (vs, e) ∧ Lt vs.length e.lent) ∧ evFn P X fn ds κ = some r)
 (hl : ∀ F R np lent, Lt np lent → BX F (X.env P fn np lent) R → vz F R (X.env P fn np lent) c) : iw P f S where
 enters := fun args w => by
  have hn : ¬ fn.name = "runtime.NumGoroutine" := by simpa using hname
  simp [callFunc, hf, hn, hb]
 runs := fun ds κ r hk => by
  obtain ⟨⟨vs0, e0, hent, hLt⟩, hev⟩ := hS ds κ r hk
  simp only [evFn, hb] at hev
  rw [Option.bind_eq_some_iff] at hev
  obtain ⟨⟨xs, e⟩, hent', hev⟩ := hev
  rw [hent] at hent'
  have := Option.some.inj hent'
  injection this with h1 h2
  subst h1 h2
  simp only at hev
  intro w vs μ hin hnd
  refine calls_of_wp hf hb ?_
  obtain ⟨L0, n', hE, hn', hV, hlent, hpar⟩ := ac9 hent hin (fun g hg => hg) hnd
  have hvl := bz hV
  let F : Fix := { w0 := w, μ := μ, L0 := L0, low := vs0.length * 64 }
  have hμ : ∀ g ∈ μ, g < w.heap.size := by
   have key : ∀ {ds : List D} {vs : List Value} {μ' : List Nat} {bad : Nat → Prop}, iJ w bad ds vs μ' → ∀ g ∈ μ', g < w.heap.size := by
    intro ds
    induction ds with
    | nil =>
      intro vs μ' bad h g hg
      match vs, μ', h with
      | [], [], _ => simp at hg
      | [], _ :: _, h => simp [iJ] at h
      | _ :: _, _, h => simp [iJ] at h
    | cons d ds ih =>
      intro vs μ' bad h g hg
      cases vs with
      | nil => cases d <;> simp [iJ] at h
      | cons v vs =>
        cases d with
        | msl e t l =>
          simp only [iJ] at h
          rcases h with ⟨g', μ2, rfl, ⟨cap, cur, _, hc, _⟩, h⟩ | ⟨_, _, h⟩
          ·rcases List.mem_cons.1 hg with rfl | hg
           ·exact tK hc
           ·exact ih h g hg
          ·exact ih h g hg
        | mptr e l =>
          simp only [iJ] at h
          obtain ⟨g', μ2, rfl, ⟨cur, _, hc, _⟩, h⟩ := h
          rcases List.mem_cons.1 hg with rfl | hg
          ·exact tK hc
          ·exact ih h g hg
        | _ => simp only [iJ] at h; exact ih h.2 g hg
   exact key hin
  have hrel0 : RelL F L0 { slots := vs0 ++ List.replicate (fn.ntmps - vs0.length) .undef, heap := e0.heap } { tmps := vs ++ Array.replicate (fn.ntmps - vs.size) undef, defers := [] } w := by
   refine ⟨by simp [hvl], fun i av hi => ?_, hE.blk, fun i j b c' l m hi hj hl hm hne hbl hbm h1 h2 => hE.inj i j l m hl hm hne hbl hbm h1 h2, rfl, Step.refl _ _, hμ, fun id _ => rfl, hE.mode, (adw hent).ok⟩
   rw [List.getElem?_append] at hi
   rw [ahV]
   split at hi
   ·obtain ⟨u, hu, hVu⟩ := gK i hV hi
    rw [Array.getD_eq_getD_getElem?]
    rw [Array.getElem?_toList] at hu
    rw [hu]
    exact hVu
   ·rw [List.getElem?_replicate] at hi
    split at hi
    ·have := Option.some.inj hi
     subst this
     simp [V]
    ·simp at hi
  let R : Res → Act → World → Prop := fun res a w' => a.defers = [] ∧ ∃ v, (results fn a.tmps).run P w' = .ok v w' ∧ adK w w' μ ds vs.toList res v
  have hres : ∀ (st : St) (a : Act) (w' : World) (k : Res → Option α) (r : α), acy P fn vs0.length e0.lent st k = some r → Rel F st a w' → ∃ rr, k rr = some r ∧ R rr a w' := by
   intro st a w' k r hk ⟨L, hr⟩
   unfold acy at hk
   rw [Option.bind_eq_some_iff] at hk
   obtain ⟨os, hos, hk⟩ := hk
   have hbase : ∀ id l, L0 id = some l → L id = some l := fun id l hl => by
    rw [hr.base id (by have := hE.dom id l hl; show id < vs0.length * 64; omega)]
    exact hl
   obtain ⟨ho1, ho2⟩ := Qq hr hbase hlent hos
   obtain ⟨rs, vals, I, u', hk, hrun, htook, hdo⟩ := RY hr (np := vs0.length) rfl (args := vs.toList) hpar hk
   obtain ⟨hn1, hn2⟩ := afc hr htook
   obtain ⟨hk1, hk2⟩ := XW (gone := GZ st.slots fn.results.toList e0.lent) hlent ho1
   refine ⟨_, hk, hr.defers, tupV vals, adO fn a.tmps hrun, ⟨hr.below, ho2, hk1, vals, _, rfl, hdo, hn1, fun g hg => ?_⟩⟩
   rcases hn2 g hg with hh | ⟨id, l, hid, hL, hbk, hsz, rfl⟩
   ·exact .inl hh
   ·obtain ⟨b, hb⟩ := Wx hid
    obtain ⟨lc, hlc⟩ := MZ hlent hb
    have := hbase id lc hlc
    rw [hL] at this
    have := Option.some.inj this
    subst this
    exact .inr (hk2 id l b hid hb hlc hbk hsz)
  have hEnv : BX F (X.env P fn vs0.length e0.lent) R := ⟨hC, heq, rfl, hbld, hres⟩
  have hwp := KX hEnv c (hl F R _ _ hLt hEnv) hev ⟨L0, hrel0⟩
  refine wp_mono hwp fun ex a w' ⟨out, ho, hro⟩ => ?_
  cases out with
  | normal st' =>
    cases ex <;> simp only [pX] at hro
    obtain ⟨rr, hkr, hd, v, hrv, hpost⟩ := hres _ _ _ _ _ ho hro
    exact ⟨hd, v, hrv, v, rr, rfl, hkr, hpost⟩
  | exit j st' => simp at ho
  | ret rr =>
    cases ex <;> simp only [pX] at hro
    obtain ⟨hd, v, hrv, hpost⟩ := hro
    exact ⟨hd, v, hrv, v, rr, rfl, ho, hpost⟩
end
end Go.Ev
