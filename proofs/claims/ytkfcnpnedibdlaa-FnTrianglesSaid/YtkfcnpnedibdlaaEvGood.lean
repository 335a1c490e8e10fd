/- Functions, by their contracts: tables, loops, the whole. -/
import Derived.Test.YtkfcnpnedibdlaaEvRes
namespace Go.Ev
open Go.RowKit

variable {α : Type} {P : Program}

theorem nodup_took {F : Fix} {L : LM} {st : St} {a : Act} {w : World} (h : RelL F L st a w) {u I u' : List Nat} (ht : Took st u I u') : (lentBlocks L I).Nodup ∧ ∀ g ∈ lentBlocks L I, F.N ≤ g := by
  refine ⟨lent_nodup h (fun id hid => ?_) ht.nodup, fun g hg => ?_⟩
  · obtain ⟨b, hb, hm⟩ := ht.own id hid
    exact ⟨b, hb, by omega⟩
  · obtain ⟨id, l, hid, hL, hbk, rfl⟩ := mem_lent hg
    obtain ⟨b, hb, hm⟩ := ht.own id hid
    obtain ⟨l2, hl2, hbl⟩ := h.heap id b hb
    rw [hL] at hl2
    have := Option.some.inj hl2
    subst this
    exact hbl.m2 hbk hm

theorem tmps_get (vs : Array Value) (n i : Nat) : (vs ++ Array.replicate n undef).getD i undef = vs.getD i undef := by
  simp only [Array.getD_eq_getD_getElem?, Array.getElem?_append]
  split
  · rfl
  · rename_i h
    rw [Array.getElem?_eq_none (xs := vs) (by omega), Array.getElem?_replicate]
    split <;> rfl

/-- A function, by its code. -/
theorem fn_good {f : FuncId} {fn : Func} {c : Code} (hf : P.funcs[f]? = some fn) (hb : fn.body = some c) (hname : (fn.name == "runtime.NumGoroutine") = false)
    {X : Ctx α} (hC : GoodC P X.C) (heq : EqOK P X.eqs) (S : List D → (Res → Option α) → Option α) (Lt : Nat → List (Bool × Nat × Blk) → Prop)
    (hS : ∀ ds κ r, S ds κ = some r → (∃ vs e, entry 0 ds = some (vs, e) ∧ Lt vs.length e.lent) ∧ evFn P X fn ds κ = some r)
    (hl : ∀ F R np lent, Lt np lent → EnvOK F (X.env P fn np lent) R → LoopsOK F R (X.env P fn np lent) c) : GoodFn P f S where
  enters := fun args w => by
    have hn : ¬ fn.name = "runtime.NumGoroutine" := by simpa using hname
    simp [callFunc, hf, hn, hb]
  runs := fun ds κ r hk => by
    obtain ⟨⟨vs0, e0, hent, hLt⟩, hev⟩ := hS ds κ r hk
    simp only [evFn, hb] at hev
    rw [Option.bind_eq_some_iff] at hev
    obtain ⟨⟨xs, e⟩, hent', hev⟩ := hev
    rw [hent] at hent'
    have := Option.some.inj hent'
    injection this with h1 h2
    subst h1 h2
    simp only at hev
    -- what is fixed for a call
    intro w vs μ hin hnd
    refine calls_of_wp hf hb ?_
    obtain ⟨L0, n', hE, hn', hV, hlent, hpar⟩ := entry_ok hent hin (fun g hg => hg) hnd
    have hvl := VAll_length hV
    let F : Fix := { w0 := w, μ := μ, L0 := L0, low := vs0.length * 64 }
    have hμ : ∀ g ∈ μ, g < w.heap.size := by
      have key : ∀ {ds : List D} {vs : List Value} {μ' : List Nat} {bad : Nat → Prop}, ArgsIn w bad ds vs μ' → ∀ g ∈ μ', g < w.heap.size := by
        intro ds
        induction ds with
        | nil =>
          intro vs μ' bad h g hg
          match vs, μ', h with
          | [], [], _ => simp at hg
          | [], _ :: _, h => simp [ArgsIn] at h
          | _ :: _, _, h => simp [ArgsIn] at h
        | cons d ds ih =>
          intro vs μ' bad h g hg
          cases vs with
          | nil => cases d <;> simp [ArgsIn] at h
          | cons v vs =>
            cases d with
            | msl e t l =>
              simp only [ArgsIn] at h
              rcases h with ⟨g', μ2, rfl, ⟨cap, cur, _, hc, _⟩, h⟩ | ⟨_, _, h⟩
              · rcases List.mem_cons.1 hg with rfl | hg
                · exact heap_lt hc
                · exact ih h g hg
              · exact ih h g hg
            | mptr e l =>
              simp only [ArgsIn] at h
              obtain ⟨g', μ2, rfl, ⟨cur, _, hc, _⟩, h⟩ := h
              rcases List.mem_cons.1 hg with rfl | hg
              · exact heap_lt hc
              · exact ih h g hg
            | _ => simp only [ArgsIn] at h; exact ih h.2 g hg
      exact key hin
    have hrel0 : RelL F L0 { slots := vs0 ++ List.replicate (fn.ntmps - vs0.length) .undef, heap := e0.heap } { tmps := vs ++ Array.replicate (fn.ntmps - vs.size) undef, defers := [] } w := by
      refine ⟨by simp [hvl], fun i av hi => ?_, hE.blk, fun i j b c' l m hi hj hl hm hne hbl hbm h1 h2 => hE.inj i j l m hl hm hne hbl hbm h1 h2, rfl, Step.refl _ _, hμ, fun id _ => rfl, hE.mode⟩
      rw [List.getElem?_append] at hi
      rw [tmps_get]
      split at hi
      · obtain ⟨u, hu, hVu⟩ := VAll_get i hV hi
        rw [Array.getD_eq_getD_getElem?]
        rw [Array.getElem?_toList] at hu
        rw [hu]
        exact hVu
      · rw [List.getElem?_replicate] at hi
        split at hi
        · have := Option.some.inj hi
          subst this
          simp [V]
        · simp at hi
    let R : Res → Act → World → Prop := fun res a w' => a.defers = [] ∧ ∃ v, (results fn a.tmps).run P w' = .ok v w' ∧ PostOK w w' μ ds vs.toList res v
    have hres : ∀ (st : St) (a : Act) (w' : World) (k : Res → Option α) (r : α), resOf P fn vs0.length e0.lent st k = some r → Rel F st a w' → ∃ rr, k rr = some r ∧ R rr a w' := by
      intro st a w' k r hk ⟨L, hr⟩
      unfold resOf at hk
      rw [Option.bind_eq_some_iff] at hk
      obtain ⟨os, hos, hk⟩ := hk
      have hbase : ∀ id l, L0 id = some l → L id = some l := fun id l hl => by
        rw [hr.base id (by have := hE.dom id l hl; show id < vs0.length * 64; omega)]
        exact hl
      obtain ⟨ho1, ho2⟩ := outs_ok hr hbase hlent hos
      obtain ⟨rs, vals, I, u', hk, hrun, htook, hdo⟩ := readRes_ok hr (np := vs0.length) rfl (args := vs.toList) hpar hk
      obtain ⟨hn1, hn2⟩ := nodup_took hr htook
      exact ⟨_, hk, hr.defers, tupV vals, run_results fn a.tmps hrun, ⟨hr.below, ho2, ho1, vals, _, rfl, hdo, hn1, hn2⟩⟩
    have hEnv : EnvOK F (X.env P fn vs0.length e0.lent) R := ⟨hC, heq, rfl, hres⟩
    have hwp := ev_ok hEnv c (hl F R _ _ hLt hEnv) hev ⟨L0, hrel0⟩
    refine wp_mono hwp fun ex a w' ⟨out, ho, hro⟩ => ?_
    cases out with
    | normal st' =>
      cases ex <;> simp only [OutRel] at hro
      obtain ⟨rr, hkr, hd, v, hrv, hpost⟩ := hres _ _ _ _ _ ho hro
      exact ⟨hd, v, hrv, v, rr, rfl, hkr, hpost⟩
    | exit j st' => simp at ho
    | ret rr =>
      cases ex <;> simp only [OutRel] at hro
      obtain ⟨hd, v, hrv, hpost⟩ := hro
      exact ⟨hd, v, hrv, v, rr, rfl, ho, hpost⟩

end Go.Ev
