/- A function, to its end: what was lent, and its results. -/
import Derived.Test.YthjehhoafmnmkaaEvFn
namespace Go.Ev
open Go.RowKit
variable {α : Type} {P : Program} {w w' : World} {μ : List Nat} {F : Fix} {L L' : LM} {st : St} {a : Act}
theorem aak {b : Nat} : ∀ {xs : List AV} {ds : List D} {o : Nat}, mQ xs = some ds → (∀ (i : Nat) (av : AV), xs[i]? = some av → ∃ v, w'.cell? ⟨b, o + i, none⟩ = some v ∧ V L av v ∧ v.oneCell' = true) → sV w w' b o ds
 | [], ds, o, h, _ => by simp only [mQ, Option.some.injEq] at h; subst h; simp [sV]
 | x :: r, ds, o, h, hc => by
   simp only [mQ, Option.bind_eq_some_iff, Option.map_eq_some_iff] at h
   obtain ⟨d, hd, es, hes, rfl⟩ := h
   simp only [sV]
   refine ⟨?_, aak hes fun i av hi => ?_⟩
   ·obtain ⟨u, h1, h2, _⟩ := FX hd
    obtain ⟨v, k1, k2, _⟩ := hc 0 x rfl
    rw [(sZ h1).1 k2] at k1
    exact .inr ⟨u, h2, by simpa using k1⟩
   ·have := hc (i + 1) av (by simpa using hi)
    rwa [show o + (i + 1) = o + 1 + i by omega] at this
theorem Sj {b : Nat} : ∀ {l0 xs : List AV} {ds : List D} {o : Nat}, zK l0 xs = some ds →
 (∀ (i j : Nat), l0[i]? = some (.sl j) → ∃ lj v0, L j = some lj ∧ lj.mode = 0 ∧ w.cell? ⟨b, o + i, none⟩ = some v0 ∧ lj.val = v0) →
 (∀ (i : Nat) (av : AV), xs[i]? = some av → ∃ v, w'.cell? ⟨b, o + i, none⟩ = some v ∧ V L av v ∧ v.oneCell' = true) → sV w w' b o ds ∧ ds.length = l0.length
 | [], [], ds, o, h, _, _ => by simp only [zK, Option.some.injEq] at h; subst h; simp [sV]
 | v :: vs, u :: us, ds, o, h, h0, hc => by
   have h0' : ∀ (i j : Nat), vs[i]? = some (.sl j) → ∃ lj v0, L j = some lj ∧ lj.mode = 0 ∧ w.cell? ⟨b, o + 1 + i, none⟩ = some v0 ∧ lj.val = v0 := fun i j hi => by
    have := h0 (i + 1) j (by simpa using hi)
    rwa [show o + (i + 1) = o + 1 + i by omega] at this
   have hc' : ∀ (i : Nat) (av : AV), us[i]? = some av → ∃ v, w'.cell? ⟨b, o + 1 + i, none⟩ = some v ∧ V L av v ∧ v.oneCell' = true := fun i av hi => by
    have := hc (i + 1) av (by simpa using hi)
    rwa [show o + (i + 1) = o + 1 + i by omega] at this
   simp only [zK] at h
   split at h
   ·rename_i i j
    obtain ⟨hij, h⟩ := ifB h
    have hij := ay hij
    rw [Option.map_eq_some_iff] at h
    obtain ⟨es, hes, rfl⟩ := h
    obtain ⟨k1, k2⟩ := Sj hes h0' hc'
    simp only [sV]
    refine ⟨⟨.inl ⟨trivial, ?_⟩, k1⟩, by simp [k2]⟩
    obtain ⟨lj, v0, e1, e2, e3, e4⟩ := h0 0 i rfl
    obtain ⟨u, f1, f2, _⟩ := hc 0 _ rfl
    simp only [V] at f2
    obtain ⟨l, hl, ad, cap, hu, _, hex⟩ := f2
    rw [← hij, e1] at hl
    have := Option.some.inj hl
    subst this
    have := hex e2
    rw [Nat.add_zero] at e3 f1
    rw [f1, e3, this, e4]
   ·rw [Option.bind_eq_some_iff] at h
    obtain ⟨d, hd, h⟩ := h
    rw [Option.map_eq_some_iff] at h
    obtain ⟨es, hes, rfl⟩ := h
    obtain ⟨k1, k2⟩ := Sj hes h0' hc'
    simp only [sV]
    refine ⟨⟨.inr ?_, k1⟩, by simp [k2]⟩
    obtain ⟨x, h1, h2, _⟩ := FX hd
    obtain ⟨v, f1, f2, _⟩ := hc 0 _ rfl
    rw [(sZ h1).1 f2] at f1
    exact ⟨x, h2, by simpa using f1⟩
 | [], _ :: _, _, _, h, _, _ => by simp [zK] at h
 | _ :: _, [], _, _, h, _, _ => by simp [zK] at h
section
variable [Inhabited az]
theorem Qq (h : RelL F L' st a w') (hbase : ∀ id l, L id = some l → L' id = some l) : ∀ {ds : List D} {vs : List Value} {lent : List (Bool × Nat × Blk)} {ν : List Nat} {os : List D}, dJ w L ds vs lent ν → YJ st.heap lent = some os →
 jJ w w' ds vs os ∧ ∀ g ∈ ν, Kept w w' g
 | [], [], [], [], os, _, ho => by
   simp only [YJ, Option.some.injEq] at ho
   subst ho
   exact ⟨by simp [jJ], fun g hg => by simp at hg⟩
 | d :: ds, v :: vs, lent, ν, os, hl, ho => by
   cases d with
   | msl e t l =>
     match lent, hl, ho with
     | (s, id, b0) :: r, hl, ho =>
       simp only [dJ] at hl
       obtain ⟨rfl, rfl, lc, h1, h2, h3, hl⟩ := hl
       simp only [YJ, Option.bind_eq_some_iff, Option.map_eq_some_iff, cond_true] at ho
       obtain ⟨o, ho1, os', ho2, rfl⟩ := ho
       simp only [ais, Option.bind_eq_some_iff] at ho1
       obtain ⟨b, hb, ho1⟩ := ho1
       cases b with
       | map => first | rfl | (cases h; done) | (simp at h; done) | (simp at *; done)
       | bld => first | rfl | (cases h; done) | (simp at h; done) | (simp at *; done)
       | mix => simp at ho1
       | rows m e' t' l' =>
         simp only at ho1
         split at ho1
         ·rename_i ht
          subst ht
          obtain ⟨hee, ho1⟩ := ifB ho1
          have hee := ay hee
          simp only [Option.some.injEq] at ho1
          subst ho1
          obtain ⟨l2, hl2, hbl⟩ := h.heap id _ hb
          rw [hbase id lc h1] at hl2
          have := Option.some.inj hl2
          subst this
          have hlen : l'.length = l.length := by rw [← h3, hbl.hn]; rfl
          have hm0 : (Blk.rows m e' t' l').mode ≠ 0 := by rw [← hbl.hm, h2]; simp
          rcases hl with ⟨μ', cap, cur, rfl, k2, rfl, k4, k5, _, k6⟩ | ⟨k1, rfl, k3⟩
          ·obtain ⟨r1, r2⟩ := Qq h hbase k6 ho2
           obtain ⟨q1, cur', q2, q3, q4⟩ := hbl.own k2 hm0
           simp only [jJ]
           refine ⟨⟨.inr ⟨l', rfl, hlen, fun g cap' hv _ => ?_⟩, r1⟩, fun g hg => ?_⟩
           ·have hg : lc.b = g := by injection hv with e1; injection e1 with e2; injection e2
            subst hg
            have := JX (off := 0) hbl k2 (t := t') (xs := l') (fun i av hi => by rw [Nat.zero_add]; exact hi)
            rw [q1] at this
            exact this
           ·rcases List.mem_cons.1 hg with rfl | hg
            ·intro c0 e0 hc0
             rw [k4] at hc0
             have hc1 := Option.some.inj hc0
             injection hc1 with e1 e2
             subst e1 e2
             exact ⟨cur', by rw [← hee]; exact q2, by omega⟩
            ·exact r2 g hg
          ·obtain ⟨r1, r2⟩ := Qq h hbase k3 ho2
           simp only [jJ]
           exact ⟨⟨.inr ⟨l', rfl, hlen, fun g cap' _ hne => absurd rfl hne⟩, r1⟩, r2⟩
         ·simp at ho1
     | [], hl, _ => simp [dJ] at hl
   | mptr e l =>
     match lent, hl, ho with
     | (s, id, b0) :: r, hl, ho =>
       simp only [dJ] at hl
       obtain ⟨rfl, lc, μ', xs, cur, h1, h2, rfl, rfl, h5, h6, rfl, h8, h9, h10, hw1, h11, hl⟩ := hl
       simp only [YJ, Option.bind_eq_some_iff, Option.map_eq_some_iff, cond_false] at ho
       obtain ⟨o, ho1, os', ho2, rfl⟩ := ho
       obtain ⟨r1, r2⟩ := Qq h hbase hl ho2
       obtain ⟨f1, f2, f3, f4, f5⟩ := uX 1 e xs
       simp only [outD, Option.bind_eq_some_iff] at ho1
       obtain ⟨b, hb, ho1⟩ := ho1
       obtain ⟨hee, ho1⟩ := ifB ho1
       have hee := ay hee
       rw [f5] at hee
       obtain ⟨l2, hl2, hbl⟩ := h.heap id _ hb
       rw [hbase id lc h1] at hl2
       have := Option.some.inj hl2
       subst this
       have hm0 : b.mode ≠ 0 := by rw [← hbl.hm, h2]; simp
       obtain ⟨q1, cur', q2, q3, q4⟩ := hbl.own h10 hm0
       have hcells := hbl.cells h10
       rw [q1] at hcells
       have hbn : b.n = l.length := by rw [← hbl.hn, h6, h5]
       obtain ⟨l', rfl, hlen, hk⟩ : ∃ l', o = .ptr e l' ∧ l'.length = l.length ∧ sV w w' lc.b 0 l' := by
        cases hb0 : kZ 1 e xs with
        | map => have hbm := LZ 1 e xs; rw [hb0] at hbm; cases hbm
        | bld => have hbm := LZ 1 e xs; rw [hb0] at hbm; cases hbm
        | rows m1 e1 t1 l1 =>
          cases b with
          | map => simp [hb0] at ho1
          | bld => simp [hb0] at ho1
          | mix => simp [hb0] at ho1
          | rows m2 e2 t2 l2 =>
            simp only [hb0] at ho1
            rw [Option.map_eq_some_iff] at ho1
            obtain ⟨es, hes, rfl⟩ := ho1
            have hw : t2.w = 1 := by
             have hh : lc.w = t2.w := hbl.hw
             omega
            have he1 : e1 = e := by
             have := f5
             rw [hb0] at this
             exact this
            refine ⟨es, by rw [← he1]; rfl, ?_, aak hes hcells⟩
            rw [GY hes, fJ, hw, Nat.mul_one]
            exact hbn
        | mix m1 e1 l1 =>
          cases b with
          | map => simp [hb0] at ho1
          | bld => simp [hb0] at ho1
          | rows => simp [hb0] at ho1
          | mix m2 e2 l2 =>
            simp only [hb0] at ho1
            rw [Option.map_eq_some_iff] at ho1
            obtain ⟨es, hes, rfl⟩ := ho1
            have hl1 : l1 = xs := by
             have := f1
             rw [hb0] at this
             exact this
            have he1 : e1 = e := by
             have := f5
             rw [hb0] at this
             exact this
            subst hl1
            obtain ⟨k1, k2⟩ := Sj (w := w) hes (fun i j hi => by
             obtain ⟨lj, v0, e1, e2, e3, e4⟩ := h11 i j hi
             exact ⟨lj, v0, hbase j lj e1, e2, by simpa using e3, e4⟩) hcells
            exact ⟨es, by rw [← he1]; rfl, by rw [k2, h5], k1⟩
       simp only [jJ]
       refine ⟨⟨⟨l', rfl, hlen, fun g hv => ?_⟩, r1⟩, fun g hg => ?_⟩
       ·have hg : lc.b = g := by injection hv with e1; injection e1 with e2; injection e2
        subst hg
        exact hk
       ·rcases List.mem_cons.1 hg with rfl | hg
        ·intro c0 e0 hc0
         rw [h8] at hc0
         have hc1 := Option.some.inj hc0
         injection hc1 with e1 e2
         subst e1 e2
         exact ⟨cur', by rw [← hee]; exact q2, by omega⟩
        ·exact r2 g hg
     | [], hl, _ => simp [dJ] at hl
   | _ =>
     simp only [dJ] at hl
     simp only [jJ]
     exact Qq h hbase hl ho
 | [], _ :: _, _, _, _, hl, _ => by simp [dJ] at hl
 | [], [], _ :: _, _, _, hl, _ => by simp [dJ] at hl
 | [], [], [], _ :: _, _, hl, _ => by simp [dJ] at hl
 | d :: ds, [], lent, ν, _, hl, _ => by cases d <;> cases lent <;> simp [dJ] at hl
end
end Go.Ev
