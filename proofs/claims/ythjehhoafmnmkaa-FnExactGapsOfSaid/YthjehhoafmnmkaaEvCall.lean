/- A call, by contract: the caller's side: what is handed over. -/
import Derived.Test.YthjehhoafmnmkaaEvData
namespace Go.Ev
open Go.RowKit
variable {α : Type} {P : Program} {w : World} {F : Fix} {L : LM} {st : St} {a : Act}
def ak (L : LM) : List Nat → List Nat
 | [] => []
 | id :: r => match L id with
   | some l => if l.backed then l.b :: ak L r else ak L r
   | none => ak L r
theorem xW {ids : List Nat} {g : Nat} (h : g ∈ ak L ids) : ∃ id l, id ∈ ids ∧ L id = some l ∧ l.backed = true ∧ l.b = g := by
 induction ids with
 | nil => simp [ak] at h
 | cons i r ih =>
   simp only [ak] at h
   split at h
   ·rename_i l hl
    split at h
    ·rename_i hb
     rcases List.mem_cons.1 h with rfl | h
     ·exact ⟨i, l, by simp, hl, hb, rfl⟩
     ·obtain ⟨id, l, h1, h2⟩ := ih h
      exact ⟨id, l, by simp [h1], h2⟩
    ·obtain ⟨id, l, h1, h2⟩ := ih h
     exact ⟨id, l, by simp [h1], h2⟩
   ·obtain ⟨id, l, h1, h2⟩ := ih h
    exact ⟨id, l, by simp [h1], h2⟩
def Gz (st : St) (ids : List Nat) : Prop := ∀ id ∈ ids, ∃ b, look st.heap id = some b ∧ b.mode ≠ 0
theorem mY {i : Nat} {l : List Nat} : memN i l = true ↔ i ∈ l := by
 induction l with
 | nil => simp [memN]
 | cons x r ih =>
   simp only [memN, Bool.or_eq_true, ih, List.mem_cons]
   constructor
   ·rintro (h | h)
    ·exact .inl (ay h).symm
    ·exact .inr h
   ·rintro (h | h)
    ·exact .inl (by rw [h]; simp)
    ·exact .inr h
theorem kz {i : Nat} {l : List Nat} (h : memN i l = false) : i ∉ l := fun hm => by rw [mY.2 hm] at h; cases h
section
variable [Inhabited az]
theorem Dv (h : RelL F L st a w) {ids : List Nat} (hids : Gz st ids) {id : Nat} (hid : id ∉ ids) {b : Blk} (hb : look st.heap id = some b) {l : Loc} (hl : L id = some l) (hbk : l.backed = true) (hor : b.flat ≠ [] ∨ b.mode ≠ 0) : l.b ∉ ak L ids := by
 intro hm
 obtain ⟨j, m, hj, hm1, hmb, he⟩ := xW hm
 obtain ⟨c, hc, hcm⟩ := hids j hj
 obtain ⟨m2, hm2, hbm⟩ := h.heap j c hc
 rw [hm1] at hm2
 have := Option.some.inj hm2
 subst this
 obtain ⟨l2, hl2, hbl⟩ := h.heap id b hb
 rw [hl] at hl2
 have := Option.some.inj hl2
 subst this
 have hne : id ≠ j := fun e => hid (e ▸ hj)
 by_cases hz : b.mode = 0
 ·have hne2 : b.flat ≠ [] := by rcases hor with h | h; exact h; exact absurd hz h
  obtain ⟨r1, r2⟩ := hbl.ro hbk hz hne2
  have : c.mode = 1 ∨ c.mode = 2 := by have := hbm.le; omega
  rcases this with h1 | h1
  ·exact r2 (he ▸ hbm.m1 hmb h1)
  ·have := hbm.m2 hmb h1; omega
 ·exact h.inj id j b c l m hb hc hl hm1 hne hbk hmb (by rw [hbl.hm]; exact hz) (by rw [hbm.hm]; exact hcm) he.symm
end
theorem FX {x : AV} {d : D} (h : Bq x = some d) : ∃ u, scal x = some u ∧ DZ d = some u ∧ (∀ w bad v, DIn w bad d v ↔ v = u) := by
 cases x <;> simp [Bq] at h <;> subst h <;> exact ⟨_, rfl, rfl, fun w bad v => by simp [DIn]⟩
theorem Fj {x : AV} {d : D} (h : Bq x = some d) {v : Value} (hv : V L x v) (w : World) (bad : Nat → Prop) : DIn w bad d v := by
 obtain ⟨u, h1, _, h3⟩ := FX h
 exact (h3 w bad v).2 ((sZ h1).1 hv)
theorem ZJ : ∀ {xs : List AV} {ds : List D}, mQ xs = some ds → ∀ {vs : List Value}, VAll L xs vs → ∀ (w : World) (bad : Nat → Prop), DAll w bad ds vs
 | [], ds, h, vs, hv, w, bad => by
   simp only [mQ, Option.some.injEq] at h
   subst h
   cases vs with
   | nil => simp [DAll]
   | cons => simp [VAll] at hv
 | x :: r, ds, h, vs, hv, w, bad => by
   simp only [mQ, Option.bind_eq_some_iff, Option.map_eq_some_iff] at h
   obtain ⟨d, hd, es, hes, rfl⟩ := h
   cases vs with
   | nil => simp [VAll] at hv
   | cons v vs =>
     simp only [VAll] at hv
     simp only [DAll]
     exact ⟨Fj hd hv.1 w bad, ZJ hes hv.2 w bad⟩
theorem GY : ∀ {xs : List AV} {ds : List D}, mQ xs = some ds → ds.length = xs.length
 | [], ds, h => by simp only [mQ, Option.some.injEq] at h; subst h; rfl
 | x :: r, ds, h => by
   simp only [mQ, Option.bind_eq_some_iff, Option.map_eq_some_iff] at h
   obtain ⟨d, hd, es, hes, rfl⟩ := h
   simp [GY hes]
theorem CW {f : AV → Option D} : ∀ {xs : List AV} {ds : List D}, allD f xs = some ds → ds.length = xs.length
 | [], ds, h => by simp only [allD, Option.some.injEq] at h; subst h; rfl
 | x :: r, ds, h => by
   simp only [allD, Option.bind_eq_some_iff, Option.map_eq_some_iff] at h
   obtain ⟨d, hd, es, hes, rfl⟩ := h
   simp [CW hes]
theorem aeB {f : AV → Option D} {bad : Nat → Prop} (hf : ∀ x d v, f x = some d → V L x v → DIn w bad d v) : ∀ {xs : List AV} {ds : List D}, allD f xs = some ds → ∀ {vs : List Value}, VAll L xs vs → DAll w bad ds vs
 | [], ds, h, vs, hv => by
   simp only [allD, Option.some.injEq] at h
   subst h
   cases vs with
   | nil => simp [DAll]
   | cons => simp [VAll] at hv
 | x :: r, ds, h, vs, hv => by
   simp only [allD, Option.bind_eq_some_iff, Option.map_eq_some_iff] at h
   obtain ⟨d, hd, es, hes, rfl⟩ := h
   cases vs with
   | nil => simp [VAll] at hv
   | cons v vs =>
     simp only [VAll] at hv
     simp only [DAll]
     exact ⟨hf x d v hd hv.1, aeB hf hes hv.2⟩
theorem Rz {f : AV → Option D} {bad : Nat → Prop} (hf : ∀ x d v, f x = some d → V L x v → DIn w bad d v) {b : Nat} : ∀ {xs : List AV} {ds : List D} {o : Nat}, allD f xs = some ds →
 (∀ (i : Nat) (av : AV), xs[i]? = some av → ∃ v, w.cell? ⟨b, o + i, none⟩ = some v ∧ V L av v ∧ v.oneCell' = true) → AZ w bad b o ds
 | [], ds, o, h, _ => by simp only [allD, Option.some.injEq] at h; subst h; simp [AZ]
 | x :: r, ds, o, h, hc => by
   simp only [allD, Option.bind_eq_some_iff, Option.map_eq_some_iff] at h
   obtain ⟨d, hd, es, hes, rfl⟩ := h
   simp only [AZ]
   refine ⟨?_, Rz hf hes fun i av hi => ?_⟩
   ·obtain ⟨v, h1, h2, h3⟩ := hc 0 x rfl
    exact ⟨v, by simpa using h1, h3, hf x d v hd h2⟩
   ·obtain ⟨v, h1, h2⟩ := hc (i + 1) av (by simpa using hi)
    exact ⟨v, by rwa [show o + (i + 1) = o + 1 + i by omega] at h1, h2⟩
theorem Wj {xs : List AV} {ds : List D} (h : mQ xs = some ds) : allD Bq xs = some ds := by
 induction xs generalizing ds with
 | nil => simpa [allD, mQ] using h
 | cons x r ih =>
   simp only [mQ, Option.bind_eq_some_iff, Option.map_eq_some_iff] at h
   obtain ⟨d, hd, es, hes, rfl⟩ := h
   simp [allD, hd, ih hes]
theorem JX {l : Loc} {b : Blk} {N : Nat} {μ : List Nat} (h : iY L N μ w l b) (hbk : l.backed = true) {t : Ty} {xs : List t.den} {off : Nat} (hsub : ∀ (i : Nat) (av : AV), (xs.flatMap t.enc)[i]? = some av → b.flat[off + i]? = some av) :
 yJ w l.b (l.o + off) (xs.flatMap t.enc) := by
 intro i av hi
 obtain ⟨u, hu⟩ := Jq t xs i av hi
 obtain ⟨v, hc, hv, _⟩ := h.cells hbk _ av (hsub i av hi)
 have := (sZ hu).1 hv
 subst this
 exact ⟨v, hu, by rw [show l.o + off + i = l.o + (off + i) by omega]; exact hc⟩
section
variable [Inhabited az]
theorem JV (h : RelL F L st a w) {ban : List Nat} (hban : Gz st ban) : ∀ (d : Nat) (x : AV) (dt : D) (v : Value), toD ban st.heap d x = some dt → V L x v → DIn w (· ∈ ak L ban) dt v
 | 0, x, dt, v, hd, hv => by
   simp only [toD] at hd
   exact Fj hd hv w _
 | d + 1, x, dt, v, hd, hv => by
   simp only [toD] at hd
   split at hd
   ·
     rename_i l
     rw [Option.map_eq_some_iff] at hd
     obtain ⟨ds, hds, rfl⟩ := hd
     simp only [V] at hv
     obtain ⟨arr, rfl, hv⟩ := hv
     simp only [DIn]
     exact ⟨arr, rfl, ZJ hds hv w _⟩
   ·
     rename_i f l
     rw [Option.map_eq_some_iff] at hd
     obtain ⟨ds, hds, rfl⟩ := hd
     simp only [V] at hv
     obtain ⟨arr, rfl, hv⟩ := hv
     simp only [DIn]
     exact ⟨arr, rfl, aeB (JV h hban d) hds hv⟩
   ·
     rename_i id
     cases hm : memN id ban with
     | true => simp [hm] at hd
     | false =>
       rw [hm, cond_false, Option.bind_eq_some_iff] at hd
       obtain ⟨b, hb, hd⟩ := hd
       simp only [V] at hv
       obtain ⟨l, hL, ad, cap, rfl, hsl, _⟩ := hv
       obtain ⟨l2, hl2, hbl⟩ := h.heap id b hb
       rw [hL] at hl2
       have := Option.some.inj hl2
       subst this
       have hcap := hsl.1
       rw [hbl.hn] at hcap ⊢
       cases b with
       | map => first | rfl | (cases h; done) | (simp at h; done) | (simp at *; done)
       | bld => first | rfl | (cases h; done) | (simp at h; done) | (simp at *; done)
       | rows m e t l0 =>
         simp only [Option.some.injEq] at hd
         subst hd
         simp only [DIn]
         refine ⟨ad, cap, rfl, hcap, ?_⟩
         by_cases hne : l0 = []
         ·exact .inl hne
         ·have hfl : (Blk.rows m e t l0).flat ≠ [] := by
           intro e0
           have := fJ t l0
           rw [show l0.flatMap t.enc = [] from e0] at this
           have hw := DW t
           have : 0 < l0.length * t.w := Nat.mul_pos (List.length_pos_iff.2 hne) hw
           simp at *
           omega
          have hbk := qK hbl hfl
          refine .inr ⟨l.b, l.o, (hsl.2.1 hbk).1, Dv h hban (kz hm) hb hL hbk (.inl hfl), ?_⟩
          have := JX (off := 0) hbl hbk (t := t) (xs := l0) (fun i av hi => by rw [Nat.zero_add]; exact hi)
          simpa using this
       | mix m e l0 =>
         rw [Option.map_eq_some_iff] at hd
         obtain ⟨ds, hds, rfl⟩ := hd
         have hdl := CW hds
         simp only [DIn]
         refine ⟨ad, cap, by simp [hdl, Blk.n], by rw [hdl]; exact hcap, ?_⟩
         by_cases hne : ds = []
         ·exact .inl hne
         ·have hfl : (Blk.mix m e l0).flat ≠ [] := by
           intro e0
           rw [show l0 = [] from e0] at hdl
           exact hne (List.eq_nil_of_length_eq_zero hdl)
          have hbk := qK hbl hfl
          exact .inr ⟨l.b, l.o, (hsl.2.1 hbk).1, Dv h hban (kz hm) hb hL hbk (.inl hfl), Rz (JV h hban d) hds (hbl.cells hbk)⟩
   ·
     rename_i id lo n
     cases hm : memN id ban with
     | true => simp [hm] at hd
     | false =>
       rw [hm, cond_false, Option.bind_eq_some_iff] at hd
       obtain ⟨b, hb, hd⟩ := hd
       simp only [V] at hv
       obtain ⟨l, hL, hle, ad, cap, rfl, hcap, hadr, _⟩ := hv
       obtain ⟨l2, hl2, hbl⟩ := h.heap id b hb
       rw [hL] at hl2
       have := Option.some.inj hl2
       subst this
       cases b with
       | map => first | rfl | (cases h; done) | (simp at h; done) | (simp at *; done)
       | bld => first | rfl | (cases h; done) | (simp at h; done) | (simp at *; done)
       | rows m e t l0 =>
         simp only [Option.some.injEq] at hd
         subst hd
         rw [hbl.hn] at hle
         have hlen : ((l0.drop lo).take n).length = n := by
          have : lo + n ≤ l0.length := hle
          simp; omega
         simp only [DIn]
         refine ⟨ad, cap, by rw [hlen], by rw [hlen]; exact hcap, ?_⟩
         by_cases hn0 : n = 0
         ·exact .inl (List.eq_nil_of_length_eq_zero (by rw [hlen]; exact hn0))
         ·have hfl : (Blk.rows m e t l0).flat ≠ [] := by
           intro e0
           have := fJ t l0
           rw [show l0.flatMap t.enc = [] from e0] at this
           have hw := DW t
           have hl0 : 0 < l0.length := by have : lo + n ≤ l0.length := hle; omega
           have : 0 < l0.length * t.w := Nat.mul_pos hl0 hw
           simp at *
           omega
          have hbk := qK hbl hfl
          have hw : l.w = t.w := hbl.hw
          refine .inr ⟨l.b, l.o + lo * t.w, by rw [hadr hn0, hw], Dv h hban (kz hm) hb hL hbk (.inl hfl), ?_⟩
          exact JX hbl hbk fun i av hi => by
           rw [Dj, List.getElem?_take] at hi
           split at hi
           ·rw [List.getElem?_drop] at hi; exact hi
           ·simp at hi
       | mix m e l0 => simp at hd
   ·
     rename_i id
     cases hm : memN id ban with
     | true => simp [hm] at hd
     | false =>
       rw [hm, cond_false, Option.bind_eq_some_iff] at hd
       obtain ⟨b, hb, hd⟩ := hd
       simp only [V] at hv
       obtain ⟨l, hL, rfl⟩ := hv
       obtain ⟨l2, hl2, hbl⟩ := h.heap id b hb
       rw [hL] at hl2
       have := Option.some.inj hl2
       subst this
       have key : ∀ {ds : List D} {f : AV → Option D} {e : TypeId}, allD f b.flat = some ds → (∀ x d v, f x = some d → V L x v → DIn w (· ∈ ak L ban) d v) → DIn w (· ∈ ak L ban) (.ptr e ds) (.pointer (some ⟨l.b, l.o + (0 * l.w + 0), none⟩)) := by
        intro ds f e hds hf
        have hdl := CW hds
        simp only [DIn]
        refine ⟨l.b, l.o, by simp, ?_⟩
        by_cases hne : ds = []
        ·exact .inl hne
        ·have hfl : b.flat ≠ [] := by
          intro e0
          rw [e0] at hdl
          exact hne (List.eq_nil_of_length_eq_zero hdl)
         have hbk := qK hbl hfl
         exact .inr ⟨Dv h hban (kz hm) hb hL hbk (.inl hfl), Rz hf hds (hbl.cells hbk)⟩
       cases b with
       | map => first | rfl | (cases h; done) | (simp at h; done) | (simp at *; done)
       | bld => first | rfl | (cases h; done) | (simp at h; done) | (simp at *; done)
       | rows m e t l0 =>
         rw [Option.map_eq_some_iff] at hd
         obtain ⟨ds, hds, rfl⟩ := hd
         exact key (Wj hds) (fun x d v hd hv => Fj hd hv w _)
       | mix m e l0 =>
         rw [Option.map_eq_some_iff] at hd
         obtain ⟨ds, hds, rfl⟩ := hd
         exact key hds (JV h hban d)
   ·exact Fj hd hv w _
end
end Go.Ev
