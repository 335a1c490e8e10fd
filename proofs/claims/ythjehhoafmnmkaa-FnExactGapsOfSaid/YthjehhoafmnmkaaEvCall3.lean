/- A call, by contract: the caller's side: behind the call. -/
import Derived.Test.YthjehhoafmnmkaaEvCall2
namespace Go.Ev
open Go.RowKit
variable {α : Type} {P : Program} {w w' : World} {F : Fix} {L : LM} {st : St} {a : Act}
theorem acf {bad : Nat → Prop} {d : D} {v : Value} {ds : List D} {vs : List Value} {os : List D} (hd : DIn w bad d v) (h : jJ w w' (d :: ds) (v :: vs) os) : jJ w w' ds vs os := by
 cases d with
 | msl => simp [DIn] at hd
 | mptr => simp [DIn] at hd
 | same => simp [DIn] at hd
 | keep => simp [DIn] at hd
 | _ => simp only [jJ] at h; exact h
theorem ac5 {bad : Nat → Prop} {d : D} {v : Value} {ds : List D} {vs : List Value} {os : List D} (hd : DIn w bad d v) : qJ (d :: ds) (v :: vs) os = qJ ds vs os := by
 cases d with
 | msl => simp [DIn] at hd
 | mptr => simp [DIn] at hd
 | _ => simp only [qJ]
def abe (st : St) (L : LM) (w w' : World) (id : Nat) (d : D) : Prop :=
 ∃ b l, look st.heap id = some b ∧ L id = some l ∧
   ((∃ m e t l0 l', b = .rows m e t l0 ∧ d = .sl e t l' ∧ l'.length = l0.length ∧ (l.backed = true → yJ w' l.b 0 (l'.flatMap t.enc))) ∨
    (∃ e l', d = .ptr e l' ∧ l'.length = b.flat.length ∧ sV w w' l.b 0 l') ∨ d = .nilsl)
section
variable [Inhabited az]
theorem xY (h : RelL F L st a w) {ban : List Nat} (hban : Gz st ban) : ∀ {ms : List Nat} {xs : List AV} {ids : List Nat} {ds : List D} {vs : List Value} {os : List D}, iQ ms xs = some ids → oV ban st.heap ms xs = some ds → VAll L xs vs →
 jJ w w' ds vs os → ids.length = os.length ∧ (∀ p ∈ ids.zip os, abe st L w w' p.1 p.2) ∧ ∀ g ∈ qJ ds vs os, ∃ p ∈ ids.zip os, p.2 = .nilsl ∧ ∃ l, L p.1 = some l ∧ l.backed = true ∧ l.b = g
 | ms, [], ids, ds, vs, os, hi, hd, hv, ho => by
   cases vs with
   | cons => simp [VAll] at hv
   | nil =>
     have e1 : ids = [] := by cases ms <;> simp [iQ] at hi <;> exact hi
     have e2 : ds = [] := by cases ms <;> simp [oV] at hd <;> exact hd
     subst e1 e2
     cases os with
     | nil => simp [qJ]
     | cons => simp [jJ] at ho
 | [], x :: xs, ids, ds, vs, os, hi, hd, hv, ho => by
   cases vs with
   | nil => simp [VAll] at hv
   | cons v vs =>
     simp only [VAll] at hv
     simp only [iQ, Option.some.injEq] at hi
     subst hi
     simp only [oV, Option.bind_eq_some_iff, Option.map_eq_some_iff] at hd
     obtain ⟨d, hd1, es, hes, rfl⟩ := hd
     have hin := JV h hban 4 x d v hd1 hv.1
     rw [ac5 hin]
     refine xY h hban (ms := []) (ids := []) ?_ hes hv.2 (acf hin ho)
     cases xs <;> rfl
 | m :: ms, x :: xs, ids, ds, vs, os, hi, hd, hv, ho => by
   cases vs with
   | nil => simp [VAll] at hv
   | cons v vs =>
     simp only [VAll] at hv
     simp only [iQ] at hi
     simp only [oV] at hd
     split at hi
     ·simp only [Option.bind_eq_some_iff, Option.map_eq_some_iff] at hd
      obtain ⟨d, hd1, es, hes, rfl⟩ := hd
      split at hi
      ·
        rename_i id
        rw [Option.map_eq_some_iff] at hi
        obtain ⟨ids', hi', rfl⟩ := hi
        simp only [DJ, Option.bind_eq_some_iff] at hd1
        obtain ⟨b, hb, hd1⟩ := hd1
        cases b with
        | map => first | rfl | (cases h; done) | (simp at h; done) | (simp at *; done)
        | bld => first | rfl | (cases h; done) | (simp at h; done) | (simp at *; done)
        | mix m e l => simp at hd1
        | rows m e t l0 =>
          simp only at hd1
          cases hm : Nat.beq m 0 with
          | true => simp [hm] at hd1
          | false =>
            rw [hm, cond_false] at hd1
            simp only [Option.some.injEq] at hd1
            subst hd1
            cases os with
            | nil => simp [jJ] at ho
            | cons o os =>
              simp only [jJ] at ho
              obtain ⟨ho1, ho⟩ := ho
              obtain ⟨h1, h2, h3⟩ := xY h hban hi' hes hv.2 ho
              refine ⟨by simp [h1], fun p hp => ?_, fun g hg => ?_⟩
              rotate_left
              ·simp only [qJ] at hg
               split at hg
               ·rename_i a n c
                rcases List.mem_cons.1 hg with rfl | hg
                ·have hv1 := hv.1
                 simp only [V] at hv1
                 obtain ⟨l, hL, ad, cap, he, hsl, _⟩ := hv1
                 obtain ⟨l2, hl2, hbl⟩ := h.heap id _ hb
                 rw [hL] at hl2
                 have := Option.some.inj hl2
                 subst this
                 injection he with e1 e2 e3
                 have hlm : l.mode ≠ 0 := by rw [hbl.hm]; exact gW hm
                 cases hbk : l.backed with
                 | false => have := (hsl.2.2 hbk).2 hlm; omega
                 | true =>
                   have := (hsl.2.1 hbk).1
                   rw [← e1] at this
                   exact ⟨_, List.mem_cons_self, rfl, l, hL, hbk, by rw [Option.some.inj this]⟩
                ·obtain ⟨p, hp, hh⟩ := h3 g hg
                 exact ⟨p, List.mem_cons_of_mem _ hp, hh⟩
               ·obtain ⟨p, hp, hh⟩ := h3 g hg
                exact ⟨p, List.mem_cons_of_mem _ hp, hh⟩
              rcases List.mem_cons.1 hp with rfl | hp
              ·have hv1 := hv.1
               simp only [V] at hv1
               obtain ⟨l, hL, ad, cap, rfl, hsl, _⟩ := hv1
               obtain ⟨l2, hl2, hbl⟩ := h.heap id _ hb
               rw [hL] at hl2
               have := Option.some.inj hl2
               subst this
               rcases ho1 with rfl | ⟨l', rfl, hl', hcells⟩
               ·exact ⟨_, l, hb, hL, .inr (.inr rfl)⟩
               refine ⟨_, l, hb, hL, .inl ⟨m, e, t, l0, l', rfl, rfl, hl', fun hbk => ?_⟩⟩
               by_cases hne : l0 = []
               ·have : l' = [] := List.eq_nil_of_length_eq_zero (by rw [hl', hne]; rfl)
                subst this
                intro i av hi
                simp at hi
               ·have hm0 := gW hm
                obtain ⟨ho0, _⟩ := hbl.own hbk hm0
                exact hcells l.b cap (by rw [(hsl.2.1 hbk).1, ho0, hbl.hn]; rfl) hne
              ·exact h2 p hp
      ·
        rename_i id
        rw [Option.map_eq_some_iff] at hi
        obtain ⟨ids', hi', rfl⟩ := hi
        have hd0 := hd1
        simp only [DJ, Option.bind_eq_some_iff] at hd1
        obtain ⟨b, hb, hd1⟩ := hd1
        obtain ⟨e, es0, rfl, hel, hm0, hfl⟩ : ∃ e es0, d = .mptr e es0 ∧ es0.length = b.flat.length ∧ b.mode ≠ 0 ∧ b.flat ≠ [] := by
         cases b with
         | map => first | rfl | (cases h; done) | (simp at h; done) | (simp at *; done)
         | bld => first | rfl | (cases h; done) | (simp at h; done) | (simp at *; done)
         | rows m e t l0 =>
           simp only at hd1
           cases hm : Nat.beq m 0 with
           | true => simp [hm] at hd1
           | false =>
             rw [hm, cond_false] at hd1
             cases l0 with
             | nil => simp at hd1
             | cons y ys =>
               rw [Option.map_eq_some_iff] at hd1
               obtain ⟨es1, hes1, rfl⟩ := hd1
               refine ⟨e, es1, rfl, by rw [GY hes1]; rfl, gW hm, fun e0 => ?_⟩
               have h1 := fJ t (y :: ys)
               rw [show (y :: ys).flatMap t.enc = [] from e0] at h1
               have hw := DW t
               have h2 : 0 < (y :: ys).length * t.w := Nat.mul_pos (by simp) hw
               simp only [List.length_nil] at h1
               omega
         | mix m e l0 =>
           simp only at hd1
           cases hm : Nat.beq m 0 with
           | true => simp [hm] at hd1
           | false =>
             rw [hm, cond_false] at hd1
             cases l0 with
             | nil => simp at hd1
             | cons y ys =>
               rw [Option.map_eq_some_iff] at hd1
               obtain ⟨es1, hes1, rfl⟩ := hd1
               exact ⟨e, es1, rfl, by rw [CW hes1]; rfl, gW hm, by simp [Blk.flat]⟩
        cases os with
        | nil => simp [jJ] at ho
        | cons o os =>
          simp only [jJ] at ho
          obtain ⟨⟨l', rfl, hl', hcells⟩, ho⟩ := ho
          obtain ⟨h1, h2, h3⟩ := xY h hban hi' hes hv.2 ho
          refine ⟨by simp [h1], fun p hp => ?_, fun g hg => by obtain ⟨p, hp, hh⟩ := h3 g hg; exact ⟨p, List.mem_cons_of_mem _ hp, hh⟩⟩
          rcases List.mem_cons.1 hp with rfl | hp
          ·have hv1 := hv.1
           simp only [V] at hv1
           obtain ⟨l, hL, rfl⟩ := hv1
           obtain ⟨l2, hl2, hbl⟩ := h.heap id _ hb
           rw [hL] at hl2
           have := Option.some.inj hl2
           subst this
           obtain ⟨ho0, _⟩ := hbl.own (qK hbl hfl) hm0
           exact ⟨b, l, hb, hL, .inr (.inl ⟨e, l', rfl, by rw [hl', hel], hcells l.b (by rw [ho0]; simp)⟩)⟩
          ·exact h2 p hp
      ·
        simp only [DJ, Option.some.injEq] at hd1
        subst hd1
        simp only [jJ] at ho
        simp only [qJ]
        exact xY h hban hi hes hv.2 ho
      ·simp at hi
     ·simp only [Option.bind_eq_some_iff, Option.map_eq_some_iff] at hd
      obtain ⟨d, hd1, es, hes, rfl⟩ := hd
      have hin := JV h hban 4 x d v hd1 hv.1
      rw [ac5 hin]
      exact xY h hban hi hes hv.2 (acf hin ho)
end
theorem Vx : ∀ {ids : List Nat} {os : List D} {h h' : Heap}, back h ids os = some h' → ids.Nodup →
 (∀ j, j ∉ ids → look h' j = look h j) ∧ ∀ p ∈ ids.zip os, ∃ b b', look h p.1 = some b ∧ upd1 b p.2 = some b' ∧ look h' p.1 = some b'
 | [], [], h, h', hb, _ => by
   simp only [back, Option.some.injEq] at hb
   subst hb
   exact ⟨fun _ _ => rfl, fun p hp => by simp at hp⟩
 | id :: ids, d :: os, h, h', hb, hn => by
   simp only [back, Kv, Option.bind_eq_some_iff, Option.map_eq_some_iff] at hb
   obtain ⟨h1, ⟨b, hbl, b', hu, rfl⟩, hb⟩ := hb
   have hn := List.nodup_cons.1 hn
   obtain ⟨h2, h3⟩ := Vx hb hn.2
   refine ⟨fun j hj => ?_, fun p hp => ?_⟩
   ·simp only [List.mem_cons, not_or] at hj
    rw [h2 j hj.2, gy, if_neg hj.1]
   ·rcases List.mem_cons.1 hp with rfl | hp
    ·exact ⟨b, b', hbl, hu, by rw [h2 _ hn.1, gy, if_pos rfl]⟩
    ·obtain ⟨c, c', hc1, hc2, hc3⟩ := h3 p hp
     have hpi : p.1 ∈ ids := (List.of_mem_zip hp).1
     rw [gy, if_neg (show ¬ p.1 = id from fun e => hn.1 (e ▸ hpi))] at hc1
     exact ⟨c, c', hc1, hc2, hc3⟩
 | [], _ :: _, _, _, hb, _ => by simp [back] at hb
 | _ :: _, [], _, _, hb, _ => by simp [back] at hb
theorem ahg {d : D} {x : AV} (h : lK d = some x) : ∃ u, DZ d = some u ∧ scal x = some u := by
 cases d <;> simp [lK] at h <;> subst h <;> exact ⟨_, rfl, rfl⟩
theorem MJ {b : Nat} : ∀ {vs : List AV} {ds : List D} {xs : List AV} {o : Nat}, lY vs ds = some xs → sV w w' b o ds →
 (∀ (i : Nat) (av : AV), vs[i]? = some av → ∃ v, w.cell? ⟨b, o + i, none⟩ = some v ∧ V L av v ∧ v.oneCell' = true) →
 xs.length = vs.length ∧ ∀ (i : Nat) (av : AV), xs[i]? = some av → ∃ v, w'.cell? ⟨b, o + i, none⟩ = some v ∧ V L av v ∧ v.oneCell' = true
 | [], [], xs, o, h, _, _ => by
   simp only [lY, Option.some.injEq] at h
   subst h
   exact ⟨rfl, fun i av hi => by simp at hi⟩
 | v :: vs, d :: ds, xs, o, h, hk, hc => by
   simp only [sV] at hk
   simp only [lY] at h
   have hrest : ∀ (i : Nat) (av : AV), vs[i]? = some av → ∃ v, w.cell? ⟨b, o + 1 + i, none⟩ = some v ∧ V L av v ∧ v.oneCell' = true := fun i av hi => by
    have := hc (i + 1) av (by simpa using hi)
    rwa [show o + (i + 1) = o + 1 + i by omega] at this
   split at h
   ·rw [Option.map_eq_some_iff] at h
    obtain ⟨ys, hys, rfl⟩ := h
    obtain ⟨h1, h2⟩ := MJ hys hk.2 hrest
    refine ⟨by simp [h1], fun i av hi => ?_⟩
    cases i with
    | zero =>
      simp at hi
      subst hi
      rcases hk.1 with ⟨_, he⟩ | ⟨u, hu, _⟩
      ·rw [Nat.add_zero, he]
       exact hc 0 v rfl
      ·simp [DZ] at hu
    | succ i =>
      have := h2 i av (by simpa using hi)
      rwa [show o + 1 + i = o + (i + 1) by omega] at this
   ·rw [Option.bind_eq_some_iff] at h
    obtain ⟨x, hx, h⟩ := h
    rw [Option.map_eq_some_iff] at h
    obtain ⟨ys, hys, rfl⟩ := h
    obtain ⟨h1, h2⟩ := MJ hys hk.2 hrest
    obtain ⟨u, hu, hsx⟩ := ahg hx
    refine ⟨by simp [h1], fun i av hi => ?_⟩
    cases i with
    | zero =>
      simp at hi
      subst hi
      rcases hk.1 with ⟨hkeep, _⟩ | ⟨u', hu', he⟩
      ·exact absurd hkeep (by assumption)
      ·rw [hu] at hu'
       have := Option.some.inj hu'
       subst this
       exact ⟨u, by rw [Nat.add_zero]; exact he, (sZ hsx).2 rfl, Dw hsx⟩
    | succ i =>
      have := h2 i av (by simpa using hi)
      rwa [show o + 1 + i = o + (i + 1) by omega] at this
 | [], _ :: _, _, _, h, _, _ => by simp [lY] at h
 | _ :: _, [], _, _, h, _, _ => by simp [lY] at h
theorem abT {l : Loc} {b b' : Blk} {d : D} {N : Nat} {μ : List Nat} (h : iY L N μ w l b) (hmode : b.mode ≠ 0) (hu : upd1 b d = some b') (hk : l.backed = true → Kept w w' l.b)
 (hf : (∃ m e t l0 l', b = .rows m e t l0 ∧ d = .sl e t l' ∧ l'.length = l0.length ∧ (l.backed = true → yJ w' l.b 0 (l'.flatMap t.enc))) ∨ (∃ e l', d = .ptr e l' ∧ l'.length = b.flat.length ∧ sV w w' l.b 0 l')) :
 iY L N μ w' l b' := by
 have own' : ∀ c : Blk, c.e = b.e → c.mode = b.mode → c.flat.length = b.flat.length → l.backed = true → c.mode ≠ 0 → l.o = 0 ∧ ∃ cur, w'.heap[l.b]? = some (.cells cur c.e (0, 0)) ∧ cur.size = l.size ∧ c.flat.length ≤ l.size := by
  intro c he _ hl hbk _
  obtain ⟨ho, cur, hc, hs, hle⟩ := h.own hbk hmode
  obtain ⟨cur', hc', hs'⟩ := hk hbk cur b.e hc
  exact ⟨ho, cur', by rw [he]; exact hc', by omega, by omega⟩
 rcases hf with ⟨m, e, t, l0, l', rfl, rfl, hl', hcells⟩ | ⟨e, l', rfl, hl', hkc⟩
 ·simp only [upd1, dif_pos, Option.some.injEq] at hu
  subst hu
  have hfl : (Blk.rows m e t l').flat.length = (Blk.rows m e t l0).flat.length := by simp only [Blk.flat, fJ, hl']
  refine ⟨h.hw, by rw [h.hn]; simp [Blk.n, hl'], h.hm, h.le, fun hbk i av hi => ?_, fun _ hm0 => absurd hm0 hmode, fun hbk hm0 => own' _ rfl rfl hfl hbk hm0, fun hbk hm0 => h.m1 hbk hm0, fun hbk hm0 => h.m2 hbk hm0, fun hbk => ?_⟩
  ·obtain ⟨ho, _⟩ := h.own hbk hmode
   obtain ⟨v, hv, hc⟩ := hcells hbk i av hi
   exact ⟨v, by rw [ho]; exact hc, (sZ hv).2 rfl, Dw hv⟩
  ·have := h.nb hbk
   rw [this] at hfl
   exact List.eq_nil_of_length_eq_zero hfl
 ·
   have key : ∀ {xs : List AV}, lY b.flat l' = some xs → xs.length = b.flat.length ∧ (l.backed = true → ∀ (i : Nat) (av : AV), xs[i]? = some av → ∃ v, w'.cell? ⟨l.b, l.o + i, none⟩ = some v ∧ V L av v ∧ v.oneCell' = true) := by
    intro xs hx
    cases hbk : l.backed with
    | true =>
      obtain ⟨ho, _⟩ := h.own hbk hmode
      have hc := h.cells hbk
      rw [ho] at hc ⊢
      obtain ⟨h1, h2⟩ := MJ hx hkc hc
      exact ⟨h1, fun _ => h2⟩
    | false =>
      have h0 := h.nb hbk
      rw [h0] at hx hl'
      have : l' = [] := List.eq_nil_of_length_eq_zero hl'
      subst this
      simp only [lY, Option.some.injEq] at hx
      subst hx
      exact ⟨by rw [h0], fun e => by cases e⟩
   cases b with
   | map => exact absurd rfl hmode
   | bld => exact absurd rfl hmode
   | rows m e0 t l0 =>
     simp only [upd1, Option.bind_eq_some_iff] at hu
     obtain ⟨xs, hx, hu⟩ := hu
     obtain ⟨h1, h2⟩ := key hx
     cases hw : Nat.beq t.w 1 with
     | false => simp [hw] at hu
     | true =>
       rw [hw, cond_true, Option.map_eq_some_iff] at hu
       obtain ⟨l2, hl2, rfl⟩ := hu
       obtain ⟨hf, hln⟩ := NW t hl2
       have hff : (Blk.rows m e0 t l2).flat = xs := hf
       have hfl : (Blk.rows m e0 t l2).flat.length = (Blk.rows m e0 t l0).flat.length := by rw [hff, h1]
       refine ⟨h.hw, by rw [h.hn]; simp [Blk.n, hln], h.hm, h.le, fun hbk i av hi => h2 hbk i av (by rw [← hff]; exact hi), fun _ hm0 => absurd hm0 hmode, fun hbk hm0 => own' _ rfl rfl hfl hbk hm0, fun hbk hm0 => h.m1 hbk hm0, fun hbk hm0 => h.m2 hbk hm0, fun hbk => ?_⟩
       have := h.nb hbk
       rw [this] at hfl
       exact List.eq_nil_of_length_eq_zero hfl
   | mix m e0 l0 =>
     simp only [upd1, Option.map_eq_some_iff] at hu
     obtain ⟨xs, hx, rfl⟩ := hu
     obtain ⟨h1, h2⟩ := key hx
     have hfl : (Blk.mix m e0 xs).flat.length = (Blk.mix m e0 l0).flat.length := h1
     refine ⟨h.hw, by rw [h.hn]; exact h1.symm, h.hm, h.le, fun hbk i av hi => h2 hbk i av hi, fun _ hm0 => absurd hm0 hmode, fun hbk hm0 => own' _ rfl rfl hfl hbk hm0, fun hbk hm0 => h.m1 hbk hm0, fun hbk hm0 => h.m2 hbk hm0, fun hbk => ?_⟩
     have := h.nb hbk
     rw [this] at hfl
     exact List.eq_nil_of_length_eq_zero hfl
theorem TZ {b b' : Blk} {d : D} (h : upd1 b d = some b') : b'.isMap = false := by
 unfold upd1 at h
 split at h
 ·split at h
  ·rw [← Option.some.inj h]; rfl
  ·cases h
 ·rw [Option.bind_eq_some_iff] at h
  obtain ⟨vs, _, h⟩ := h
  rw [cond_eq_ite] at h
  split at h
  ·rw [Option.map_eq_some_iff] at h
   obtain ⟨_, _, rfl⟩ := h
   rfl
  ·cases h
 ·rw [Option.map_eq_some_iff] at h
  obtain ⟨_, _, rfl⟩ := h
  rfl
 ·cases h
section
variable [Inhabited az]
theorem RelL.back (h : RelL F L st a w) {ids : List Nat} {os : List D} (hids : Gz st ids) (hn : ids.Nodup) (hS : Step w w' (· ∈ ak L ids)) (hk : ∀ g ∈ ak L ids, Kept w w' g) (hlen : ids.length = os.length)
 (hf : ∀ p ∈ ids.zip os, abe st L w w' p.1 p.2) {h' : Heap} (hb : Ev.back st.heap ids os = some h') : RelL F L { st with heap := h' } a w' := by
 obtain ⟨hb1, hb2⟩ := Vx hb hn
 have inZip : ∀ id ∈ ids, ∃ d, (id, d) ∈ ids.zip os := by
  intro id hid
  obtain ⟨i, hi, rfl⟩ := List.mem_iff_getElem.1 hid
  exact ⟨os[i]'(by omega), List.mem_iff_getElem.2 ⟨i, by simp; omega, by simp⟩⟩
 have mlent : ∀ {id : Nat} {l : Loc}, id ∈ ids → L id = some l → l.backed = true → l.b ∈ ak L ids := by
  intro id l hid hl hbk
  clear hf hb hb1 hb2 inZip hS hk hlen hids hn
  induction ids with
  | nil => simp at hid
  | cons j r ih =>
    simp only [ak]
    rcases List.mem_cons.1 hid with rfl | hid
    ·simp [hl, hbk]
    ·split
     ·split
      ·exact List.mem_cons_of_mem _ (ih hid)
      ·exact ih hid
     ·exact ih hid
 have old : ∀ (j : Nat) (c : Blk), look h' j = some c → ∃ b l, look st.heap j = some b ∧ L j = some l ∧ iY L F.N F.μ w l b ∧ iY L F.N F.μ w' l c := by
  intro j c hj
  by_cases hjm : j ∈ ids
  ·obtain ⟨d, hd⟩ := inZip j hjm
   obtain ⟨b, b', h1, h2, h3⟩ := hb2 _ hd
   obtain ⟨b2, l, hlk, hL, hfact⟩ := hf _ hd
   simp only at h1 h2 h3 hlk hL hfact
   rw [h1] at hlk
   have := Option.some.inj hlk
   subst this
   rw [h3] at hj
   have := Option.some.inj hj
   subst this
   obtain ⟨l2, hl2, hbl⟩ := h.heap j b h1
   rw [hL] at hl2
   have := Option.some.inj hl2
   subst this
   obtain ⟨b3, hb3, hm3⟩ := hids j hjm
   rw [h1] at hb3
   have := Option.some.inj hb3
   subst this
   have hfact' : (∃ m e t l0 l', b = .rows m e t l0 ∧ d = .sl e t l' ∧ l'.length = l0.length ∧ (l.backed = true → yJ w' l.b 0 (l'.flatMap t.enc))) ∨ (∃ e l', d = .ptr e l' ∧ l'.length = b.flat.length ∧ sV w w' l.b 0 l') := by
    rcases hfact with hf | hf | hf
    ·exact .inl hf
    ·exact .inr hf
    ·subst hf
     cases b <;> simp [upd1] at h2
   exact ⟨b, l, h1, hL, hbl, abT hbl hm3 h2 (fun hbk => hk _ (mlent hjm hL hbk)) hfact'⟩
  ·rw [hb1 j hjm] at hj
   obtain ⟨l, hL, hbl⟩ := h.heap j c hj
   exact ⟨c, l, hj, hL, hbl, hbl.keep hS fun hbk hor => Dv h hids hjm hj hL hbk hor⟩
 refine { h with heap := fun j c hj => ?_, inj := fun i j b c l m hi hj hl hm hne hbl hbm h1 h2 => ?_, below := ?_, maps := ?_ }
 ·obtain ⟨b, l, _, hL, _, hbl⟩ := old j c hj
  exact ⟨l, hL, hbl⟩
 ·obtain ⟨b1, _, hi', _⟩ := old i b hi
  obtain ⟨c1, _, hj', _⟩ := old j c hj
  exact h.inj i j b1 c1 l m hi' hj' hl hm hne hbl hbm h1 h2
 ·refine ⟨hS.os.trans h.below.os, hS.tape.trans h.below.tape, hS.output.trans h.below.output, Nat.le_trans h.below.size hS.size, fun k hk2 hn2 => ?_, fun q => Nat.le_trans (h.below.drawn q) (hS.drawn q)⟩
  have hk' : k < w.heap.size := Nat.lt_of_lt_of_le hk2 h.below.size
  refine (hS.block k hk' fun hs => ?_).trans (h.below.block k hk2 hn2)
  obtain ⟨id, l, hid, hL, hbk, rfl⟩ := xW hs
  obtain ⟨b, hb0, hm0⟩ := hids id hid
  obtain ⟨l2, hl2, hbl⟩ := h.heap id b hb0
  rw [hL] at hl2
  have := Option.some.inj hl2
  subst this
  have hbm : b.mode = 1 ∨ b.mode = 2 := by have := hbl.le; omega
  rcases hbm with hbm | hbm
  ·exact hn2 (hbl.m1 hbk hbm)
  ·have := hbl.m2 hbk hbm; simp only [Fix.N] at *; omega
 ·refine h.maps.step hS (fun j c hj hm => ⟨?_, rfl⟩) (fun g es c _ hg hs => ?_) (fun x hx hs => ?_) (fun x _ hx => ?_)
  rotate_left 2
  ·obtain ⟨id, l, hid, hL, hbk, rfl⟩ := xW hs
   obtain ⟨b, hb0, hm0⟩ := hids id hid
   obtain ⟨l2, hl2, hbl⟩ := h.heap id b hb0
   rw [hL] at hl2
   cases hl2
   exact h.maps.far _ hx ⟨id, b, l, hb0, hL, hbk, by rw [hbl.hm]; exact hm0, rfl⟩
  ·obtain ⟨j, c, m, hj, hm, hr⟩ := hx
   obtain ⟨b, _, hb', _⟩ := old j c hj
   exact .inl ⟨j, b, m, hb', hm, hr⟩
  ·by_cases hjm : j ∈ ids
   ·obtain ⟨d, hd⟩ := inZip j hjm
    obtain ⟨b, b', h1, h2, h3⟩ := hb2 _ hd
    simp only at h3
    rw [h3] at hj
    rw [← Option.some.inj hj, TZ h2] at hm
    cases hm
   ·rwa [hb1 j hjm] at hj
  ·obtain ⟨id, l, hid, hL, hbk, rfl⟩ := xW hs
   obtain ⟨b, hb0, hm0⟩ := hids id hid
   obtain ⟨l2, hl2, hbl⟩ := h.heap id b hb0
   rw [hL] at hl2
   have := Option.some.inj hl2
   subst this
   obtain ⟨_, cur, hc, _⟩ := hbl.own hbk hm0
   rw [hc] at hg
   cases hg
end
theorem KW : ∀ {ids : List Nat} {os : List D} {h h' : Heap}, backG h ids os = some h' → ids.Nodup →
 (∀ j, j ∉ ids → look h' j = look h j) ∧ ∀ p ∈ ids.zip os, (p.2 = .nilsl ∧ look h' p.1 = none ∧ ∃ b, look h p.1 = some b ∧ b.mode = 2) ∨ ∃ b b', look h p.1 = some b ∧ upd1 b p.2 = some b' ∧ look h' p.1 = some b'
 | [], [], h, h', hb, _ => by
   simp only [backG, Option.some.injEq] at hb
   subst hb
   exact ⟨fun _ _ => rfl, fun p hp => by simp at hp⟩
 | id :: ids, d :: os, h, h', hb, hn => by
   have hn := List.nodup_cons.1 hn
   by_cases hd : d = .nilsl
   ·subst hd
    simp only [backG, Option.bind_eq_some_iff] at hb
    obtain ⟨b, hbl, hb⟩ := hb
    have hmb : Nat.beq b.mode 2 = true ∧ backG (del h id) ids os = some h' := by
     cases hm : Nat.beq b.mode 2 with
     | true => rw [hm, cond_true] at hb; exact ⟨rfl, hb⟩
     | false => rw [hm, cond_false] at hb; cases hb
    obtain ⟨hm, hb⟩ := hmb
    obtain ⟨h2, h3⟩ := KW hb hn.2
    refine ⟨fun j hj => ?_, fun p hp => ?_⟩
    ·simp only [List.mem_cons, not_or] at hj
     rw [h2 j hj.2, Dz, if_neg hj.1]
    ·rcases List.mem_cons.1 hp with rfl | hp
     ·exact .inl ⟨rfl, by rw [h2 _ hn.1, Dz, if_pos rfl], b, hbl, ay hm⟩
     ·have hpi : p.1 ∈ ids := (List.of_mem_zip hp).1
      have hne : ¬ p.1 = id := fun e => hn.1 (e ▸ hpi)
      rcases h3 p hp with ⟨c1, c2, c, hc1, hc2⟩ | ⟨c, c', hc1, hc2, hc3⟩
      ·rw [Dz, if_neg hne] at hc1
       exact .inl ⟨c1, c2, c, hc1, hc2⟩
      ·rw [Dz, if_neg hne] at hc1
       exact .inr ⟨c, c', hc1, hc2, hc3⟩
   ·have hb' : (Kv h id d).bind (fun h => backG h ids os) = some h' := by
     cases d <;> first
      | exact hb
      | exact absurd rfl hd
    simp only [Kv, Option.bind_eq_some_iff, Option.map_eq_some_iff] at hb'
    obtain ⟨h1, ⟨b, hbl, b', hu, rfl⟩, hb⟩ := hb'
    obtain ⟨h2, h3⟩ := KW hb hn.2
    refine ⟨fun j hj => ?_, fun p hp => ?_⟩
    ·simp only [List.mem_cons, not_or] at hj
     rw [h2 j hj.2, gy, if_neg hj.1]
    ·rcases List.mem_cons.1 hp with rfl | hp
     ·exact .inr ⟨b, b', hbl, hu, by rw [h2 _ hn.1, gy, if_pos rfl]⟩
     ·have hpi : p.1 ∈ ids := (List.of_mem_zip hp).1
      have hne : ¬ p.1 = id := fun e => hn.1 (e ▸ hpi)
      rcases h3 p hp with ⟨c1, c2, c, hc1, hc2⟩ | ⟨c, c', hc1, hc2, hc3⟩
      ·rw [gy, if_neg hne] at hc1
       exact .inl ⟨c1, c2, c, hc1, hc2⟩
      ·rw [gy, if_neg hne] at hc1
       exact .inr ⟨c, c', hc1, hc2, hc3⟩
 | [], _ :: _, _, _, hb, _ => by simp [backG] at hb
 | _ :: _, [], _, _, hb, _ => by simp [backG] at hb
section
variable [Inhabited az]
theorem RelL.backG (h : RelL F L st a w) {ids : List Nat} {os : List D} (hids : Gz st ids) (hn : ids.Nodup) (hS : Step w w' (· ∈ ak L ids)) (hk : ∀ g ∈ ak L ids, Kept w w' g) (hlen : ids.length = os.length)
 (hf : ∀ p ∈ ids.zip os, abe st L w w' p.1 p.2) {h' : Heap} (hb : Ev.backG st.heap ids os = some h') : RelL F L { st with heap := h' } a w' := by
 obtain ⟨hb1, hb2⟩ := KW hb hn
 have inZip : ∀ id ∈ ids, ∃ d, (id, d) ∈ ids.zip os := by
  intro id hid
  obtain ⟨i, hi, rfl⟩ := List.mem_iff_getElem.1 hid
  exact ⟨os[i]'(by omega), List.mem_iff_getElem.2 ⟨i, by simp; omega, by simp⟩⟩
 have mlent : ∀ {id : Nat} {l : Loc}, id ∈ ids → L id = some l → l.backed = true → l.b ∈ ak L ids := by
  intro id l hid hl hbk
  clear hf hb hb1 hb2 inZip hS hk hlen hids hn
  induction ids with
  | nil => simp at hid
  | cons j r ih =>
    simp only [ak]
    rcases List.mem_cons.1 hid with rfl | hid
    ·simp [hl, hbk]
    ·split
     ·split
      ·exact List.mem_cons_of_mem _ (ih hid)
      ·exact ih hid
     ·exact ih hid
 have old : ∀ (j : Nat) (c : Blk), look h' j = some c → ∃ b l, look st.heap j = some b ∧ L j = some l ∧ iY L F.N F.μ w l b ∧ iY L F.N F.μ w' l c := by
  intro j c hj
  by_cases hjm : j ∈ ids
  ·obtain ⟨d, hd⟩ := inZip j hjm
   rcases hb2 _ hd with ⟨_, hnone, _⟩ | ⟨b, b', h1, h2, h3⟩
   ·simp only at hnone
    rw [hnone] at hj
    cases hj
   obtain ⟨b2, l, hlk, hL, hfact⟩ := hf _ hd
   simp only at h1 h2 h3 hlk hL hfact
   rw [h1] at hlk
   have := Option.some.inj hlk
   subst this
   rw [h3] at hj
   have := Option.some.inj hj
   subst this
   obtain ⟨l2, hl2, hbl⟩ := h.heap j b h1
   rw [hL] at hl2
   have := Option.some.inj hl2
   subst this
   obtain ⟨b3, hb3, hm3⟩ := hids j hjm
   rw [h1] at hb3
   have := Option.some.inj hb3
   subst this
   have hfact' : (∃ m e t l0 l', b = .rows m e t l0 ∧ d = .sl e t l' ∧ l'.length = l0.length ∧ (l.backed = true → yJ w' l.b 0 (l'.flatMap t.enc))) ∨ (∃ e l', d = .ptr e l' ∧ l'.length = b.flat.length ∧ sV w w' l.b 0 l') := by
    rcases hfact with hf | hf | hf
    ·exact .inl hf
    ·exact .inr hf
    ·subst hf
     cases b <;> simp [upd1] at h2
   exact ⟨b, l, h1, hL, hbl, abT hbl hm3 h2 (fun hbk => hk _ (mlent hjm hL hbk)) hfact'⟩
  ·rw [hb1 j hjm] at hj
   obtain ⟨l, hL, hbl⟩ := h.heap j c hj
   exact ⟨c, l, hj, hL, hbl, hbl.keep hS fun hbk hor => Dv h hids hjm hj hL hbk hor⟩
 refine { h with heap := fun j c hj => ?_, inj := fun i j b c l m hi hj hl hm hne hbl hbm h1 h2 => ?_, below := ?_, maps := ?_ }
 ·obtain ⟨b, l, _, hL, _, hbl⟩ := old j c hj
  exact ⟨l, hL, hbl⟩
 ·obtain ⟨b1, _, hi', _⟩ := old i b hi
  obtain ⟨c1, _, hj', _⟩ := old j c hj
  exact h.inj i j b1 c1 l m hi' hj' hl hm hne hbl hbm h1 h2
 ·refine ⟨hS.os.trans h.below.os, hS.tape.trans h.below.tape, hS.output.trans h.below.output, Nat.le_trans h.below.size hS.size, fun k hk2 hn2 => ?_, fun q => Nat.le_trans (h.below.drawn q) (hS.drawn q)⟩
  have hk' : k < w.heap.size := Nat.lt_of_lt_of_le hk2 h.below.size
  refine (hS.block k hk' fun hs => ?_).trans (h.below.block k hk2 hn2)
  obtain ⟨id, l, hid, hL, hbk, rfl⟩ := xW hs
  obtain ⟨b, hb0, hm0⟩ := hids id hid
  obtain ⟨l2, hl2, hbl⟩ := h.heap id b hb0
  rw [hL] at hl2
  have := Option.some.inj hl2
  subst this
  have hbm : b.mode = 1 ∨ b.mode = 2 := by have := hbl.le; omega
  rcases hbm with hbm | hbm
  ·exact hn2 (hbl.m1 hbk hbm)
  ·have := hbl.m2 hbk hbm; simp only [Fix.N] at *; omega
 ·refine h.maps.step hS (fun j c hj hm => ⟨?_, rfl⟩) (fun g es c _ hg hs => ?_) (fun x hx hs => ?_) (fun x _ hx => ?_)
  rotate_left 2
  ·obtain ⟨id, l, hid, hL, hbk, rfl⟩ := xW hs
   obtain ⟨b, hb0, hm0⟩ := hids id hid
   obtain ⟨l2, hl2, hbl⟩ := h.heap id b hb0
   rw [hL] at hl2
   cases hl2
   exact h.maps.far _ hx ⟨id, b, l, hb0, hL, hbk, by rw [hbl.hm]; exact hm0, rfl⟩
  ·obtain ⟨j, c, m, hj, hm, hr⟩ := hx
   obtain ⟨b, _, hb', _⟩ := old j c hj
   exact .inl ⟨j, b, m, hb', hm, hr⟩
  ·by_cases hjm : j ∈ ids
   ·obtain ⟨d, hd⟩ := inZip j hjm
    rcases hb2 _ hd with ⟨_, hnone, _⟩ | ⟨b, b', h1, h2, h3⟩
    ·simp only at hnone
     rw [hnone] at hj
     cases hj
    simp only at h3
    rw [h3] at hj
    rw [← Option.some.inj hj, TZ h2] at hm
    cases hm
   ·rwa [hb1 j hjm] at hj
  ·obtain ⟨id, l, hid, hL, hbk, rfl⟩ := xW hs
   obtain ⟨b, hb0, hm0⟩ := hids id hid
   obtain ⟨l2, hl2, hbl⟩ := h.heap id b hb0
   rw [hL] at hl2
   have := Option.some.inj hl2
   subst this
   obtain ⟨_, cur, hc, _⟩ := hbl.own hbk hm0
   rw [hc] at hg
   cases hg
end
end Go.Ev
