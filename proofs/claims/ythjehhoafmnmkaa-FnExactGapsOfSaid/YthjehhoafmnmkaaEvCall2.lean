/- A call, by contract: the caller's side: what is handed over, and what is lent and comes back. -/
import Derived.Test.YthjehhoafmnmkaaEvCall
namespace Go.Ev
open Go.RowKit
variable {α : Type} {P : Program} {w : World} {F : Fix} {L : LM} {st : St} {a : Act}
theorem PW {bad : Nat → Prop} {d : D} {v : Value} {ds : List D} {vs : List Value} {μ : List Nat} (hd : DIn w bad d v) (h : iJ w bad ds vs μ) : iJ w bad (d :: ds) (v :: vs) μ := by
 cases d <;> simp only [iJ] <;> first
  | exact ⟨hd, h⟩
  | (simp only [DIn] at hd)
theorem aaY {l : List Nat} (h : JK l = true) : l.Nodup := by
 induction l with
 | nil => exact List.nodup_nil
 | cons x r ih =>
   simp only [JK, Bool.and_eq_true, Bool.not_eq_true'] at h
   exact List.nodup_cons.2 ⟨kz h.1, ih h.2⟩
section
variable [Inhabited az]
theorem Ky (h : RelL F L st a w) : ∀ {ids : List Nat}, Gz st ids → ids.Nodup → (ak L ids).Nodup
 | [], _, _ => List.nodup_nil
 | id :: r, hids, hn => by
   have hn := List.nodup_cons.1 hn
   have ih := Ky h (ids := r) (fun j hj => hids j (by simp [hj])) hn.2
   simp only [ak]
   split
   ·rename_i l hl
    split
    ·rename_i hb
     refine List.nodup_cons.2 ⟨?_, ih⟩
     obtain ⟨b, hlk, hm⟩ := hids id (by simp)
     exact Dv h (fun j hj => hids j (by simp [hj])) hn.1 hlk hl hb (.inr hm)
    ·exact ih
   ·exact ih
theorem abd (h : RelL F L st a w) {ban : List Nat} (hban : Gz st ban) {x : AV} {d : D} (hd : DJ ban st.heap x = some d) {v : Value} (hv : V L x v) {ds : List D} {vs : List Value} {ids : List Nat} (hrest : iJ w (· ∈ ak L ban) ds vs (ak L ids)) :
 (x = .nilsl ∧ iJ w (· ∈ ak L ban) (d :: ds) (v :: vs) (ak L ids)) ∨ ∃ id, (x = .sl id ∨ x = .ptr id 0 0) ∧ (∃ b, look st.heap id = some b ∧ b.mode ≠ 0) ∧ iJ w (· ∈ ak L ban) (d :: ds) (v :: vs) (ak L (id :: ids)) := by
 unfold DJ at hd
 split at hd
 ·rename_i id
  rw [Option.bind_eq_some_iff] at hd
  obtain ⟨b, hb, hd⟩ := hd
  cases b with
  | map => first | rfl | (cases h; done) | (simp at h; done) | (simp at *; done)
  | bld => first | rfl | (cases h; done) | (simp at h; done) | (simp at *; done)
  | mix m e l0 => simp at hd
  | rows m e t l0 =>
    simp only at hd
    cases hm : Nat.beq m 0 with
    | true => simp [hm] at hd
    | false =>
      rw [hm, cond_false] at hd
      simp only [Option.some.injEq] at hd
      subst hd
      have hm0 := gW hm
      simp only [V] at hv
      obtain ⟨l, hL, ad, cap, rfl, hsl, _⟩ := hv
      obtain ⟨l2, hl2, hbl⟩ := h.heap id _ hb
      rw [hL] at hl2
      have := Option.some.inj hl2
      subst this
      refine .inr ⟨id, .inl rfl, ⟨_, hb, hm0⟩, ?_⟩
      have hcap := hsl.1
      have hmode : l.mode ≠ 0 := by rw [hbl.hm]; exact hm0
      rw [hbl.hn] at hcap ⊢
      simp only [ak, hL, iJ]
      cases hbk : l.backed with
      | true =>
        obtain ⟨had, hc⟩ := hsl.2.1 hbk
        obtain ⟨hc1, hc2⟩ := hc hmode
        obtain ⟨ho, cur, hcur, hsz, _⟩ := hbl.own hbk hm0
        left
        refine ⟨l.b, _, by simp, ⟨cap, cur, by rw [had, ho]; rfl, hcur, hcap, hc2, by rw [hsz, ← hc1]; rw [show l.w = t.w from hbl.hw], ?_⟩, hrest⟩
        have := JX (off := 0) hbl hbk (t := t) (xs := l0) (fun i av hi => by rw [Nat.zero_add]; exact hi)
        rw [ho] at this
        exact this
      | false =>
        obtain ⟨hn, hc0⟩ := hsl.2.2 hbk
        have hl0 : l0 = [] := List.eq_nil_of_length_eq_zero (by have := hbl.hn; simp only [Blk.n] at this; omega)
        right
        subst hl0
        exact ⟨rfl, ⟨ad, by rw [hc0 hmode]; rfl⟩, by simpa using hrest⟩
 ·rename_i id
  rw [Option.bind_eq_some_iff] at hd
  obtain ⟨b, hb, hd⟩ := hd
  simp only [V] at hv
  obtain ⟨l, hL, rfl⟩ := hv
  obtain ⟨l2, hl2, hbl⟩ := h.heap id b hb
  rw [hL] at hl2
  have := Option.some.inj hl2
  subst this
  have key : ∀ {e : TypeId} {f : AV → Option D} {es : List D}, b.e = e → b.mode ≠ 0 → b.flat ≠ [] → allD f b.flat = some es → (∀ x d v, f x = some d → V L x v → DIn w (· ∈ ak L ban) d v) →
   iJ w (· ∈ ak L ban) (.mptr e es :: ds) (.pointer (some ⟨l.b, l.o + (0 * l.w + 0), none⟩) :: vs) (ak L (id :: ids)) := by
   intro e f es he hm0 hfl hes hf
   have hbk := qK hbl hfl
   obtain ⟨ho, cur, hcur, hsz, hle⟩ := hbl.own hbk hm0
   have hel := CW hes
   simp only [ak, hL, hbk, if_true, iJ]
   refine ⟨l.b, _, rfl, ⟨cur, by rw [ho]; simp, by rw [← he]; exact hcur, by rw [hsz, hel]; exact hle, ?_⟩, hrest⟩
   have := Rz hf hes (hbl.cells hbk)
   rw [ho] at this
   exact this
  right
  refine ⟨id, .inr rfl, ?_⟩
  cases b with
  | map => first | rfl | (cases h; done) | (simp at h; done) | (simp at *; done)
  | bld => first | rfl | (cases h; done) | (simp at h; done) | (simp at *; done)
  | rows m e t l0 =>
    simp only at hd
    cases hm : Nat.beq m 0 with
    | true => simp [hm] at hd
    | false =>
      rw [hm, cond_false] at hd
      have hm0 := gW hm
      cases l0 with
      | nil => simp at hd
      | cons y ys =>
        rw [Option.map_eq_some_iff] at hd
        obtain ⟨es, hes, rfl⟩ := hd
        refine ⟨⟨_, hb, hm0⟩, key rfl hm0 ?_ (Wj hes) (fun x d v hd hv => Fj hd hv w _)⟩
        intro e0
        have h1 := fJ t (y :: ys)
        rw [show (y :: ys).flatMap t.enc = [] from e0] at h1
        have hw := DW t
        have h2 : 0 < (y :: ys).length * t.w := Nat.mul_pos (by simp) hw
        simp only [List.length_nil] at h1
        omega
  | mix m e l0 =>
    simp only at hd
    cases hm : Nat.beq m 0 with
    | true => simp [hm] at hd
    | false =>
      rw [hm, cond_false] at hd
      have hm0 := gW hm
      cases l0 with
      | nil => simp at hd
      | cons y ys =>
        rw [Option.map_eq_some_iff] at hd
        obtain ⟨es, hes, rfl⟩ := hd
        exact ⟨⟨_, hb, hm0⟩, key rfl hm0 (by simp [Blk.flat]) hes (JV h hban 3)⟩
 ·left
  simp only [Option.some.injEq] at hd
  subst hd
  simp only [V] at hv
  exact ⟨rfl, PW (by simp only [DIn]; exact hv) hrest⟩
 ·simp at hd
theorem Hz (h : RelL F L st a w) {ban : List Nat} (hban : Gz st ban) : ∀ {ms : List Nat} {xs : List AV} {ids : List Nat} {ds : List D} {vs : List Value}, iQ ms xs = some ids → oV ban st.heap ms xs = some ds → VAll L xs vs →
 iJ w (· ∈ ak L ban) ds vs (ak L ids)
 | ms, [], ids, ds, vs, hi, hd, hv => by
   cases vs with
   | cons => simp [VAll] at hv
   | nil =>
     have e1 : ids = [] := by cases ms <;> simp [iQ] at hi <;> exact hi
     have e2 : ds = [] := by cases ms <;> simp [oV] at hd <;> exact hd
     subst e1 e2
     simp [iJ, ak]
 | [], x :: xs, ids, ds, vs, hi, hd, hv => by
   cases vs with
   | nil => simp [VAll] at hv
   | cons v vs =>
     simp only [VAll] at hv
     simp only [iQ, Option.some.injEq] at hi
     subst hi
     simp only [oV, Option.bind_eq_some_iff, Option.map_eq_some_iff] at hd
     obtain ⟨d, hd1, es, hes, rfl⟩ := hd
     refine PW (JV h hban 4 x d v hd1 hv.1) (Hz h hban (ms := []) (ids := []) ?_ hes hv.2)
     cases xs <;> rfl
 | m :: ms, x :: xs, ids, ds, vs, hi, hd, hv => by
   cases vs with
   | nil => simp [VAll] at hv
   | cons v vs =>
     simp only [VAll] at hv
     simp only [iQ] at hi
     simp only [oV] at hd
     split at hi
     ·
       simp only [Option.bind_eq_some_iff, Option.map_eq_some_iff] at hd
       obtain ⟨d, hd1, es, hes, rfl⟩ := hd
       split at hi
       ·rename_i id
        rw [Option.map_eq_some_iff] at hi
        obtain ⟨ids', hi', rfl⟩ := hi
        rcases abd h hban hd1 hv.1 (Hz h hban hi' hes hv.2) with ⟨h0, _⟩ | ⟨id', hx, _, hr⟩
        ·cases h0
        ·rcases hx with hx | hx <;> cases hx
         exact hr
       ·rename_i id
        rw [Option.map_eq_some_iff] at hi
        obtain ⟨ids', hi', rfl⟩ := hi
        rcases abd h hban hd1 hv.1 (Hz h hban hi' hes hv.2) with ⟨h0, _⟩ | ⟨id', hx, _, hr⟩
        ·cases h0
        ·rcases hx with hx | hx <;> cases hx
         exact hr
       ·rcases abd h hban hd1 hv.1 (Hz h hban hi hes hv.2) with ⟨_, hr⟩ | ⟨id', hx, _, hr⟩
        ·exact hr
        ·rcases hx with hx | hx <;> cases hx
       ·simp at hi
     ·rename_i hm1
      simp only [Option.bind_eq_some_iff, Option.map_eq_some_iff] at hd
      obtain ⟨d, hd1, es, hes, rfl⟩ := hd
      exact PW (JV h hban 4 x d v hd1 hv.1) (Hz h hban hi hes hv.2)
theorem LX (h : RelL F L st a w) {ban : List Nat} : ∀ {ms : List Nat} {xs : List AV} {ids : List Nat} {ds : List D}, iQ ms xs = some ids → oV ban st.heap ms xs = some ds → Gz st ids
 | ms, [], ids, ds, hi, _ => by
   have e1 : ids = [] := by cases ms <;> simp [iQ] at hi <;> exact hi
   subst e1
   exact fun id hid => by simp at hid
 | [], x :: xs, ids, ds, hi, hd => by
   simp only [iQ, Option.some.injEq] at hi
   subst hi
   exact fun id hid => by simp at hid
 | m :: ms, x :: xs, ids, ds, hi, hd => by
   have key : ∀ {id : Nat} {d : D}, DJ ban st.heap x = some d → (x = .sl id ∨ x = .ptr id 0 0) → ∃ b, look st.heap id = some b ∧ b.mode ≠ 0 := by
    intro id d hd hx
    rcases hx with rfl | rfl
    ·simp only [DJ, Option.bind_eq_some_iff] at hd
     obtain ⟨b, hb, hd⟩ := hd
     refine ⟨b, hb, ?_⟩
     cases b with
     | map => first | rfl | (cases h; done) | (simp at h; done) | (simp at *; done)
     | bld => first | rfl | (cases h; done) | (simp at h; done) | (simp at *; done)
     | mix m e l => simp at hd
     | rows m e t l =>
       simp only at hd
       cases hm : Nat.beq m 0 with
       | true => simp [hm] at hd
       | false => exact gW hm
    ·simp only [DJ, Option.bind_eq_some_iff] at hd
     obtain ⟨b, hb, hd⟩ := hd
     refine ⟨b, hb, ?_⟩
     cases b with
     | map => first | rfl | (cases h; done) | (simp at h; done) | (simp at *; done)
     | bld => first | rfl | (cases h; done) | (simp at h; done) | (simp at *; done)
     | mix m e l =>
       simp only at hd
       cases hm : Nat.beq m 0 with
       | true => simp [hm] at hd
       | false => exact gW hm
     | rows m e t l =>
       simp only at hd
       cases hm : Nat.beq m 0 with
       | true => simp [hm] at hd
       | false => exact gW hm
   simp only [iQ] at hi
   simp only [oV] at hd
   split at hi
   ·simp only [Option.bind_eq_some_iff, Option.map_eq_some_iff] at hd
    obtain ⟨d, hd1, es, hes, rfl⟩ := hd
    split at hi
    ·rw [Option.map_eq_some_iff] at hi
     obtain ⟨ids', hi', rfl⟩ := hi
     intro j hj
     rcases List.mem_cons.1 hj with rfl | hj
     ·exact key hd1 (.inl rfl)
     ·exact LX h hi' hes j hj
    ·rw [Option.map_eq_some_iff] at hi
     obtain ⟨ids', hi', rfl⟩ := hi
     intro j hj
     rcases List.mem_cons.1 hj with rfl | hj
     ·exact key hd1 (.inr rfl)
     ·exact LX h hi' hes j hj
    ·exact LX h hi hes
    ·simp at hi
   ·rename_i hm1
    simp only [Option.bind_eq_some_iff, Option.map_eq_some_iff] at hd
    obtain ⟨d, hd1, es, hes, rfl⟩ := hd
    exact LX h hi hes
end
end Go.Ev
