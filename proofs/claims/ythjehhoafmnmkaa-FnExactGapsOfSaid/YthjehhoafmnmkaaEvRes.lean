/- A function's results, as data. -/
import Derived.Test.YthjehhoafmnmkaaEvEnd
namespace Go.Ev
open Go.RowKit
variable {α : Type} {P : Program} {w w' : World} {F : Fix} {L : LM} {st : St} {a : Act}
theorem vX (L : LM) (I J : List Nat) : ak L (I ++ J) = ak L I ++ ak L J := by
 induction I with
 | nil => simp [ak]
 | cons i r ih =>
   simp only [List.cons_append, ak]
   split
   ·split <;> simp [ih]
   ·exact ih
def Mine (L : LM) (st : St) (gone : List Nat) (i : Nat) : Prop := ∃ b, look st.heap i = some b ∧ (b.mode = 2 ∨ (b.mode ≠ 0 ∧ i ∈ gone ∧ ∀ l, L i = some l → l.backed = true ∧ l.size ≠ 0))
structure Took (L : LM) (st : St) (gone used I used' : List Nat) : Prop where
 eq : ∀ i, i ∈ used ∨ i ∈ I → i ∈ used'
 nodup : I.Nodup
 new : ∀ i ∈ I, i ∉ used
 own : ∀ i ∈ I, Mine L st gone i
theorem Took.none (L : LM) (st : St) (gone used : List Nat) : Took L st gone used [] used := ⟨by simp, List.nodup_nil, by simp, by simp⟩
theorem Took.skip (L : LM) (st : St) (gone used : List Nat) (id : Nat) : Took L st gone used [] (id :: used) := ⟨fun i hi => by simp at hi; simp [hi], List.nodup_nil, by simp, by simp⟩
theorem Took.one {gone used : List Nat} {id : Nat} (hm : Mine L st gone id) (hn : memN id used = false) : Took L st gone used [id] (id :: used) :=
 ⟨fun i hi => by simp at hi; simp only [List.mem_cons]; exact hi.symm, by simp, fun i hi => by simp at hi; subst hi; exact kz hn, fun i hi => by simp at hi; subst hi; exact hm⟩
theorem Took.trans {gone u I v J x : List Nat} (h : Took L st gone u I v) (k : Took L st gone v J x) : Took L st gone u (I ++ J) x where
 eq := fun i hi => by
  rcases hi with hi | hi
  ·exact k.eq i (.inl (h.eq i (.inl hi)))
  ·rcases List.mem_append.1 hi with hi | hi
   ·exact k.eq i (.inl (h.eq i (.inr hi)))
   ·exact k.eq i (.inr hi)
 nodup := List.nodup_append.2 ⟨h.nodup, k.nodup, fun i hi j hj e => k.new j hj (h.eq j (.inr (e ▸ hi)))⟩
 new := fun i hi hu => by
  rcases List.mem_append.1 hi with hi | hi
  ·exact h.new i hi hu
  ·exact k.new i hi (h.eq i (.inl hu))
 own := fun i hi => by
  rcases List.mem_append.1 hi with hi | hi
  ·exact h.own i hi
  ·exact k.own i hi
section
variable [Inhabited az]
theorem aez (h : RelL F L st a w) {id : Nat} {m : Nat} {e : TypeId} {t : Ty} {l0 : List t.den} (hb : look st.heap id = some (.rows m e t l0)) (hm : m ≠ 0) {l : Loc} (hL : L id = some l) {ad : Option Addr} {n cap : Nat} (hsl : SlOK l ad cap) (hn : n ≤ l0.length) :
 ∀ args, Iz w args (.sl e t (l0.take n)) (.slice ad n cap) (ak L [id]) := by
 obtain ⟨l2, hl2, hbl⟩ := h.heap id _ hb
 rw [hL] at hl2
 have := Option.some.inj hl2
 subst this
 have hmode : l.mode ≠ 0 := by rw [hbl.hm]; exact hm
 have hlen : (l0.take n).length = n := by simp; omega
 intro args
 simp only [Iz, ak, hL]
 cases hbk : l.backed with
 | true =>
   obtain ⟨had, hc⟩ := hsl.2.1 hbk
   obtain ⟨hc1, hc2⟩ := hc hmode
   obtain ⟨ho, cur, hcur, hsz, _⟩ := hbl.own hbk hm
   left
   refine ⟨l.b, cap, cur, by simp, by rw [had, ho, hlen], hcur, ?_, hc2, by rw [hsz, ← hc1]; rw [show l.w = t.w from hbl.hw], ?_⟩
   ·have := hsl.1
    have hn2 : l.n = l0.length := hbl.hn
    rw [hlen]; omega
   ·have := JX (off := 0) hbl hbk (t := t) (xs := l0.take n) (fun i av hi => by
     rw [Nat.zero_add]
     have e1 : (l0.take n).flatMap t.enc = (l0.flatMap t.enc).take (n * t.w) := by
      have := Dj t l0 0 n
      simpa using this
     rw [e1, List.getElem?_take] at hi
     split at hi
     ·exact hi
     ·simp at hi)
    rw [ho] at this
    exact this
 | false =>
   obtain ⟨hn0, hc0⟩ := hsl.2.2 hbk
   have hl0 : l0.length = 0 := by have : l.n = l0.length := hbl.hn; omega
   have : n = 0 := by omega
   subst this
   right
   exact ⟨by simp, by simp, ad, by rw [hc0 hmode]⟩
theorem acM (h : RelL F L st a w) {id : Nat} {m : Nat} {e : TypeId} {t : Ty} {l0 : List t.den} (hb : look st.heap id = some (.rows m e t l0)) {gone used : List Nat} (hm : acw m id gone used = true) {l : Loc} (hL : L id = some l) {ad : Option Addr} {n cap : Nat} (hsl : SlOK l ad cap) (hn : n ≤ l0.length) (args : List Value) :
 ∃ I, Took L st gone used I (id :: used) ∧ Iz w args (.sl e t (l0.take n)) (.slice ad n cap) (ak L I) := by
 unfold acw at hm
 simp only [Bool.and_eq_true, Bool.or_eq_true, Bool.not_eq_true'] at hm
 obtain ⟨hm, hu⟩ := hm
 obtain ⟨l2, hl2, hbl⟩ := h.heap id _ hb
 rw [hL] at hl2
 have := Option.some.inj hl2
 subst this
 rcases hm with hm | ⟨hm, hg⟩
 ·have hm2 := ay hm
  exact ⟨[id], .one ⟨_, hb, .inl hm2⟩ hu, aez h hb (by omega) hL hsl hn args⟩
 ·have hm0 := gW hm
  have hlm : l.mode ≠ 0 := by rw [hbl.hm]; exact hm0
  by_cases hc : cap = 0
  ·have hln : l.n = l0.length := hbl.hn
   have h1 := hsl.1
   have hn0 : n = 0 := by omega
   subst hn0
   exact ⟨[], .skip L st gone used id, .inr ⟨by simp, by simp [ak], ad, by rw [hc]⟩⟩
  ·refine ⟨[id], .one ⟨_, hb, .inr ⟨hm0, mY.1 hg, fun l2 hl2 => ?_⟩⟩ hu, aez h hb hm0 hL hsl hn args⟩
   rw [hL] at hl2
   have := Option.some.inj hl2
   subst this
   cases hbk : l.backed with
   | false => exact absurd ((hsl.2.2 hbk).2 hlm) hc
   | true =>
     refine ⟨rfl, ?_⟩
     obtain ⟨h1, _⟩ := (hsl.2.1 hbk).2 hlm
     rw [← h1, show l.w = t.w from hbl.hw]
     have := Nat.mul_pos (show 0 < cap by omega) (DW t)
     omega
end
def RX (L0 : LM) (vs : List Value) : Prop := ∀ (i : Nat) (lc : Loc), L0 (0 + 64 * i) = some lc → lc.mode = 0 → ∀ a k c, lc.val = .slice a k c → vs[i]? = some lc.val
section
variable [Inhabited az]
theorem aaX (h : RelL F L st a w) {np : Nat} (hlow : F.low = np * 64) {args : List Value} (hargs : RX F.L0 args) {gone used used' : List Nat} {x : AV} {d : D} {v : Value} (hr : Pv st.heap np gone used x = some (d, used')) (hv : V L x v) :
 ∃ I, Took L st gone used I used' ∧ Iz w args d v (ak L I) := by
 unfold Pv at hr
 split at hr
 ·rename_i id
  rw [Option.bind_eq_some_iff] at hr
  obtain ⟨b, hb, hr⟩ := hr
  cases hm0 : Nat.beq b.mode 0 with
  | true =>
    rw [hm0, cond_true] at hr
    have hm := ay hm0
    obtain ⟨hp, hr⟩ := ifB hr
    simp only [Option.some.injEq, Prod.mk.injEq] at hr
    obtain ⟨rfl, rfl⟩ := hr
    simp only [aev, Bool.and_eq_true] at hp
    have hid := ay hp.1
    have hlt : id / 64 < np := by have := hp.2; simpa [Nat.blt_eq] using this
    simp only [V] at hv
    obtain ⟨l, hL, ad, cap, rfl, hsl, hval⟩ := hv
    obtain ⟨l2, hl2, hbl⟩ := h.heap id _ hb
    rw [hL] at hl2
    have := Option.some.inj hl2
    subst this
    have hl0 : l.mode = 0 := by rw [hbl.hm]; exact hm
    have hb0 := h.base id (by rw [hlow]; omega)
    rw [hL] at hb0
    refine ⟨[], .none _ _ _ _, by simp [ak], ?_⟩
    rw [hval hl0]
    exact hargs (id / 64) l (by rw [show 0 + 64 * (id / 64) = id by omega]; exact hb0.symm) hl0 _ _ _ (hval hl0).symm
  | false =>
  rw [hm0, cond_false] at hr
  cases b with
  | map => first | rfl | (cases h; done) | (simp at h; done) | (simp at *; done)
  | bld => first | rfl | (cases h; done) | (simp at h; done) | (simp at *; done)
  | mix => simp at hr
  | rows m e t l0 =>
    simp only at hr
    obtain ⟨hc, hr⟩ := ifB hr
    simp only [Option.some.injEq, Prod.mk.injEq] at hr
    obtain ⟨rfl, rfl⟩ := hr
    simp only [V] at hv
    obtain ⟨l, hL, ad, cap, rfl, hsl, _⟩ := hv
    obtain ⟨l2, hl2, hbl⟩ := h.heap id _ hb
    rw [hL] at hl2
    have := Option.some.inj hl2
    subst this
    have hn : l.n = l0.length := hbl.hn
    obtain ⟨I, h1, h2⟩ := acM h hb hc hL hsl (Nat.le_of_eq hn) args
    refine ⟨I, h1, ?_⟩
    rwa [hn, List.take_length, ← hn] at h2
 ·rename_i id n
  rw [Option.bind_eq_some_iff] at hr
  obtain ⟨b, hb, hr⟩ := hr
  cases b with
  | map => first | rfl | (cases h; done) | (simp at h; done) | (simp at *; done)
  | bld => first | rfl | (cases h; done) | (simp at h; done) | (simp at *; done)
  | mix => simp at hr
  | rows m e t l0 =>
    simp only at hr
    obtain ⟨hc, hr⟩ := ifB hr
    simp only [Option.some.injEq, Prod.mk.injEq] at hr
    obtain ⟨rfl, rfl⟩ := hr
    simp only [V] at hv
    obtain ⟨l, hL, hle, ad, cap, rfl, _, _, hsl⟩ := hv
    obtain ⟨l2, hl2, hbl⟩ := h.heap id _ hb
    rw [hL] at hl2
    have := Option.some.inj hl2
    subst this
    have hn : l.n = l0.length := hbl.hn
    exact acM h hb hc hL (hsl trivial) (by omega) args
 ·rw [Option.map_eq_some_iff] at hr
  obtain ⟨d', hd, hr⟩ := hr
  simp only [Prod.mk.injEq] at hr
  obtain ⟨rfl, rfl⟩ := hr
  obtain ⟨u, h1, h2, _⟩ := FX hd
  have := (sZ h1).1 hv
  subst this
  refine ⟨[], .none _ _ _ _, ?_⟩
  cases d' with
  | sl => simp [DZ] at h2
  | same => simp [DZ] at h2
  | _ => exact ⟨rfl, h2⟩
theorem Pq (h : RelL F L st a w) {np : Nat} (hlow : F.low = np * 64) {args : List Value} (hargs : RX F.L0 args) {gone : List Nat} : ∀ {xs : List AV} {used used' : List Nat} {ds : List D} {vs : List Value}, Gy st.heap np gone used xs = some (ds, used') → VAll L xs vs →
 ∃ I, Took L st gone used I used' ∧ zQ w args ds vs (ak L I) ∧ ds.length = xs.length
 | [], used, used', ds, vs, hr, hv => by
   simp only [Gy, Option.some.injEq, Prod.mk.injEq] at hr
   obtain ⟨rfl, rfl⟩ := hr
   cases vs with
   | nil => exact ⟨[], .none _ _ _ _, by simp [zQ, ak], rfl⟩
   | cons => simp [VAll] at hv
 | x :: xs, used, used', ds, vs, hr, hv => by
   simp only [Gy, Option.bind_eq_some_iff, Option.map_eq_some_iff, Prod.mk.injEq] at hr
   obtain ⟨⟨d, u1⟩, h1, ⟨es, u2⟩, h2, rfl, rfl⟩ := hr
   cases vs with
   | nil => simp [VAll] at hv
   | cons v vs =>
     simp only [VAll] at hv
     obtain ⟨I, k1, k2⟩ := aaX h hlow hargs h1 hv.1
     obtain ⟨J, k3, k4, k5⟩ := Pq h hlow hargs h2 hv.2
     exact ⟨I ++ J, k1.trans k3, by simp only [zQ]; exact ⟨_, _, vX L I J, k2, k4⟩, by simp [k5]⟩
theorem aeJ (h : RelL F L st a w) {np : Nat} (hlow : F.low = np * 64) {args : List Value} (hargs : RX F.L0 args) {gone used used' : List Nat} {x : AV} {d : D} {v : Value} (hr : resD st.heap np gone used x = some (d, used')) (hv : V L x v) :
 ∃ I, Took L st gone used I used' ∧ DOut w args d v (ak L I) := by
 have hcell : ∀ {d : D}, Pv st.heap np gone used x = some (d, used') → ∃ I, Took L st gone used I used' ∧ DOut w args d v (ak L I) := by
  intro d hr
  obtain ⟨I, h1, h2⟩ := aaX h hlow hargs hr hv
  refine ⟨I, h1, ?_⟩
  cases d with
  | agg => obtain ⟨_, h2⟩ := h2; simp [DZ] at h2
  | ptr => obtain ⟨_, h2⟩ := h2; simp [DZ] at h2
  | _ => exact h2
 unfold resD at hr
 split at hr
 ·rename_i xs
  rw [Option.map_eq_some_iff] at hr
  obtain ⟨⟨ds, u⟩, h1, hr⟩ := hr
  simp only [Prod.mk.injEq] at hr
  obtain ⟨rfl, rfl⟩ := hr
  simp only [V] at hv
  obtain ⟨arr, rfl, hv⟩ := hv
  obtain ⟨I, k1, k2, _⟩ := Pq h hlow hargs h1 hv
  exact ⟨I, k1, arr, rfl, k2⟩
 ·rename_i id
  rw [Option.bind_eq_some_iff] at hr
  obtain ⟨b, hb, hr⟩ := hr
  obtain ⟨hm, hr⟩ := ifB hr
  have hm := ay hm
  rw [Option.bind_eq_some_iff] at hr
  obtain ⟨⟨ds, u⟩, h1, hr⟩ := hr
  simp only at hr
  cases ds with
  | nil => simp at hr
  | cons d0 ds =>
    simp only at hr
    obtain ⟨hn, hr⟩ := ifN hr
    simp only [Option.some.injEq, Prod.mk.injEq] at hr
    obtain ⟨rfl, rfl⟩ := hr
    simp only [V] at hv
    obtain ⟨l, hL, rfl⟩ := hv
    obtain ⟨l2, hl2, hbl⟩ := h.heap id _ hb
    rw [hL] at hl2
    have := Option.some.inj hl2
    subst this
    obtain ⟨vs, hV, hc, _⟩ := Hy (off := 0) hbl (cs := b.flat) (fun j av hj => by rw [Nat.zero_add]; exact hj)
    obtain ⟨I, k1, k2, k3⟩ := Pq h hlow hargs h1 hV
    have hbk : l.backed = true := qK hbl (fun e => by rw [e] at k3; simp at k3)
    obtain ⟨ho, cur, hcur, hsz, hfit⟩ := hbl.own hbk (by omega)
    refine ⟨I ++ [id], k1.trans (.one ⟨_, hb, .inl hm⟩ hn), l.b, ak L I, cur, ?_, by rw [ho]; simp, hcur, by omega, ?_⟩
    ·rw [vX]
     simp [ak, hL, hbk]
    ·have : cur.toList.take (d0 :: ds).length = vs := by
      rw [k3, bz hV]
      refine List.ext_getElem? fun j => ?_
      rw [List.getElem?_take]
      have hvl := bz hV
      split
      ·rename_i hj
       have hvj : vs[j]? = some vs[j] := List.getElem?_eq_getElem hj
       have := hc j _ hvj
       rw [Addr.add_lit] at this
       simp only [World.cell?, hcur, ho, Nat.zero_add] at this
       rw [hvj]
       simpa using this
      ·rename_i hj
       exact (List.getElem?_eq_none (by omega)).symm
     rw [this]
     exact k2
 ·exact hcell hr
end
def Qj (tmps : Array Value) : ResultVar → Sem Value
 | .tmp t => pure (tmps.getD t undef)
 | .cell a t => do loadVar t (← asAddr (tmps.getD a undef))
theorem adO (fn : Func) (tmps : Array Value) {vals : List Value} (h : (fn.results.toList.mapM (Qj tmps)).run P w = .ok vals w) : (results fn tmps).run P w = .ok (tupV vals) w := by
 have e : results fn tmps = (do
  let vs ← fn.results.mapM (Qj tmps)
  pure (if h : vs.size = 1 then vs[0] else .tuple vs)) := by
  unfold results
  congr 1
 rw [e, Array.mapM_eq_mapM_toList]
 simp only [Sem.run_bind, map_eq_pure_bind, h, Sem.run_pure, Result.andThen_ok]
 congr 1
 match vals with
 | [] => rfl
 | [v] => rfl
 | u :: v :: r => simp [tupV]
section
variable [Inhabited az]
theorem RY (h : RelL F L st a w) {np : Nat} (hlow : F.low = np * 64) {args : List Value} (hargs : RX F.L0 args) {gone : List Nat} : ∀ {rs : List ResultVar} {used : List Nat} {k : List D → Option α} {r : α}, CQ P np gone rs used st k = some r →
 ∃ ds vals I u', k ds = some r ∧ (rs.mapM (Qj a.tmps)).run P w = .ok vals w ∧ Took L st gone used I u' ∧ LW w args ds vals (ak L I)
 | [], used, k, r, hk => by
   simp only [CQ] at hk
   exact ⟨[], [], [], used, hk, by simp, .none _ _ _ _, by simp [LW, ak]⟩
 | .tmp t :: rs, used, k, r, hk => by
   simp only [CQ, Option.bind_eq_some_iff] at hk
   obtain ⟨⟨d, u⟩, h1, hk⟩ := hk
   have hv : V L (st.slots.getD t .undef) (a.tmps.getD t undef) := h.get (.tmp t)
   obtain ⟨I, k1, k2⟩ := aeJ h hlow hargs h1 hv
   obtain ⟨ds, vals, J, u', k3, k4, k5, k6⟩ := RY h hlow hargs hk
   refine ⟨d :: ds, a.tmps.getD t undef :: vals, I ++ J, u', k3, ?_, k1.trans k5, _, _, vX L I J, k2, k6⟩
   simp [List.mapM_cons, Qj, k4]
 | .cell x t :: rs, used, k, r, hk => by
   simp only [CQ] at hk
   split at hk
   ·rename_i id i c hx
    simp only [Option.bind_eq_some_iff] at hk
    obtain ⟨b, hb, n, hn, ag, hag, hk⟩ := hk
    obtain ⟨l, hL, hbl, he⟩ := Qk h (x := .tmp x) hx hb
    obtain ⟨cs, hk, hl, hcs⟩ := ab5 hk
    obtain ⟨vs, hV, hc, _⟩ := Hy hbl hcs
    have hvl := bz hV
    have he' : a.tmps.getD x undef = .pointer (some ⟨l.b, l.o + (i * b.w + c), none⟩) := he
    have fin : ∀ {y : AV} {v : Value}, V L y v → (Instr.loadAt t (.pointer (some ⟨l.b, l.o + (i * b.w + c), none⟩))).run P w = .ok v w → ((resD st.heap np gone used y).bind fun (d, used) => CQ P np gone rs used st fun ds => k (d :: ds)) = some r →
     ∃ ds vals I u', k ds = some r ∧ ((ResultVar.cell x t :: rs).mapM (Qj a.tmps)).run P w = .ok vals w ∧ Took L st gone used I u' ∧ LW w args ds vals (ak L I) := by
     intro y v hyv hload hk
     rw [Option.bind_eq_some_iff] at hk
     obtain ⟨⟨d, u⟩, h1, hk⟩ := hk
     obtain ⟨I, k1, k2⟩ := aeJ h hlow hargs h1 hyv
     obtain ⟨ds, vals, J, u', k3, k4, k5, k6⟩ := RY h hlow hargs hk
     refine ⟨d :: ds, v :: vals, I ++ J, u', k3, ?_, k1.trans k5, _, _, vX L I J, k2, k6⟩
     have hl2 : (loadVar t ⟨l.b, l.o + (i * b.w + c), none⟩).run P w = .ok v w := by
      simpa [Instr.loadAt, Instr.sureAddr] using hload
     simp [List.mapM_cons, Qj, k4, he', asAddr, hl2]
    cases ag with
    | true =>
      rw [cond_true] at hk
      exact fin (y := .agg cs) (by simp only [V]; exact ⟨vs.toArray, rfl, by simpa using hV⟩) (by
       have := TV (P := P) hn hag (vs := vs) (by omega) hc (by simp)
       simpa using this) hk
    | false =>
      rw [cond_false] at hk
      unfold IY at hk
      split at hk
      ·rename_i y
       match vs, hV with
       | [v], hV =>
         simp only [VAll] at hV
         exact fin hV.1 (by
          have := TV (P := P) hn hag (vs := [v]) (by simpa using hl) hc (fun _ => ⟨v, rfl⟩)
          simpa using this) hk
       | [], hV => simp [VAll] at hV
       | _ :: _ :: _, hV => simp [VAll] at hV
      ·simp at hk
   ·simp at hk
end
end Go.Ev
