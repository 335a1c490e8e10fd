/- A function, from its entry: its arguments, laid into the evaluator's state. -/
import Derived.Test.YthjehhoafmnmkaaEvCode2
namespace Go.Ev
open Go.RowKit
variable {w : World} {μ : List Nat}
def Le (L L' : LM) : Prop := ∀ id l, L id = some l → L' id = some l
mutual
theorem Uw {L L' : LM} (h : Le L L') : ∀ (x : AV) (v : Value), V L x v → V L' x v
 | .undef, _, _ => by simp [V]
 | .int _ _, _, hv => by simpa [V] using hv
 | .bool _, _, hv => by simpa [V] using hv
 | .str _, _, hv => by simpa [V] using hv
 | .nilptr, _, hv => by simpa [V] using hv
 | .nilsl, _, hv => by simpa [V] using hv
 | .emp, _, hv => by simpa [V] using hv
 | .ptr id r c, v, hv => by
   simp only [V] at hv ⊢
   obtain ⟨l, hl, hv⟩ := hv
   exact ⟨l, h _ _ hl, hv⟩
 | .sl id, v, hv => by
   simp only [V] at hv ⊢
   obtain ⟨l, hl, hv⟩ := hv
   exact ⟨l, h _ _ hl, hv⟩
 | .sub id _ _, v, hv => by
   simp only [V] at hv ⊢
   obtain ⟨l, hl, hv⟩ := hv
   exact ⟨l, h _ _ hl, hv⟩
 | .map id, v, hv => by
   simp only [V] at hv ⊢
   obtain ⟨l, hl, hv⟩ := hv
   exact ⟨l, h _ _ hl, hv⟩
 | .agg xs, v, hv => by
   simp only [V] at hv ⊢
   obtain ⟨arr, e, hv⟩ := hv
   exact ⟨arr, e, AX h xs _ hv⟩
 | .tup xs, v, hv => by
   simp only [V] at hv ⊢
   obtain ⟨arr, e, hv⟩ := hv
   exact ⟨arr, e, AX h xs _ hv⟩
 | .fn f xs, v, hv => by
   simp only [V] at hv ⊢
   obtain ⟨arr, e, hv⟩ := hv
   exact ⟨arr, e, AX h xs _ hv⟩
theorem AX {L L' : LM} (h : Le L L') : ∀ (xs : List AV) (vs : List Value), VAll L xs vs → VAll L' xs vs
 | [], [], _ => by simp [VAll]
 | x :: xs, v :: vs, hv => by
   simp only [VAll] at hv ⊢
   exact ⟨Uw h x v hv.1, AX h xs vs hv.2⟩
 | [], _ :: _, hv => by simp [VAll] at hv
 | _ :: _, [], hv => by simp [VAll] at hv
end
theorem LQ {L L' : LM} (h : Le L L') {N : Nat} {l : Loc} {b : Blk} (hb : iY L N μ w l b) : iY L' N μ w l b :=
 ⟨hb.hw, hb.hn, hb.hm, hb.le, fun hbk i av hi => (hb.cells hbk i av hi).imp fun v ⟨hc, hv, h1⟩ => ⟨hc, Uw h av v hv, h1⟩, hb.ro, hb.own, hb.m1, hb.m2, hb.nb⟩
structure jy (w : World) (μ : List Nat) (n n' : Nat) (L : LM) (h : Heap) (ν : List Nat) : Prop where
 le : n ≤ n'
 dom : ∀ (id : Nat) (l : Loc), L id = some l → n ≤ id ∧ id < n'
 blk : ∀ (id : Nat) (b : Blk), look h id = some b → ∃ l, L id = some l ∧ iY L w.heap.size μ w l b
 mode : ∀ (id : Nat) (l : Loc), L id = some l → l.mode ≠ 2
 own : ∀ (id : Nat) (l : Loc), L id = some l → l.backed = true → l.mode ≠ 0 → l.b ∈ ν
 inj : ∀ (i j : Nat) (l m : Loc), L i = some l → L j = some m → i ≠ j → l.backed = true → m.backed = true → l.mode ≠ 0 → m.mode ≠ 0 → l.b ≠ m.b
def LM.or (L L' : LM) : LM := fun id => match L id with
 | some l => some l
 | none => L' id
theorem Tz (L L' : LM) : Le L (L.or L') := fun id l h => by simp [LM.or, h]
theorem adM (h h' : Heap) (id : Nat) : look (h ++ h') id = match look h id with
 | some b => some b
 | none => look h' id := by
 induction h with
 | nil => simp [look]
 | cons p r ih =>
   obtain ⟨j, b⟩ := p
   simp only [List.cons_append, look]
   cases Nat.beq j id with
   | true => simp
   | false => simpa using ih
theorem jy.join {n m n' : Nat} {L L' : LM} {h h' : Heap} {ν ν' : List Nat} (a : jy w μ n m L h ν) (b : jy w μ m n' L' h' ν') (hn : ∀ g, g ∈ ν → g ∈ ν' → False) :
 jy w μ n n' (L.or L') (h ++ h') (ν ++ ν') ∧ Le L (L.or L') ∧ Le L' (L.or L') := by
 have hle : Le L' (L.or L') := fun id l hl => by
  cases hL : L id with
  | none => simp [LM.or, hL, hl]
  | some l2 =>
    have h1 := a.dom id l2 hL
    have h2 := b.dom id l hl
    omega
 have cases' : ∀ (id : Nat) (l : Loc), (L.or L') id = some l → L id = some l ∨ L' id = some l := fun id l hl => by
  cases hL : L id with
  | none => right; simpa [LM.or, hL] using hl
  | some l2 => left; simpa [LM.or, hL] using hl
 refine ⟨⟨Nat.le_trans a.le b.le, fun id l hl => ?_, fun id c hc => ?_, fun id l hl => ?_, fun id l hl hb hm => ?_, fun i j l k hi hj hne hb1 hb2 h1 h2 => ?_⟩, Tz L L', hle⟩
 ·rcases cases' id l hl with hl | hl
  ·have := a.dom id l hl; have := b.le; omega
  ·have := b.dom id l hl; have := a.le; omega
 ·rw [adM] at hc
  split at hc
  ·rename_i c' hc'
   obtain ⟨l, hl, hbl⟩ := a.blk id c' hc'
   have := Option.some.inj hc
   subst this
   exact ⟨l, Tz L L' id l hl, LQ (Tz L L') hbl⟩
  ·obtain ⟨l, hl, hbl⟩ := b.blk id c hc
   exact ⟨l, hle id l hl, LQ hle hbl⟩
 ·rcases cases' id l hl with hl | hl
  ·exact a.mode id l hl
  ·exact b.mode id l hl
 ·rcases cases' id l hl with hl | hl
  ·exact List.mem_append.2 (.inl (a.own id l hl hb hm))
  ·exact List.mem_append.2 (.inr (b.own id l hl hb hm))
 ·rcases cases' i l hi with hi | hi <;> rcases cases' j k hj with hj | hj
  ·exact a.inj i j l k hi hj hne hb1 hb2 h1 h2
  ·intro e; exact hn _ (a.own i l hi hb1 h1) (e ▸ b.own j k hj hb2 h2)
  ·intro e; exact hn _ (a.own j k hj hb2 h2) (e ▸ b.own i l hi hb1 h1)
  ·exact b.inj i j l k hi hj hne hb1 hb2 h1 h2
def LM.none : LM := fun _ => .none
def LM.one (id : Nat) (l : Loc) : LM := fun j => if j = id then some l else .none
theorem jy.empty (n : Nat) : jy w μ n n LM.none [] [] :=
 ⟨Nat.le_refl _, fun id l h => by simp [LM.none] at h, fun id b h => by simp [look] at h, fun id l h => by simp [LM.none] at h, fun id l h => by simp [LM.none] at h, fun i j l m h => by simp [LM.none] at h⟩
theorem jy.one {n : Nat} {l : Loc} {b : Blk} {ν : List Nat} (hb : ∀ L, Le (LM.one n l) L → iY L w.heap.size μ w l b) (hm : l.mode ≠ 2) (ho : l.backed = true → l.mode ≠ 0 → l.b ∈ ν) : jy w μ n (n + 1) (LM.one n l) [(n, b)] ν := by
 have one : ∀ (id : Nat) (k : Loc), LM.one n l id = some k → id = n ∧ k = l := fun id k hk => by
  simp only [LM.one] at hk
  split at hk
  ·rename_i e; exact ⟨e, (Option.some.inj hk).symm⟩
  ·cases hk
 refine ⟨by omega, fun id k hk => ?_, fun id c hc => ?_, fun id k hk => ?_, fun id k hk hb hm => ?_, fun i j k m hi hj hne => ?_⟩
 ·obtain ⟨rfl, rfl⟩ := one id k hk; omega
 ·simp only [look] at hc
  cases e : Nat.beq n id with
  | false => simp [e] at hc
  | true =>
    have := ay e
    subst this
    simp at hc
    subst hc
    exact ⟨l, by simp [LM.one], hb _ (fun _ _ h => h)⟩
 ·obtain ⟨rfl, rfl⟩ := one id k hk; exact hm
 ·rename_i hbk
  obtain ⟨rfl, rfl⟩ := one id k hk; exact ho (by assumption) hm
 ·obtain ⟨rfl, rfl⟩ := one i k hi
  obtain ⟨rfl, rfl⟩ := one j m hj
  exact absurd rfl hne
theorem vV (n : Nat) (l : Loc) : LM.one n l n = some l := by simp [LM.one]
theorem IJ (L : LM) (n : Nat) (l : Loc) : (L.set n l) n = some l := by simp [LM.set]
theorem ahZ {b o : Nat} {l : List AV} (h : yJ w b o l) (hne : l ≠ []) : b < w.heap.size := by
 obtain ⟨x, r, rfl⟩ := List.exists_cons_of_ne_nil hne
 obtain ⟨v, _, hc⟩ := h 0 x rfl
 exact World.block_lt_of_cell? w _ hc
theorem ai6 {L : LM} {d : D} {x : AV} {v : Value} (hx : lK d = some x) {bad : Nat → Prop} (hd : DIn w bad d v) : V L x v ∧ xy x = true := by
 cases d <;> simp [lK] at hx <;> subst hx <;> simp only [DIn] at hd <;> subst hd <;> exact ⟨by simp [V], rfl⟩
theorem ajw {n : Nat} {e : TypeId} {t : Ty} {l : List t.den} {v : Value} (hd : DIn w (· ∈ μ) (.sl e t l) v) :
 ∃ L, jy w μ n (n + 1) L [(n, .rows 0 e t l)] [] ∧ V L (.sl n) v ∧ ∃ lc, L n = some lc ∧ lc.mode = 0 ∧ lc.val = v := by
 simp only [DIn] at hd
 obtain ⟨ad, cap, rfl, hcap, hd⟩ := hd
 have h0 : l = [] ∨ l ≠ [] := by by_cases h : l = []; exact .inl h; exact .inr h
 rcases h0 with rfl | hne
 ·refine ⟨LM.one n ⟨0, 0, t.w, 0, 0, 0, false, .slice ad 0 cap⟩, jy.one (fun L _ => ?_) (by simp) (fun _ h => by simp at h), ?_, ⟨_, vV _ _, rfl, rfl⟩⟩
  ·exact ⟨rfl, rfl, rfl, by simp [Blk.mode], fun h => by simp at h, fun h => by simp at h, fun h => by simp at h, fun h => by simp at h, fun h => by simp at h, fun _ => rfl⟩
  ·simp only [V]
   exact ⟨_, vV _ _, ad, cap, rfl, ⟨Nat.zero_le _, fun h => by simp at h, fun _ => ⟨rfl, fun h => absurd rfl h⟩⟩, fun _ => rfl⟩
 ·rcases hd with hd | ⟨b, o, rfl, hbad, hc⟩
  ·exact absurd hd hne
  ·refine ⟨LM.one n ⟨b, o, t.w, l.length, 0, 0, true, .slice (some ⟨b, o, none⟩) l.length cap⟩, jy.one (fun L _ => ?_) (by simp) (fun _ h => by simp at h), ?_, ⟨_, vV _ _, rfl, rfl⟩⟩
   ·refine ⟨rfl, rfl, rfl, by simp [Blk.mode], fun _ i av hi => ?_, fun _ _ hf => ⟨ahZ hc hf, hbad⟩, fun _ h => by simp [Blk.mode] at h, fun _ h => by simp [Blk.mode] at h, fun _ h => by simp [Blk.mode] at h, fun h => by simp at h⟩
    obtain ⟨u, hu, huc⟩ := hc i av hi
    exact ⟨u, huc, (sZ hu).2 rfl, Dw hu⟩
   ·simp only [V]
    exact ⟨_, vV _ _, _, cap, rfl, ⟨hcap, fun _ => ⟨rfl, fun h => absurd rfl h⟩, fun h => by simp at h⟩, fun _ => rfl⟩
theorem aaZ {n n' : Nat} {d : D} {x : AV} {h : Heap} {v : Value} (he : yK n d = some (x, h, n')) (hd : DIn w (· ∈ μ) d v) :
 ∃ L, jy w μ n n' L h [] ∧ V L x v ∧ xy x = true ∧ ∀ j, x = .sl j → ∃ lc, L j = some lc ∧ lc.mode = 0 ∧ lc.val = v := by
 by_cases hs : ∃ e t l, d = .sl e t l
 ·obtain ⟨e, t, l, rfl⟩ := hs
  simp only [yK, Option.some.injEq, Prod.mk.injEq] at he
  obtain ⟨rfl, rfl, rfl⟩ := he
  obtain ⟨L, h1, h2, h3⟩ := ajw (n := n) hd
  exact ⟨L, h1, h2, rfl, fun j hj => by cases hj; exact h3⟩
 ·have he' : (lK d).map (fun v => (v, ([] : Heap), n)) = some (x, h, n') := by
   cases d <;> first
    | exact he
    | exact absurd ⟨_, _, _, rfl⟩ hs
  rw [Option.map_eq_some_iff] at he'
  obtain ⟨y, hy, he'⟩ := he'
  simp only [Prod.mk.injEq] at he'
  obtain ⟨rfl, rfl, rfl⟩ := he'
  obtain ⟨h1, h2⟩ := ai6 (L := LM.none) hy hd
  refine ⟨LM.none, jy.empty n, h1, h2, fun j hj => ?_⟩
  subst hj
  cases d <;> simp [lK] at hy
theorem IZ : ∀ {ds : List D} {n n' : Nat} {xs : List AV} {h : Heap} {vs : List Value}, mX n ds = some (xs, h, n') → DAll w (· ∈ μ) ds vs →
 ∃ L, jy w μ n n' L h [] ∧ VAll L xs vs ∧ gZ xs = true ∧ ∀ (i j : Nat), xs[i]? = some (.sl j) → ∃ lc v, L j = some lc ∧ lc.mode = 0 ∧ vs[i]? = some v ∧ lc.val = v
 | [], n, n', xs, h, vs, he, hd => by
   simp only [mX, Option.some.injEq, Prod.mk.injEq] at he
   obtain ⟨rfl, rfl, rfl⟩ := he
   cases vs with
   | cons => simp [DAll] at hd
   | nil => exact ⟨LM.none, jy.empty n, by simp [VAll], rfl, fun i j hi => by simp at hi⟩
 | d :: ds, n, n', xs, h, vs, he, hd => by
   cases vs with
   | nil => simp [DAll] at hd
   | cons v vs =>
     simp only [DAll] at hd
     simp only [mX, Option.bind_eq_some_iff, Option.map_eq_some_iff] at he
     obtain ⟨⟨x, h1, m⟩, hx, ⟨ys, h2, m2⟩, hys, he⟩ := he
     simp only [Prod.mk.injEq] at he
     obtain ⟨rfl, rfl, rfl⟩ := he
     obtain ⟨L1, a1, a2, a3, a4⟩ := aaZ hx hd.1
     obtain ⟨L2, b1, b2, b3, b4⟩ := IZ hys hd.2
     obtain ⟨c1, c2, c3⟩ := a1.join b1 (fun g hg => by simp at hg)
     refine ⟨L1.or L2, by simpa using c1, ?_, by simp [gZ, a3, b3], fun i j hi => ?_⟩
     ·simp only [VAll]
      exact ⟨Uw c2 x v a2, AX c3 ys vs b2⟩
     ·cases i with
      | zero =>
        simp at hi
        obtain ⟨lc, e1, e2, e3⟩ := a4 j hi
        exact ⟨lc, v, c2 _ _ e1, e2, rfl, e3⟩
      | succ i =>
        obtain ⟨lc, u, e1, e2, e3, e4⟩ := b4 i j (by simpa using hi)
        exact ⟨lc, u, c3 _ _ e1, e2, by simpa using e3, e4⟩
theorem PY {bad : Nat → Prop} {b : Nat} : ∀ {ds : List D} {o : Nat}, AZ w bad b o ds → ∃ vs, DAll w bad ds vs ∧ vs.length = ds.length ∧ ∀ (i : Nat) (v : Value), vs[i]? = some v → w.cell? ⟨b, o + i, none⟩ = some v ∧ v.oneCell' = true
 | [], o, _ => ⟨[], by simp [DAll], rfl, fun i v hi => by simp at hi⟩
 | d :: ds, o, h => by
   simp only [AZ] at h
   obtain ⟨⟨v, h1, h2, h3⟩, h⟩ := h
   obtain ⟨vs, k1, k2, k3⟩ := PY h
   refine ⟨v :: vs, by simp [DAll, h3, k1], by simp [k2], fun i u hi => ?_⟩
   cases i with
   | zero => simp at hi; subst hi; exact ⟨by simpa using h1, h2⟩
   | succ i =>
     have := k3 i u (by simpa using hi)
     rwa [show o + 1 + i = o + (i + 1) by omega] at this
theorem jy.cons {n n' : Nat} {L : LM} {h : Heap} {ν : List Nat} (a : jy w μ (n + 1) n' L h []) {l : Loc} {b : Blk} (hb : iY L w.heap.size μ w l b) (hm : l.mode ≠ 2) (ho : l.backed = true → l.mode ≠ 0 → l.b ∈ ν) :
 jy w μ n n' (L.set n l) ((n, b) :: h) ν ∧ Le L (L.set n l) := by
 have hle : Le L (L.set n l) := fun id k hk => by
  have := a.dom id k hk
  have e : ¬ id = n := by omega
  simp [LM.set, e, hk]
 have cs : ∀ (id : Nat) (k : Loc), (L.set n l) id = some k → (id = n ∧ k = l) ∨ L id = some k := fun id k hk => by
  simp only [LM.set] at hk
  split at hk
  ·rename_i e; left; exact ⟨e, (Option.some.inj hk).symm⟩
  ·right; exact hk
 refine ⟨⟨by have := a.le; omega, fun id k hk => ?_, fun id c hc => ?_, fun id k hk => ?_, fun id k hk h1 h2 => ?_, fun i j k m hi hj hne h1 h2 h3 h4 => ?_⟩, hle⟩
 ·rcases cs id k hk with ⟨rfl, _⟩ | hk
  ·have := a.le; omega
  ·have := a.dom id k hk; omega
 ·simp only [look] at hc
  cases e : Nat.beq n id with
  | true =>
    rw [e, cond_true] at hc
    have := ay e
    subst this
    have := Option.some.inj hc
    subst this
    exact ⟨l, by simp [LM.set], LQ hle hb⟩
  | false =>
    rw [e, cond_false] at hc
    obtain ⟨k, hk, hbk⟩ := a.blk id c hc
    exact ⟨k, hle _ _ hk, LQ hle hbk⟩
 ·rcases cs id k hk with ⟨_, rfl⟩ | hk
  ·exact hm
  ·exact a.mode id k hk
 ·rcases cs id k hk with ⟨_, rfl⟩ | hk
  ·exact ho h1 h2
  ·exact absurd (a.own id k hk h1 h2) (by simp)
 ·rcases cs i k hi with ⟨e1, _⟩ | hi' <;> rcases cs j m hj with ⟨e2, _⟩ | hj'
  ·exact absurd (e1.trans e2.symm) hne
  ·exact absurd (a.own j m hj' h2 h4) (by simp)
  ·exact absurd (a.own i k hi' h1 h3) (by simp)
  ·exact a.inj i j k m hi' hj' hne h1 h2 h3 h4
theorem ab2 {L : LM} {xs : List AV} {vs : List Value} (hV : VAll L xs vs) {b o : Nat} (hc : ∀ (i : Nat) (v : Value), vs[i]? = some v → w.cell? ⟨b, o + i, none⟩ = some v ∧ v.oneCell' = true) :
 ∀ (i : Nat) (av : AV), xs[i]? = some av → ∃ v, w.cell? ⟨b, o + i, none⟩ = some v ∧ V L av v ∧ v.oneCell' = true := fun i av hi => by
 obtain ⟨v, hv, hVv⟩ := gK i hV hi
 obtain ⟨h1, h2⟩ := hc i v hv
 exact ⟨v, h1, hVv, h2⟩
theorem aew {n n' : Nat} {ds : List D} {xs : List AV} {h : Heap} (he : mX (n + 1) ds = some (xs, h, n')) {b o : Nat} (hd : ds = [] ∨ (¬ b ∈ μ ∧ AZ w (· ∈ μ) b o ds)) {blk : Blk} (hflat : blk.flat = xs) (hmode : blk.mode = 0) (val : Value) :
 ∃ L lc, jy w μ n n' L ((n, blk) :: h) [] ∧ L n = some lc ∧ lc.b = b ∧ lc.o = o ∧ lc.n = blk.n ∧ lc.w = blk.w ∧ lc.mode = 0 ∧ lc.backed = (!xs.isEmpty) ∧ lc.val = val := by
 rcases hd with rfl | ⟨hbad, hc⟩
 ·simp only [mX, Option.some.injEq, Prod.mk.injEq] at he
  obtain ⟨rfl, rfl, rfl⟩ := he
  have hcons := (jy.empty (w := w) (μ := μ) (n + 1)).cons (n := n) (l := ⟨b, o, blk.w, blk.n, 0, 0, false, val⟩) (b := blk) (ν := []) ⟨rfl, rfl, hmode.symm, by omega, fun h => by simp at h, fun h => by simp at h, fun h => by simp at h, fun h => by simp at h, fun h => by simp at h, fun _ => hflat⟩ (by simp) (fun _ h => by simp at h)
  exact ⟨_, _, hcons.1, IJ _ _ _, rfl, rfl, rfl, rfl, rfl, rfl, rfl⟩
 ·obtain ⟨vs, hV, hvl, hcells⟩ := PY hc
  obtain ⟨L2, b1, b2, b3, _⟩ := IZ he hV
  by_cases hxne : xs = []
  ·have hcons := b1.cons (n := n) (l := ⟨b, o, blk.w, blk.n, 0, 0, false, val⟩) (b := blk) (ν := []) ⟨rfl, rfl, hmode.symm, by omega, fun h => by simp at h, fun h => by simp at h, fun h => by simp at h, fun h => by simp at h, fun h => by simp at h, fun _ => by rw [hflat]; exact hxne⟩ (by simp) (fun _ h => by simp at h)
   exact ⟨_, _, hcons.1, IJ _ _ _, rfl, rfl, rfl, rfl, rfl, by simp [hxne], rfl⟩
  ·have hblt : b < w.heap.size := by
    obtain ⟨x, r, rfl⟩ := List.exists_cons_of_ne_nil hxne
    obtain ⟨v, hv, _⟩ := gK 0 b2 (x := x) rfl
    exact World.block_lt_of_cell? w _ (hcells 0 v hv).1
   have hcons := b1.cons (n := n) (l := ⟨b, o, blk.w, blk.n, 0, 0, true, val⟩) (b := blk) (ν := []) ⟨rfl, rfl, hmode.symm, by omega, fun _ i av hi => ab2 b2 hcells i av (by rw [← hflat]; exact hi), fun _ _ _ => ⟨hblt, hbad⟩, fun _ h => absurd hmode h, fun _ h => by omega, fun _ h => by omega, fun h => by simp at h⟩ (by simp) (fun _ h => by simp at h)
   exact ⟨_, _, hcons.1, IJ _ _ _, rfl, rfl, rfl, rfl, rfl, by simp [hxne], rfl⟩
theorem aci {n n' : Nat} {d : D} {x : AV} {h : Heap} {v : Value} (he : QY n d = some (x, h, n')) (hd : DIn w (· ∈ μ) d v) :
 ∃ L, jy w μ n n' L h [] ∧ V L x v ∧ xy x = true ∧ ∀ lc, L n = some lc → ∀ a k c, lc.val = .slice a k c → v = lc.val := by
 by_cases hs : ∃ e l, d = .ptr e l
 ·obtain ⟨e, l, rfl⟩ := hs
  simp only [QY, Option.map_eq_some_iff, Prod.mk.injEq] at he
  obtain ⟨⟨vs, h1, m⟩, hc, rfl, rfl, rfl⟩ := he
  simp only [DIn] at hd
  obtain ⟨b, o, rfl, hd⟩ := hd
  obtain ⟨f1, f2, f3, f4, f5⟩ := uX 0 e vs
  obtain ⟨L, lc, a1, a2, a3, a4, a5, a6, a7, a8, a9⟩ := aew hc hd f1 f4 undef
  exact ⟨L, a1, by simp only [V]; exact ⟨lc, a2, by rw [a3, a4]; simp⟩, rfl, fun lc' hl a k c hv => by rw [a2] at hl; rw [← Option.some.inj hl, a9] at hv; simp [undef] at hv⟩
 ·have he' : yK n d = some (x, h, n') := by
   cases d <;> first
    | exact he
    | exact absurd ⟨_, _, rfl⟩ hs
  obtain ⟨L, a1, a2, a3, a4⟩ := aaZ he' hd
  refine ⟨L, a1, a2, a3, fun lc hl _ _ _ _ => ?_⟩
  by_cases hs2 : ∃ e t l, d = .sl e t l
  ·obtain ⟨e, t, l, rfl⟩ := hs2
   simp only [yK, Option.some.injEq, Prod.mk.injEq] at he'
   obtain ⟨lc', e1, _, e3⟩ := a4 n he'.1.symm
   rw [hl] at e1
   rw [Option.some.inj e1]
   exact e3.symm
  ·have he2 : (lK d).map (fun v => (v, ([] : Heap), n)) = some (x, h, n') := by
    cases d <;> first
     | exact he'
     | exact absurd ⟨_, _, _, rfl⟩ hs2
   rw [Option.map_eq_some_iff] at he2
   obtain ⟨y, hy, he2⟩ := he2
   simp only [Prod.mk.injEq] at he2
   have := a1.dom n lc hl
   omega
theorem aax : ∀ {ds : List D} {n n' : Nat} {xs : List AV} {h : Heap} {vs : List Value}, EW n ds = some (xs, h, n') → DAll w (· ∈ μ) ds vs → ∃ L, jy w μ n n' L h [] ∧ VAll L xs vs
 | [], n, n', xs, h, vs, he, hd => by
   simp only [EW, Option.some.injEq, Prod.mk.injEq] at he
   obtain ⟨rfl, rfl, rfl⟩ := he
   cases vs with
   | cons => simp [DAll] at hd
   | nil => exact ⟨LM.none, jy.empty n, by simp [VAll]⟩
 | d :: ds, n, n', xs, h, vs, he, hd => by
   cases vs with
   | nil => simp [DAll] at hd
   | cons v vs =>
     simp only [DAll] at hd
     simp only [EW, Option.bind_eq_some_iff, Option.map_eq_some_iff] at he
     obtain ⟨⟨x, h1, m⟩, hx, ⟨ys, h2, m2⟩, hys, he⟩ := he
     simp only [Prod.mk.injEq] at he
     obtain ⟨rfl, rfl, rfl⟩ := he
     obtain ⟨L1, a1, a2, _, _⟩ := aci hx hd.1
     obtain ⟨L2, b1, b2⟩ := aax hys hd.2
     obtain ⟨c1, c2, c3⟩ := a1.join b1 (fun g hg => by simp at hg)
     refine ⟨L1.or L2, by simpa using c1, ?_⟩
     simp only [VAll]
     exact ⟨Uw c2 x v a2, AX c3 ys vs b2⟩
def dJ (w : World) (L : LM) : List D → List Value → List (Bool × Nat × Blk) → List Nat → Prop
 | [], [], [], [] => True
 | .msl e t l :: ds, v :: vs, (s, id, b0) :: r, μ => s = true ∧ b0 = .rows 1 e t l ∧ (∃ lc, L id = some lc ∧ lc.mode = 1 ∧ lc.n = l.length ∧
    ((∃ μ' cap cur, μ = lc.b :: μ' ∧ lc.backed = true ∧ v = .slice (some ⟨lc.b, 0, none⟩) l.length cap ∧ w.heap[lc.b]? = some (.cells cur e (0, 0)) ∧ lc.size = cur.size ∧ cur.size = cap * t.w ∧ dJ w L ds vs r μ') ∨
     (lc.backed = false ∧ l = [] ∧ dJ w L ds vs r μ)))
 | .mptr e l :: ds, v :: vs, (s, id, b0) :: r, μ => s = false ∧ ∃ lc μ' xs cur, L id = some lc ∧ lc.mode = 1 ∧ μ = lc.b :: μ' ∧ b0 = kZ 1 e xs ∧ xs.length = l.length ∧ lc.n = xs.length ∧ v = .pointer (some ⟨lc.b, 0, none⟩) ∧ w.heap[lc.b]? = some (.cells cur e (0, 0)) ∧ lc.size = cur.size ∧ lc.backed = true ∧ lc.w = 1 ∧
    (∀ (i j : Nat), xs[i]? = some (.sl j) → ∃ lj v0, L j = some lj ∧ lj.mode = 0 ∧ w.cell? ⟨lc.b, i, none⟩ = some v0 ∧ lj.val = v0) ∧ dJ w L ds vs r μ'
 | .msl _ _ _ :: _, _ :: _, [], _ => False
 | .mptr _ _ :: _, _ :: _, [], _ => False
 | _ :: ds, _ :: vs, r, μ => dJ w L ds vs r μ
 | _, _, _, _ => False
end Go.Ev
