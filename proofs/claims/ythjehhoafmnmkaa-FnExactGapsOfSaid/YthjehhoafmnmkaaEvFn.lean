/- A function, from its entry to its end. -/
import Derived.Test.YthjehhoafmnmkaaEvEnt
namespace Go.Ev
open Go.RowKit
variable {w : World} {μ : List Nat}
theorem jy.weaken {n n' m m' : Nat} {L : LM} {h : Heap} {ν : List Nat} (a : jy w μ n m L h ν) (h1 : n' ≤ n) (h2 : m ≤ m') : jy w μ n' m' L h ν :=
 ⟨by have := a.le; omega, fun id l hl => by have := a.dom id l hl; omega, a.blk, a.mode, a.own, a.inj⟩
section
variable [Inhabited az]
end
theorem agh {n m : Nat} {d : D} {x : AV} {e : Ent} {v : Value} (he : uQ n d = some (x, e, m)) (hd : DIn w (· ∈ μ) d v) :
 ∃ L, jy w μ n m L e.heap [] ∧ e.lent = [] ∧ V L x v ∧ ∀ lc, L n = some lc → lc.mode = 0 → ∀ a k c, lc.val = .slice a k c → v = lc.val := by
 cases d with
 | agg l =>
   simp only [uQ, Option.map_eq_some_iff, Prod.mk.injEq] at he
   obtain ⟨⟨vs, h, m'⟩, hc, rfl, rfl, rfl⟩ := he
   simp only [DIn] at hd
   obtain ⟨arr, rfl, hd⟩ := hd
   obtain ⟨L, a1, a2, _, _⟩ := IZ hc hd
   exact ⟨L, a1.weaken (by omega) (Nat.le_refl _), rfl, by simp only [V]; exact ⟨arr, rfl, a2⟩, fun lc hl => by have := a1.dom n lc hl; omega⟩
 | slm e0 l =>
   simp only [uQ, Option.map_eq_some_iff, Prod.mk.injEq] at he
   obtain ⟨⟨vs, h, m'⟩, hc, rfl, rfl, rfl⟩ := he
   simp only [DIn] at hd
   obtain ⟨ad, cap, rfl, hcap, hd⟩ := hd
   have hlen : vs.length = l.length := by
    have key : ∀ {ds : List D} {n n' : Nat} {xs : List AV} {h : Heap}, mX n ds = some (xs, h, n') → xs.length = ds.length := by
     intro ds
     induction ds with
     | nil => intro n n' xs h he; simp only [mX, Option.some.injEq, Prod.mk.injEq] at he; simp [← he.1]
     | cons d ds ih =>
       intro n n' xs h he
       simp only [mX, Option.bind_eq_some_iff, Option.map_eq_some_iff] at he
       obtain ⟨⟨x, h1, m⟩, hx, ⟨ys, h2, m2⟩, hys, he⟩ := he
       simp only [Prod.mk.injEq] at he
       simp [← he.1, ih hys]
    exact key hc
   have hrow : ∀ b o, (l = [] ∨ (¬ b ∈ μ ∧ AZ w (· ∈ μ) b o l)) → (l ≠ [] → ad = some ⟨b, o, none⟩) → ∃ L, jy w μ n m' L ((n, .mix 0 e0 vs) :: h) [] ∧ ([] : List (Bool × Nat × Blk)) = [] ∧ V L (.sl n) (.slice ad l.length cap) ∧ ∀ lc, L n = some lc → lc.mode = 0 → ∀ a k c, lc.val = .slice a k c → Value.slice ad l.length cap = lc.val := by
    intro b o hd had
    obtain ⟨L, lc, a1, a2, a3, a4, a5, a6, a7, a8, a9⟩ := aew hc hd (blk := .mix 0 e0 vs) rfl rfl (.slice ad l.length cap)
    refine ⟨L, a1, rfl, ?_, fun lc' hl _ _ _ _ _ => by rw [a2] at hl; rw [← Option.some.inj hl, a9]⟩
    simp only [V]
    have hn : lc.n = l.length := by rw [a5]; exact hlen
    refine ⟨lc, a2, ad, cap, by rw [hn], ⟨by rw [hn]; exact hcap, fun hb => ?_, fun hb => ?_⟩, fun _ => a9.symm⟩
    ·have hne : l ≠ [] := by
      intro e
      rw [a8] at hb
      have : vs = [] := List.eq_nil_of_length_eq_zero (by rw [hlen, e]; rfl)
      simp [this] at hb
     exact ⟨by rw [had hne, a3, a4], fun h => absurd a7 h⟩
    ·rw [a8] at hb
     have : vs = [] := by cases vs with
      | nil => rfl
      | cons => simp at hb
     exact ⟨by rw [hn, ← hlen, this]; rfl, fun h => absurd a7 h⟩
   rcases hd with hd | ⟨b, o, rfl, h1, h2⟩
   ·exact hrow 0 0 (.inl hd) (fun h => absurd hd h)
   ·exact hrow b o (.inr ⟨h1, h2⟩) (fun _ => rfl)
 | fn f l =>
   simp only [uQ, Option.map_eq_some_iff, Prod.mk.injEq] at he
   obtain ⟨⟨vs, h, m'⟩, hc, rfl, rfl, rfl⟩ := he
   simp only [DIn] at hd
   obtain ⟨arr, rfl, hd⟩ := hd
   obtain ⟨L, a1, a2⟩ := aax hc hd
   exact ⟨L, a1.weaken (by omega) (Nat.le_refl _), rfl, by simp only [V]; exact ⟨arr, rfl, a2⟩, fun lc hl => by have := a1.dom n lc hl; omega⟩
 | msl => simp [DIn] at hd
 | mptr => simp [DIn] at hd
 | same => simp [DIn] at hd
 | keep => simp [DIn] at hd
 | _ =>
   simp only [uQ, Option.map_eq_some_iff, Prod.mk.injEq] at he
   obtain ⟨⟨v', h, m'⟩, hc, rfl, rfl, rfl⟩ := he
   obtain ⟨L, a1, a2, a3, a4⟩ := aci hc hd
   exact ⟨L, a1, rfl, a2, fun lc hl _ a k c hv => a4 lc hl a k c hv⟩
section
variable [Inhabited az]
end
theorem zq {L L' : LM} (h : Le L L') : ∀ {ds : List D} {vs : List Value} {r : List (Bool × Nat × Blk)} {ν : List Nat}, dJ w L ds vs r ν → dJ w L' ds vs r ν
 | [], [], [], [], _ => by simp [dJ]
 | d :: ds, v :: vs, r, ν, hl => by
   cases d with
   | msl e t l =>
     match r, hl with
     | (s, id, b0) :: r, hl =>
       simp only [dJ] at hl ⊢
       obtain ⟨h1, h2, lc, h3, h4, h6, h5⟩ := hl
       refine ⟨h1, h2, lc, h _ _ h3, h4, h6, ?_⟩
       rcases h5 with ⟨μ', cap, cur, k1, k2, k3, k4, k5, kc, k6⟩ | ⟨k1, k2, k3⟩
       ·exact .inl ⟨μ', cap, cur, k1, k2, k3, k4, k5, kc, zq h k6⟩
       ·exact .inr ⟨k1, k2, zq h k3⟩
     | [], hl => simp [dJ] at hl
   | mptr e l =>
     match r, hl with
     | (s, id, b0) :: r, hl =>
       simp only [dJ] at hl ⊢
       obtain ⟨h1, lc, μ', xs, cur, k1, k2, k3, k4, k5, k6, k7, k8, k9, k10, kw, k11, k12⟩ := hl
       exact ⟨h1, lc, μ', xs, cur, h _ _ k1, k2, k3, k4, k5, k6, k7, k8, k9, k10, kw, fun i j hi => by
        obtain ⟨lj, v0, e1, e2⟩ := k11 i j hi
        exact ⟨lj, v0, h _ _ e1, e2⟩, zq h k12⟩
     | [], hl => simp [dJ] at hl
   | _ =>
     simp only [dJ] at hl ⊢
     exact zq h hl
 | [], _ :: _, _, _, hl => by simp [dJ] at hl
 | [], [], _ :: _, _, hl => by simp [dJ] at hl
 | [], [], [], _ :: _, hl => by simp [dJ] at hl
 | d :: ds, [], r, ν, hl => by cases d <;> cases r <;> simp [dJ] at hl
theorem aeQ {L : LM} {bad : Nat → Prop} {d : D} {v : Value} {ds : List D} {vs : List Value} {r : List (Bool × Nat × Blk)} {ν : List Nat} (hd : DIn w bad d v) (h : dJ w L ds vs r ν) : dJ w L (d :: ds) (v :: vs) r ν := by
 cases d with
 | msl => simp [DIn] at hd
 | mptr => simp [DIn] at hd
 | same => simp [DIn] at hd
 | keep => simp [DIn] at hd
 | _ => simp only [dJ]; exact h
section
variable [Inhabited az]
end
theorem ac9 : ∀ {ds : List D} {n : Nat} {xs : List AV} {e : Ent} {vs : List Value} {ν : List Nat}, entry n ds = some (xs, e) → iJ w (· ∈ μ) ds vs ν → (∀ g ∈ ν, g ∈ μ) → ν.Nodup →
 ∃ L n', jy w μ n n' L e.heap ν ∧ n' ≤ n + 64 * xs.length ∧ VAll L xs vs ∧ dJ w L ds vs e.lent ν ∧ ∀ i lc, L (n + 64 * i) = some lc → lc.mode = 0 → ∀ a k c, lc.val = .slice a k c → vs[i]? = some lc.val
 | [], n, xs, e, vs, ν, he, hd, hν, hn => by
   simp only [entry, Option.some.injEq, Prod.mk.injEq] at he
   obtain ⟨rfl, rfl⟩ := he
   match vs, ν, hd with
   | [], [], _ => exact ⟨LM.none, n, jy.empty n, by simp, by simp [VAll], by simp [dJ], fun i lc h => by simp [LM.none] at h⟩
   | [], _ :: _, hd => simp [iJ] at hd
   | _ :: _, _, hd => simp [iJ] at hd
 | d :: ds, n, xs, e, vs, ν, he, hd, hν, hn => by
   simp only [entry, Option.bind_eq_some_iff] at he
   obtain ⟨⟨x, e1, m⟩, hx, he⟩ := he
   simp only at he
   obtain ⟨hm, he⟩ := ifB he
   have hm := Nat.le_of_ble_eq_true hm
   simp only [Option.map_eq_some_iff, Prod.mk.injEq] at he
   obtain ⟨⟨ys, e2⟩, hys, rfl, rfl⟩ := he
   cases vs with
   | nil => cases d <;> simp [iJ] at hd
   | cons v vs =>
     have comb : ∀ {L1 : LM} {ν1 ν2 : List Nat}, jy w μ n m L1 e1.heap ν1 → V L1 x v → (∀ lc, L1 n = some lc → lc.mode = 0 → ∀ a k c, lc.val = .slice a k c → v = lc.val) → iJ w (· ∈ μ) ds vs ν2 → ν = ν1 ++ ν2 →
      (∀ L, Le L1 L → dJ w L ds vs e2.lent ν2 → dJ w L (d :: ds) (v :: vs) (e1.lent ++ e2.lent) (ν1 ++ ν2)) →
      ∃ L n', jy w μ n n' L (e1.heap ++ e2.heap) ν ∧ n' ≤ n + 64 * (x :: ys).length ∧ VAll L (x :: ys) (v :: vs) ∧ dJ w L (d :: ds) (v :: vs) (e1.lent ++ e2.lent) ν ∧ ∀ i lc, L (n + 64 * i) = some lc → lc.mode = 0 → ∀ a k c, lc.val = .slice a k c → (v :: vs)[i]? = some lc.val := by
      intro L1 ν1 ν2 h1 hV hval hargs hνe hlent
      subst hνe
      have hnd := List.nodup_append.1 hn
      obtain ⟨L2, n2, b1, b2, b3, b4, b5⟩ := ac9 hys hargs (fun g hg => hν g (by simp [hg])) hnd.2.1
      obtain ⟨c1, c2, c3⟩ := (h1.weaken (Nat.le_refl n) hm).join b1 (fun g hg hg' => hnd.2.2 g hg g hg' rfl)
      refine ⟨L1.or L2, n2, c1, by simp; omega, ?_, hlent _ c2 (zq c3 b4), fun i lc hl hmd a k c hv => ?_⟩
      ·simp only [VAll]
       exact ⟨Uw c2 x v hV, AX c3 ys vs b3⟩
      ·simp only [LM.or] at hl
       cases i with
       | zero =>
         simp only [Nat.mul_zero, Nat.add_zero] at hl
         split at hl
         ·rename_i l' hl'
          have := Option.some.inj hl
          subst this
          have := hval _ hl' hmd a k c hv
          simp [this]
         ·have := b1.dom _ _ hl
          omega
       | succ i =>
         split at hl
         ·rename_i l' hl'
          have := h1.dom _ _ hl'
          omega
         ·have := b5 i lc (by rw [show n + 64 + 64 * i = n + 64 * (i + 1) by omega]; exact hl) hmd a k c hv
          simpa using this
     by_cases hmsl : ∃ e t l, d = .msl e t l
     ·obtain ⟨e0, t, l, rfl⟩ := hmsl
      simp only [uQ, Option.some.injEq, Prod.mk.injEq] at hx
      obtain ⟨rfl, rfl, rfl⟩ := hx
      simp only [iJ] at hd
      rcases hd with ⟨g, μ', rfl, ⟨cap, cur, rfl, hc, hlc, hcm, hcs, hcells⟩, hd⟩ | ⟨rfl, ⟨ad, rfl⟩, hd⟩
      ·let lc : Loc := ⟨g, 0, t.w, l.length, 1, cur.size, true, undef⟩
       refine comb (L1 := LM.one n lc) (ν1 := [g]) (ν2 := μ') (jy.one (fun L _ => ?_) (by simp [lc]) (fun _ _ => by simp [lc])) ?_ (fun lc' hl hm0 => ?_) hd rfl (fun L hL hr => ?_)
       ·refine ⟨rfl, rfl, rfl, by simp [Blk.mode], fun _ i av hi => ?_, fun _ h => by simp [Blk.mode] at h, fun _ _ => ⟨rfl, cur, hc, rfl, ?_⟩, fun _ _ => hν g (by simp), fun _ h => by simp [Blk.mode] at h, fun h => by simp [lc] at h⟩
        ·obtain ⟨u, hu, huc⟩ := hcells i av hi
         exact ⟨u, huc, (sZ hu).2 rfl, Dw hu⟩
        ·show (l.flatMap t.enc).length ≤ cur.size
         rw [fJ, hcs]
         exact Nat.mul_le_mul_right _ hlc
       ·simp only [V]
        exact ⟨lc, vV _ _, _, cap, rfl, ⟨hlc, fun _ => ⟨rfl, fun _ => ⟨hcs.symm, hcm⟩⟩, fun h => by simp [lc] at h⟩, fun h => by simp [lc] at h⟩
       ·rw [vV] at hl
        rw [← Option.some.inj hl] at hm0
        simp [lc] at hm0
       ·simp only [List.cons_append, List.nil_append, dJ]
        exact ⟨trivial, by first | trivial | rfl, lc, hL _ _ (vV _ _), rfl, rfl, .inl ⟨μ', cap, cur, rfl, rfl, rfl, hc, rfl, hcs, hr⟩⟩
      ·let lc : Loc := ⟨0, 0, t.w, 0, 1, 0, false, undef⟩
       refine comb (L1 := LM.one n lc) (ν1 := []) (ν2 := ν) (jy.one (fun L _ => ?_) (by simp [lc]) (fun h _ => by simp [lc] at h)) ?_ (fun lc' hl hm0 => ?_) hd rfl (fun L hL hr => ?_)
       ·exact ⟨rfl, rfl, rfl, by simp [Blk.mode], fun h => by simp [lc] at h, fun h => by simp [lc] at h, fun h => by simp [lc] at h, fun h => by simp [lc] at h, fun h => by simp [lc] at h, fun _ => rfl⟩
       ·simp only [V]
        exact ⟨lc, vV _ _, ad, 0, rfl, ⟨Nat.le_refl _, fun h => by simp [lc] at h, fun _ => ⟨rfl, fun _ => rfl⟩⟩, fun h => by simp [lc] at h⟩
       ·rw [vV] at hl
        rw [← Option.some.inj hl] at hm0
        simp [lc] at hm0
       ·simp only [List.cons_append, List.nil_append, dJ]
        exact ⟨trivial, by first | trivial | rfl, lc, hL _ _ (vV _ _), rfl, rfl, .inr ⟨rfl, by first | trivial | rfl, hr⟩⟩
     ·by_cases hmptr : ∃ e l, d = .mptr e l
      ·obtain ⟨e0, l, rfl⟩ := hmptr
       simp only [uQ, Option.map_eq_some_iff, Prod.mk.injEq] at hx
       obtain ⟨⟨us, h, m'⟩, hc, rfl, rfl, rfl⟩ := hx
       simp only [iJ] at hd
       obtain ⟨g, μ', rfl, ⟨cur, rfl, hcur, hle, hcells⟩, hd⟩ := hd
       obtain ⟨ws, k1, k2, k3⟩ := PY hcells
       obtain ⟨L2, b1, b2, b3, b4⟩ := IZ hc k1
       obtain ⟨f1, f2, f3, f4, f5⟩ := uX 1 e0 us
       have hul := bz b2
       let lc : Loc := ⟨g, 0, 1, us.length, 1, cur.size, true, undef⟩
       have hcons := b1.cons (n := n) (l := lc) (b := kZ 1 e0 us) (ν := [g]) ⟨by rw [f2], by rw [f3], by rw [f4], by rw [f4]; omega, fun _ i av hi => ab2 b2 k3 i av (by rw [← f1]; exact hi), fun _ h => by rw [f4] at h; simp at h, fun _ _ => ⟨rfl, cur, by rw [f5]; exact hcur, rfl, by rw [f1]; show us.length ≤ cur.size; omega⟩, fun _ _ => hν g (by simp), fun _ h => by rw [f4] at h; simp at h, fun h => by simp [lc] at h⟩ (by simp [lc]) (fun _ _ => by simp [lc])
       refine comb (L1 := L2.set n lc) (ν1 := [g]) (ν2 := μ') hcons.1 ?_ (fun lc' hl hm0 => ?_) hd rfl (fun L hL hr => ?_)
       ·simp only [V]
        exact ⟨lc, IJ _ _ _, by simp [lc]⟩
       ·rw [IJ] at hl
        rw [← Option.some.inj hl] at hm0
        simp [lc] at hm0
       ·simp only [List.cons_append, List.nil_append, dJ]
        refine ⟨trivial, lc, μ', us, cur, hL _ _ (IJ _ _ _), rfl, rfl, rfl, by omega, rfl, rfl, hcur, rfl, rfl, rfl, fun i j hi => ?_, hr⟩
        obtain ⟨lj, v0, e1, e2, e3, e4⟩ := b4 i j hi
        exact ⟨lj, v0, hL _ _ (hcons.2 _ _ e1), e2, by have := (k3 i v0 e3).1; simpa using this, e4⟩
      ·have hdd : DIn w (· ∈ μ) d v ∧ iJ w (· ∈ μ) ds vs ν := by
        cases d with
        | msl => exact absurd ⟨_, _, _, rfl⟩ hmsl
        | mptr => exact absurd ⟨_, _, rfl⟩ hmptr
        | _ => simp only [iJ] at hd; exact hd
       obtain ⟨L1, a1, a2, a3, a4⟩ := agh hx hdd.1
       refine comb (ν1 := []) (ν2 := ν) a1 a3 a4 hdd.2 rfl (fun L _ hr => ?_)
       rw [a2]
       exact aeQ hdd.1 hr
section
variable [Inhabited az]
end
def yx (h : Heap) : Prop := ∀ p ∈ h, p.2.isMap = false
theorem Nw {h h' : Heap} (a : yx h) (b : yx h') : yx (h ++ h') := fun p hp => by
 rcases List.mem_append.1 hp with hp | hp
 ·exact a p hp
 ·exact b p hp
theorem Gj {i : Nat} {b : Blk} {h : Heap} (a : b.isMap = false) (c : yx h) : yx ((i, b) :: h) := fun p hp => by
 rcases List.mem_cons.1 hp with rfl | hp
 ·exact a
 ·exact c p hp
theorem EK : yx [] := fun p hp => by cases hp
theorem LZ (m : Nat) (e : TypeId) (l : List AV) : (kZ m e l).isMap = false := by
 unfold kZ
 split
 ·split <;> rfl
 ·rfl
theorem aaq {n n' : Nat} {d : D} {x : AV} {h : Heap} (he : yK n d = some (x, h, n')) : yx h := by
 cases d <;> first
  | (simp only [yK, Option.some.injEq, Prod.mk.injEq] at he; obtain ⟨_, rfl, _⟩ := he; exact Gj rfl EK)
  | (simp only [yK, Option.map_eq_some_iff, Prod.mk.injEq] at he; obtain ⟨_, _, _, rfl, _⟩ := he; exact EK)
theorem CV : ∀ {ds : List D} {n n' : Nat} {xs : List AV} {h : Heap}, mX n ds = some (xs, h, n') → yx h
 | [], n, n', xs, h, he => by
   simp only [mX, Option.some.injEq, Prod.mk.injEq] at he
   obtain ⟨_, rfl, _⟩ := he
   exact EK
 | d :: ds, n, n', xs, h, he => by
   simp only [mX, Option.bind_eq_some_iff, Option.map_eq_some_iff] at he
   obtain ⟨⟨x, h1, m⟩, hx, ⟨ys, h2, m2⟩, hys, he⟩ := he
   simp only [Prod.mk.injEq] at he
   obtain ⟨_, rfl, _⟩ := he
   exact Nw (aaq hx) (CV hys)
theorem abW {n n' : Nat} {d : D} {x : AV} {h : Heap} (he : QY n d = some (x, h, n')) : yx h := by
 by_cases hs : ∃ e l, d = .ptr e l
 ·obtain ⟨e, l, rfl⟩ := hs
  simp only [QY, Option.map_eq_some_iff, Prod.mk.injEq] at he
  obtain ⟨⟨vs, h1, m⟩, hc, _, rfl, _⟩ := he
  exact Gj (LZ _ _ _) (CV hc)
 ·have he' : yK n d = some (x, h, n') := by
   cases d <;> first
    | exact he
    | exact absurd ⟨_, _, rfl⟩ hs
  exact aaq he'
theorem aaB : ∀ {ds : List D} {n n' : Nat} {xs : List AV} {h : Heap}, EW n ds = some (xs, h, n') → yx h
 | [], n, n', xs, h, he => by
   simp only [EW, Option.some.injEq, Prod.mk.injEq] at he
   obtain ⟨_, rfl, _⟩ := he
   exact EK
 | d :: ds, n, n', xs, h, he => by
   simp only [EW, Option.bind_eq_some_iff, Option.map_eq_some_iff] at he
   obtain ⟨⟨x, h1, m⟩, hx, ⟨ys, h2, m2⟩, hys, he⟩ := he
   simp only [Prod.mk.injEq] at he
   obtain ⟨_, rfl, _⟩ := he
   exact Nw (abW hx) (aaB hys)
theorem agD {n m : Nat} {d : D} {x : AV} {e : Ent} (he : uQ n d = some (x, e, m)) : yx e.heap := by
 cases d <;> simp only [uQ, Option.map_eq_some_iff, Option.some.injEq, Prod.mk.injEq] at he <;> first
  | (obtain ⟨⟨vs, h1, m1⟩, hc, _, rfl, _⟩ := he; first
      | exact CV hc
      | exact aaB hc
      | exact abW hc
      | exact Gj rfl (CV hc)
      | exact Gj (LZ _ _ _) (CV hc))
  | (obtain ⟨_, rfl, _⟩ := he; exact Gj rfl EK)
theorem adw : ∀ {ds : List D} {n : Nat} {xs : List AV} {e : Ent}, entry n ds = some (xs, e) → yx e.heap
 | [], n, xs, e, he => by
   simp only [entry, Option.some.injEq, Prod.mk.injEq] at he
   obtain ⟨_, rfl⟩ := he
   exact EK
 | d :: ds, n, xs, e, he => by
   simp only [entry, Option.bind_eq_some_iff] at he
   obtain ⟨⟨x, e1, m⟩, hx, he⟩ := he
   obtain ⟨_, he⟩ := ifB he
   simp only [Option.map_eq_some_iff, Prod.mk.injEq] at he
   obtain ⟨⟨ys, e2⟩, hys, _, rfl⟩ := he
   exact Nw (agD hx) (adw hys)
theorem yx.ok {N : Nat} {L : LM} {h : Heap} (a : yx h) : xw N L h w where
 at_ := fun id e kt vt ks vs hl => by have := a _ (wK hl); cases this
 inj := fun i j b c l m hi _ hb _ _ _ _ => by have := a _ (wK hi); rw [hb] at this; cases this
 bat := fun id e eb s hl => by have := a _ (wK hl); cases this
 far := fun x hx => by
  obtain ⟨id, e, eb, s, l, hl, _⟩ := hx
  have := a _ (wK hl)
  cases this
 two := fun i j x _ hx => by
  obtain ⟨e, eb, s, l, hl, _⟩ := hx
  have := a _ (wK hl)
  cases this
end Go.Ev
