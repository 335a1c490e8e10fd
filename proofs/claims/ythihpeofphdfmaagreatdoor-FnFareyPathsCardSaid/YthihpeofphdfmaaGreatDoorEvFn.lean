/- A function, from its CW to its end. -/
import Derived.Test.YthihpeofphdfmaaGreatDoorEvEnt
namespace Go.Ev
open Go.RowKit
variable {w : World} {μ : List Nat}
theorem pY.weaken {n n' m m' : Nat} {L : LM} {h : Heap} {ν : List Nat} (a : pY w μ n m L h ν) (h1 : n' ≤ n) (h2 : m ≤ m') : pY w μ n' m' L h ν :=
 ⟨by have := a.le; omega, fun id l hl => by have := a.dom id l hl; omega, a.blk, a.mode, a.own, a.inj⟩
section
variable [Inhabited aX]
end
theorem al9 {n m : Nat} {d : D} {x : AV} {e : Ent} {v : Value} (he : Gv n d = some (x, e, m)) (hd : DIn w (· ∈ μ) d v) :
 ∃ L, pY w μ n m L e.heap [] ∧ e.lent = [] ∧ V L x v ∧ ∀ lc, L n = some lc → lc.mode = 0 → ∀ a k c, lc.val = .slice a k c → v = lc.val := by
 cases d with
 | agg l =>
   simp only [Gv, Option.map_eq_some_iff, Prod.mk.injEq] at he
   obtain ⟨⟨vs, h, m'⟩, hc, rfl, rfl, rfl⟩ := he
   simp only [DIn] at hd
   obtain ⟨arr, rfl, hd⟩ := hd
   obtain ⟨L, a1, a2, _, _⟩ := aaL hc hd
   exact ⟨L, a1.weaken (by omega) (Nat.le_refl _), rfl, by simp only [V]; exact ⟨arr, rfl, a2⟩, fun lc hl => by have := a1.dom n lc hl; omega⟩
 | slm e0 l =>
   simp only [Gv, Option.map_eq_some_iff, Prod.mk.injEq] at he
   obtain ⟨⟨vs, h, m'⟩, hc, rfl, rfl, rfl⟩ := he
   simp only [DIn] at hd
   obtain ⟨ad, cap, rfl, hcap, hd⟩ := hd
   have hlen : vs.length = l.length := by
    have key : ∀ {ds : List D} {n n' : Nat} {xs : List AV} {h : Heap}, uk n ds = some (xs, h, n') → xs.length = ds.length := by
     intro ds
     induction ds with
     | nil => intro n n' xs h he; simp only [uk, Option.some.injEq, Prod.mk.injEq] at he; simp [← he.1]
     | cons d ds ih =>
       intro n n' xs h he
       simp only [uk, Option.bind_eq_some_iff, Option.map_eq_some_iff] at he
       obtain ⟨⟨x, h1, m⟩, hx, ⟨ys, h2, m2⟩, hys, he⟩ := he
       simp only [Prod.mk.injEq] at he
       simp [← he.1, ih hys]
    exact key hc
   have hrow : ∀ b o, (l = [] ∨ (¬ b ∈ μ ∧ Sj w (· ∈ μ) b o l)) → (l ≠ [] → ad = some ⟨b, o, none⟩) → ∃ L, pY w μ n m' L ((n, .mix 0 e0 vs) :: h) [] ∧ ([] : List (Bool × Nat × Blk)) = [] ∧ V L (.sl n) (.slice ad l.length cap) ∧ ∀ lc, L n = some lc → lc.mode = 0 → ∀ a k c, lc.val = .slice a k c → Value.slice ad l.length cap = lc.val := by
    intro b o hd had
    obtain ⟨L, lc, a1, a2, a3, a4, a5, a6, a7, a8, a9⟩ := akg hc hd (blk := .mix 0 e0 vs) rfl rfl (.slice ad l.length cap)
    refine ⟨L, a1, rfl, ?_, fun lc' hl _ _ _ _ _ => by rw [a2] at hl; rw [← Option.some.inj hl, a9]⟩
    simp only [V]
    have hn : lc.n = l.length := by rw [a5]; exact hlen
    refine ⟨lc, a2, ad, cap, by rw [hn], ⟨by rw [hn]; exact hcap, fun hb => ?_, fun hb => ?_⟩, fun _ => a9.symm⟩
    ·have hne : l ≠ [] := by
      intro e
      rw [a8] at hb
      have : vs = [] := List.eq_nil_of_length_eq_zero (by rw [hlen, e]; rfl)
      simp [this] at hb
     exact ⟨by rw [had hne, a3, a4], fun h => absurd a7 h⟩
    ·rw [a8] at hb
     have : vs = [] := by cases vs with
      | nil => rfl
      | cons => simp at hb
     exact ⟨by rw [hn, ← hlen, this]; rfl, fun h => absurd a7 h⟩
   rcases hd with hd | ⟨b, o, rfl, h1, h2⟩
   ·exact hrow 0 0 (.inl hd) (fun h => absurd hd h)
   ·exact hrow b o (.inr ⟨h1, h2⟩) (fun _ => rfl)
 | fn f l =>
   simp only [Gv, Option.map_eq_some_iff, Prod.mk.injEq] at he
   obtain ⟨⟨vs, h, m'⟩, hc, rfl, rfl, rfl⟩ := he
   simp only [DIn] at hd
   obtain ⟨arr, rfl, hd⟩ := hd
   obtain ⟨L, a1, a2⟩ := agq hc hd
   exact ⟨L, a1.weaken (by omega) (Nat.le_refl _), rfl, by simp only [V]; exact ⟨arr, rfl, a2⟩, fun lc hl => by have := a1.dom n lc hl; omega⟩
 | msl => simp [DIn] at hd
 | mptr => simp [DIn] at hd
 | same => simp [DIn] at hd
 | keep => simp [DIn] at hd
 | _ =>
   simp only [Gv, Option.map_eq_some_iff, Prod.mk.injEq] at he
   obtain ⟨⟨v', h, m'⟩, hc, rfl, rfl, rfl⟩ := he
   obtain ⟨L, a1, a2, a3, a4⟩ := ag6 hc hd
   exact ⟨L, a1, rfl, a2, fun lc hl _ a k c hv => a4 lc hl a k c hv⟩
section
variable [Inhabited aX]
end
theorem TV {L L' : LM} (h : Le L L') : ∀ {ds : List D} {vs : List Value} {r : List (Bool × Nat × Blk)} {ν : List Nat}, iZ w L ds vs r ν → iZ w L' ds vs r ν
 | [], [], [], [], _ => by simp [iZ]
 | d :: ds, v :: vs, r, ν, hl => by
   cases d with
   | msl e t l =>
     match r, hl with
     | (s, id, b0) :: r, hl =>
       simp only [iZ] at hl ⊢
       obtain ⟨h1, h2, lc, h3, h4, h6, h5⟩ := hl
       refine ⟨h1, h2, lc, h _ _ h3, h4, h6, ?_⟩
       rcases h5 with ⟨μ', cap, cur, k1, k2, k3, k4, k5, kc, k6⟩ | ⟨k1, k2, k3⟩
       ·exact .inl ⟨μ', cap, cur, k1, k2, k3, k4, k5, kc, TV h k6⟩
       ·exact .inr ⟨k1, k2, TV h k3⟩
     | [], hl => simp [iZ] at hl
   | mptr e l =>
     match r, hl with
     | (s, id, b0) :: r, hl =>
       simp only [iZ] at hl ⊢
       obtain ⟨h1, lc, μ', xs, cur, k1, k2, k3, k4, k5, k6, k7, k8, k9, k10, kw, k11, k12⟩ := hl
       exact ⟨h1, lc, μ', xs, cur, h _ _ k1, k2, k3, k4, k5, k6, k7, k8, k9, k10, kw, fun i j hi => by
        obtain ⟨lj, v0, e1, e2⟩ := k11 i j hi
        exact ⟨lj, v0, h _ _ e1, e2⟩, TV h k12⟩
     | [], hl => simp [iZ] at hl
   | _ =>
     simp only [iZ] at hl ⊢
     exact TV h hl
 | [], _ :: _, _, _, hl => by simp [iZ] at hl
 | [], [], _ :: _, _, hl => by simp [iZ] at hl
 | [], [], [], _ :: _, hl => by simp [iZ] at hl
 | d :: ds, [], r, ν, hl => by cases d <;> cases r <;> simp [iZ] at hl
theorem ak4 {L : LM} {bad : Nat → Prop} {d : D} {v : Value} {ds : List D} {vs : List Value} {r : List (Bool × Nat × Blk)} {ν : List Nat} (hd : DIn w bad d v) (h : iZ w L ds vs r ν) : iZ w L (d :: ds) (v :: vs) r ν := by
 cases d with
 | msl => simp [DIn] at hd
 | mptr => simp [DIn] at hd
 | same => simp [DIn] at hd
 | keep => simp [DIn] at hd
 | _ => simp only [iZ]; exact h
section
variable [Inhabited aX]
end
theorem aiQ : ∀ {ds : List D} {n : Nat} {xs : List AV} {e : Ent} {vs : List Value} {ν : List Nat}, CW n ds = some (xs, e) → jK w (· ∈ μ) ds vs ν → (∀ g ∈ ν, g ∈ μ) → ν.Nodup →
 ∃ L n', pY w μ n n' L e.heap ν ∧ n' ≤ n + 64 * xs.length ∧ VAll L xs vs ∧ iZ w L ds vs e.lent ν ∧ ∀ i lc, L (n + 64 * i) = some lc → lc.mode = 0 → ∀ a k c, lc.val = .slice a k c → vs[i]? = some lc.val
 | [], n, xs, e, vs, ν, he, hd, hν, hn => by
   simp only [CW, Option.some.injEq, Prod.mk.injEq] at he
   obtain ⟨rfl, rfl⟩ := he
   match vs, ν, hd with
   | [], [], _ => exact ⟨LM.none, n, pY.empty n, by simp, by simp [VAll], by simp [iZ], fun i lc h => by simp [LM.none] at h⟩
   | [], _ :: _, hd => simp [jK] at hd
   | _ :: _, _, hd => simp [jK] at hd
 | d :: ds, n, xs, e, vs, ν, he, hd, hν, hn => by
   simp only [CW, Option.bind_eq_some_iff] at he
   obtain ⟨⟨x, e1, m⟩, hx, he⟩ := he
   simp only at he
   obtain ⟨hm, he⟩ := ifB he
   have hm := Nat.le_of_ble_eq_true hm
   simp only [Option.map_eq_some_iff, Prod.mk.injEq] at he
   obtain ⟨⟨ys, e2⟩, hys, rfl, rfl⟩ := he
   cases vs with
   | nil => cases d <;> simp [jK] at hd
   | cons v vs =>
     have comb : ∀ {L1 : LM} {ν1 ν2 : List Nat}, pY w μ n m L1 e1.heap ν1 → V L1 x v → (∀ lc, L1 n = some lc → lc.mode = 0 → ∀ a k c, lc.val = .slice a k c → v = lc.val) → jK w (· ∈ μ) ds vs ν2 → ν = ν1 ++ ν2 →
      (∀ L, Le L1 L → iZ w L ds vs e2.lent ν2 → iZ w L (d :: ds) (v :: vs) (e1.lent ++ e2.lent) (ν1 ++ ν2)) →
      ∃ L n', pY w μ n n' L (e1.heap ++ e2.heap) ν ∧ n' ≤ n + 64 * (x :: ys).length ∧ VAll L (x :: ys) (v :: vs) ∧ iZ w L (d :: ds) (v :: vs) (e1.lent ++ e2.lent) ν ∧ ∀ i lc, L (n + 64 * i) = some lc → lc.mode = 0 → ∀ a k c, lc.val = .slice a k c → (v :: vs)[i]? = some lc.val := by
      intro L1 ν1 ν2 h1 hV hval hargs hνe hlent
      subst hνe
      have hnd := List.nodup_append.1 hn
      obtain ⟨L2, n2, b1, b2, b3, b4, b5⟩ := aiQ hys hargs (fun g hg => hν g (by simp [hg])) hnd.2.1
      obtain ⟨c1, c2, c3⟩ := (h1.weaken (Nat.le_refl n) hm).join b1 (fun g hg hg' => hnd.2.2 g hg g hg' rfl)
      refine ⟨L1.or L2, n2, c1, by simp; omega, ?_, hlent _ c2 (TV c3 b4), fun i lc hl hmd a k c hv => ?_⟩
      ·simp only [VAll]
       exact ⟨adY c2 x v hV, Tq c3 ys vs b3⟩
      ·simp only [LM.or] at hl
       cases i with
       | zero =>
         simp only [Nat.mul_zero, Nat.add_zero] at hl
         split at hl
         ·rename_i l' hl'
          have := Option.some.inj hl
          subst this
          have := hval _ hl' hmd a k c hv
          simp [this]
         ·have := b1.dom _ _ hl
          omega
       | succ i =>
         split at hl
         ·rename_i l' hl'
          have := h1.dom _ _ hl'
          omega
         ·have := b5 i lc (by rw [show n + 64 + 64 * i = n + 64 * (i + 1) by omega]; exact hl) hmd a k c hv
          simpa using this
     by_cases hmsl : ∃ e t l, d = .msl e t l
     ·obtain ⟨e0, t, l, rfl⟩ := hmsl
      simp only [Gv, Option.some.injEq, Prod.mk.injEq] at hx
      obtain ⟨rfl, rfl, rfl⟩ := hx
      simp only [jK] at hd
      rcases hd with ⟨g, μ', rfl, ⟨cap, cur, rfl, hc, hlc, hcm, hcs, hcells⟩, hd⟩ | ⟨rfl, ⟨ad, rfl⟩, hd⟩
      ·let lc : Loc := ⟨g, 0, t.w, l.length, 1, cur.size, true, undef⟩
       refine comb (L1 := LM.one n lc) (ν1 := [g]) (ν2 := μ') (pY.one (fun L _ => ?_) (by simp [lc]) (fun _ _ => by simp [lc])) ?_ (fun lc' hl hm0 => ?_) hd rfl (fun L hL hr => ?_)
       ·refine ⟨rfl, rfl, rfl, by simp [Blk.mode], fun _ i av hi => ?_, fun _ h => by simp [Blk.mode] at h, fun _ _ => ⟨rfl, cur, hc, rfl, ?_⟩, fun _ _ => hν g (by simp), fun _ h => by simp [Blk.mode] at h, fun h => by simp [lc] at h⟩
        ·obtain ⟨u, hu, huc⟩ := hcells i av hi
         exact ⟨u, huc, (EK hu).2 rfl, TK hu⟩
        ·show (l.flatMap t.enc).length ≤ cur.size
         rw [jV, hcs]
         exact Nat.mul_le_mul_right _ hlc
       ·simp only [V]
        exact ⟨lc, Jk _ _, _, cap, rfl, ⟨hlc, fun _ => ⟨rfl, fun _ => ⟨hcs.symm, hcm⟩⟩, fun h => by simp [lc] at h⟩, fun h => by simp [lc] at h⟩
       ·rw [Jk] at hl
        rw [← Option.some.inj hl] at hm0
        simp [lc] at hm0
       ·simp only [List.cons_append, List.nil_append, iZ]
        exact ⟨trivial, by first | trivial | rfl, lc, hL _ _ (Jk _ _), rfl, rfl, .inl ⟨μ', cap, cur, rfl, rfl, rfl, hc, rfl, hcs, hr⟩⟩
      ·let lc : Loc := ⟨0, 0, t.w, 0, 1, 0, false, undef⟩
       refine comb (L1 := LM.one n lc) (ν1 := []) (ν2 := ν) (pY.one (fun L _ => ?_) (by simp [lc]) (fun h _ => by simp [lc] at h)) ?_ (fun lc' hl hm0 => ?_) hd rfl (fun L hL hr => ?_)
       ·exact ⟨rfl, rfl, rfl, by simp [Blk.mode], fun h => by simp [lc] at h, fun h => by simp [lc] at h, fun h => by simp [lc] at h, fun h => by simp [lc] at h, fun h => by simp [lc] at h, fun _ => rfl⟩
       ·simp only [V]
        exact ⟨lc, Jk _ _, ad, 0, rfl, ⟨Nat.le_refl _, fun h => by simp [lc] at h, fun _ => ⟨rfl, fun _ => rfl⟩⟩, fun h => by simp [lc] at h⟩
       ·rw [Jk] at hl
        rw [← Option.some.inj hl] at hm0
        simp [lc] at hm0
       ·simp only [List.cons_append, List.nil_append, iZ]
        exact ⟨trivial, by first | trivial | rfl, lc, hL _ _ (Jk _ _), rfl, rfl, .inr ⟨rfl, by first | trivial | rfl, hr⟩⟩
     ·by_cases hmptr : ∃ e l, d = .mptr e l
      ·obtain ⟨e0, l, rfl⟩ := hmptr
       simp only [Gv, Option.map_eq_some_iff, Prod.mk.injEq] at hx
       obtain ⟨⟨us, h, m'⟩, hc, rfl, rfl, rfl⟩ := hx
       simp only [jK] at hd
       obtain ⟨g, μ', rfl, ⟨cur, rfl, hcur, hle, hcells⟩, hd⟩ := hd
       obtain ⟨ws, k1, k2, k3⟩ := acp hcells
       obtain ⟨L2, b1, b2, b3, b4⟩ := aaL hc k1
       obtain ⟨f1, f2, f3, f4, f5⟩ := Gx 1 e0 us
       have hul := gy b2
       let lc : Loc := ⟨g, 0, 1, us.length, 1, cur.size, true, undef⟩
       have hcons := b1.cons (n := n) (l := lc) (b := pX 1 e0 us) (ν := [g]) ⟨by rw [f2], by rw [f3], by rw [f4], by rw [f4]; omega, fun _ i av hi => ahz b2 k3 i av (by rw [← f1]; exact hi), fun _ h => by rw [f4] at h; simp at h, fun _ _ => ⟨rfl, cur, by rw [f5]; exact hcur, rfl, by rw [f1]; show us.length ≤ cur.size; omega⟩, fun _ _ => hν g (by simp), fun _ h => by rw [f4] at h; simp at h, fun h => by simp [lc] at h⟩ (by simp [lc]) (fun _ _ => by simp [lc])
       refine comb (L1 := L2.set n lc) (ν1 := [g]) (ν2 := μ') hcons.1 ?_ (fun lc' hl hm0 => ?_) hd rfl (fun L hL hr => ?_)
       ·simp only [V]
        exact ⟨lc, Zy _ _ _, by simp [lc]⟩
       ·rw [Zy] at hl
        rw [← Option.some.inj hl] at hm0
        simp [lc] at hm0
       ·simp only [List.cons_append, List.nil_append, iZ]
        refine ⟨trivial, lc, μ', us, cur, hL _ _ (Zy _ _ _), rfl, rfl, rfl, by omega, rfl, rfl, hcur, rfl, rfl, rfl, fun i j hi => ?_, hr⟩
        obtain ⟨lj, v0, e1, e2, e3, e4⟩ := b4 i j hi
        exact ⟨lj, v0, hL _ _ (hcons.2 _ _ e1), e2, by have := (k3 i v0 e3).1; simpa using this, e4⟩
      ·have hdd : DIn w (· ∈ μ) d v ∧ jK w (· ∈ μ) ds vs ν := by
        cases d with
        | msl => exact absurd ⟨_, _, _, rfl⟩ hmsl
        | mptr => exact absurd ⟨_, _, rfl⟩ hmptr
        | _ => simp only [jK] at hd; exact hd
       obtain ⟨L1, a1, a2, a3, a4⟩ := al9 hx hdd.1
       refine comb (ν1 := []) (ν2 := ν) a1 a3 a4 hdd.2 rfl (fun L _ hr => ?_)
       rw [a2]
       exact ak4 hdd.1 hr
section
variable [Inhabited aX]
end
def RZ (h : Heap) : Prop := ∀ p ∈ h, p.2.isMap = false
theorem abE {h h' : Heap} (a : RZ h) (b : RZ h') : RZ (h ++ h') := fun p hp => by
 rcases List.mem_append.1 hp with hp | hp
 ·exact a p hp
 ·exact b p hp
theorem Yx {i : Nat} {b : Blk} {h : Heap} (a : b.isMap = false) (c : RZ h) : RZ ((i, b) :: h) := fun p hp => by
 rcases List.mem_cons.1 hp with rfl | hp
 ·exact a
 ·exact c p hp
theorem Xq : RZ [] := fun p hp => by cases hp
theorem abd (m : Nat) (e : TypeId) (l : List AV) : (pX m e l).isMap = false := by
 unfold pX
 split
 ·split <;> rfl
 ·rfl
theorem afW {n n' : Nat} {d : D} {x : AV} {h : Heap} (he : Qw n d = some (x, h, n')) : RZ h := by
 cases d <;> first
  | (simp only [Qw, Option.some.injEq, Prod.mk.injEq] at he; obtain ⟨_, rfl, _⟩ := he; exact Yx rfl Xq)
  | (simp only [Qw, Option.map_eq_some_iff, Prod.mk.injEq] at he; obtain ⟨_, _, _, rfl, _⟩ := he; exact Xq)
theorem Vj : ∀ {ds : List D} {n n' : Nat} {xs : List AV} {h : Heap}, uk n ds = some (xs, h, n') → RZ h
 | [], n, n', xs, h, he => by
   simp only [uk, Option.some.injEq, Prod.mk.injEq] at he
   obtain ⟨_, rfl, _⟩ := he
   exact Xq
 | d :: ds, n, n', xs, h, he => by
   simp only [uk, Option.bind_eq_some_iff, Option.map_eq_some_iff] at he
   obtain ⟨⟨x, h1, m⟩, hx, ⟨ys, h2, m2⟩, hys, he⟩ := he
   simp only [Prod.mk.injEq] at he
   obtain ⟨_, rfl, _⟩ := he
   exact abE (afW hx) (Vj hys)
theorem ahG {n n' : Nat} {d : D} {x : AV} {h : Heap} (he : acA n d = some (x, h, n')) : RZ h := by
 by_cases hs : ∃ e l, d = .ptr e l
 ·obtain ⟨e, l, rfl⟩ := hs
  simp only [acA, Option.map_eq_some_iff, Prod.mk.injEq] at he
  obtain ⟨⟨vs, h1, m⟩, hc, _, rfl, _⟩ := he
  exact Yx (abd _ _ _) (Vj hc)
 ·have he' : Qw n d = some (x, h, n') := by
   cases d <;> first
    | exact he
    | exact absurd ⟨_, _, rfl⟩ hs
  exact afW he'
theorem af9 : ∀ {ds : List D} {n n' : Nat} {xs : List AV} {h : Heap}, Xj n ds = some (xs, h, n') → RZ h
 | [], n, n', xs, h, he => by
   simp only [Xj, Option.some.injEq, Prod.mk.injEq] at he
   obtain ⟨_, rfl, _⟩ := he
   exact Xq
 | d :: ds, n, n', xs, h, he => by
   simp only [Xj, Option.bind_eq_some_iff, Option.map_eq_some_iff] at he
   obtain ⟨⟨x, h1, m⟩, hx, ⟨ys, h2, m2⟩, hys, he⟩ := he
   simp only [Prod.mk.injEq] at he
   obtain ⟨_, rfl, _⟩ := he
   exact abE (ahG hx) (af9 hys)
theorem am9 {n m : Nat} {d : D} {x : AV} {e : Ent} (he : Gv n d = some (x, e, m)) : RZ e.heap := by
 cases d <;> simp only [Gv, Option.map_eq_some_iff, Option.some.injEq, Prod.mk.injEq] at he <;> first
  | (obtain ⟨⟨vs, h1, m1⟩, hc, _, rfl, _⟩ := he; first
      | exact Vj hc
      | exact af9 hc
      | exact ahG hc
      | exact Yx rfl (Vj hc)
      | exact Yx (abd _ _ _) (Vj hc))
  | (obtain ⟨_, rfl, _⟩ := he; exact Yx rfl Xq)
theorem aiN : ∀ {ds : List D} {n : Nat} {xs : List AV} {e : Ent}, CW n ds = some (xs, e) → RZ e.heap
 | [], n, xs, e, he => by
   simp only [CW, Option.some.injEq, Prod.mk.injEq] at he
   obtain ⟨_, rfl⟩ := he
   exact Xq
 | d :: ds, n, xs, e, he => by
   simp only [CW, Option.bind_eq_some_iff] at he
   obtain ⟨⟨x, e1, m⟩, hx, he⟩ := he
   obtain ⟨_, he⟩ := ifB he
   simp only [Option.map_eq_some_iff, Prod.mk.injEq] at he
   obtain ⟨⟨ys, e2⟩, hys, _, rfl⟩ := he
   exact abE (am9 hx) (aiN hys)
theorem RZ.ok {N : Nat} {L : LM} {h : Heap} (a : RZ h) : QQ N L h w where
 at_ := fun id e kt vt ks vs hl => by have := a _ (Pz hl); cases this
 inj := fun i j b c l m hi _ hb _ _ _ _ => by have := a _ (Pz hi); rw [hb] at this; cases this
 bat := fun id e eb s hl => by have := a _ (Pz hl); cases this
 far := fun x hx => by
  obtain ⟨id, e, eb, s, l, hl, _⟩ := hx
  have := a _ (Pz hl)
  cases this
 two := fun i j x _ hx => by
  obtain ⟨e, eb, s, l, hl, _⟩ := hx
  have := a _ (Pz hl)
  cases this
end Go.Ev
