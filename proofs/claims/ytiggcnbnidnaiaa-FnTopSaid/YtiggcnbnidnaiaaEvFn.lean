/- A function, from its uz to its end. -/
import Derived.Test.YtiggcnbnidnaiaaEvEnt
namespace Go.Ev
open Go.RowKit
variable {w : World} {μ : List Nat}
theorem lW.weaken {n n' m m' : Nat} {L : LM} {h : Heap} {ν : List Nat} (a : lW w μ n m L h ν) (h1 : n' ≤ n) (h2 : m ≤ m') : lW w μ n' m' L h ν :=
 ⟨by have := a.le; omega, fun id l hl => by have := a.dom id l hl; omega, a.blk, a.mode, a.own, a.inj⟩
section
variable [Inhabited aQ]
end
theorem ajQ {n m : Nat} {d : D} {x : AV} {e : Ent} {v : Value} (he : zV n d = some (x, e, m)) (hd : DIn w (· ∈ μ) d v) :
 ∃ L, lW w μ n m L e.heap [] ∧ e.lent = [] ∧ V L x v ∧ ∀ lc, L n = some lc → lc.mode = 0 → ∀ a k c, lc.val = .slice a k c → v = lc.val := by
 cases d with
 | agg l =>
   simp only [zV, Option.map_eq_some_iff, Prod.mk.injEq] at he
   obtain ⟨⟨vs, h, m'⟩, hc, rfl, rfl, rfl⟩ := he
   simp only [DIn] at hd
   obtain ⟨arr, rfl, hd⟩ := hd
   obtain ⟨L, a1, a2, _, _⟩ := WJ hc hd
   exact ⟨L, a1.weaken (by omega) (Nat.le_refl _), rfl, by simp only [V]; exact ⟨arr, rfl, a2⟩, fun lc hl => by have := a1.dom n lc hl; omega⟩
 | slm e0 l =>
   simp only [zV, Option.map_eq_some_iff, Prod.mk.injEq] at he
   obtain ⟨⟨vs, h, m'⟩, hc, rfl, rfl, rfl⟩ := he
   simp only [DIn] at hd
   obtain ⟨ad, cap, rfl, hcap, hd⟩ := hd
   have hlen : vs.length = l.length := by
    have key : ∀ {ds : List D} {n n' : Nat} {xs : List AV} {h : Heap}, qV n ds = some (xs, h, n') → xs.length = ds.length := by
     intro ds
     induction ds with
     | nil => intro n n' xs h he; simp only [qV, Option.some.injEq, Prod.mk.injEq] at he; simp [← he.1]
     | cons d ds ih =>
       intro n n' xs h he
       simp only [qV, Option.bind_eq_some_iff, Option.map_eq_some_iff] at he
       obtain ⟨⟨x, h1, m⟩, hx, ⟨ys, h2, m2⟩, hys, he⟩ := he
       simp only [Prod.mk.injEq] at he
       simp [← he.1, ih hys]
    exact key hc
   have hrow : ∀ b o, (l = [] ∨ (¬ b ∈ μ ∧ Jk w (· ∈ μ) b o l)) → (l ≠ [] → ad = some ⟨b, o, none⟩) → ∃ L, lW w μ n m' L ((n, .mix 0 e0 vs) :: h) [] ∧ ([] : List (Bool × Nat × Blk)) = [] ∧ V L (.sl n) (.slice ad l.length cap) ∧ ∀ lc, L n = some lc → lc.mode = 0 → ∀ a k c, lc.val = .slice a k c → Value.slice ad l.length cap = lc.val := by
    intro b o hd had
    obtain ⟨L, lc, a1, a2, a3, a4, a5, a6, a7, a8, a9⟩ := ahV hc hd (blk := .mix 0 e0 vs) rfl rfl (.slice ad l.length cap)
    refine ⟨L, a1, rfl, ?_, fun lc' hl _ _ _ _ _ => by rw [a2] at hl; rw [← Option.some.inj hl, a9]⟩
    simp only [V]
    have hn : lc.n = l.length := by rw [a5]; exact hlen
    refine ⟨lc, a2, ad, cap, by rw [hn], ⟨by rw [hn]; exact hcap, fun hb => ?_, fun hb => ?_⟩, fun _ => a9.symm⟩
    ·have hne : l ≠ [] := by
      intro e
      rw [a8] at hb
      have : vs = [] := List.eq_nil_of_length_eq_zero (by rw [hlen, e]; rfl)
      simp [this] at hb
     exact ⟨by rw [had hne, a3, a4], fun h => absurd a7 h⟩
    ·rw [a8] at hb
     have : vs = [] := by cases vs with
      | nil => rfl
      | cons => simp at hb
     exact ⟨by rw [hn, ← hlen, this]; rfl, fun h => absurd a7 h⟩
   rcases hd with hd | ⟨b, o, rfl, h1, h2⟩
   ·exact hrow 0 0 (.inl hd) (fun h => absurd hd h)
   ·exact hrow b o (.inr ⟨h1, h2⟩) (fun _ => rfl)
 | fn f l =>
   simp only [zV, Option.map_eq_some_iff, Prod.mk.injEq] at he
   obtain ⟨⟨vs, h, m'⟩, hc, rfl, rfl, rfl⟩ := he
   simp only [DIn] at hd
   obtain ⟨arr, rfl, hd⟩ := hd
   obtain ⟨L, a1, a2⟩ := ad6 hc hd
   exact ⟨L, a1.weaken (by omega) (Nat.le_refl _), rfl, by simp only [V]; exact ⟨arr, rfl, a2⟩, fun lc hl => by have := a1.dom n lc hl; omega⟩
 | msl => simp [DIn] at hd
 | mptr => simp [DIn] at hd
 | same => simp [DIn] at hd
 | keep => simp [DIn] at hd
 | _ =>
   simp only [zV, Option.map_eq_some_iff, Prod.mk.injEq] at he
   obtain ⟨⟨v', h, m'⟩, hc, rfl, rfl, rfl⟩ := he
   obtain ⟨L, a1, a2, a3, a4⟩ := afH hc hd
   exact ⟨L, a1, rfl, a2, fun lc hl _ a k c hv => a4 lc hl a k c hv⟩
section
variable [Inhabited aQ]
end
theorem Kq {L L' : LM} (h : Le L L') : ∀ {ds : List D} {vs : List Value} {r : List (Bool × Nat × Blk)} {ν : List Nat}, dY w L ds vs r ν → dY w L' ds vs r ν
 | [], [], [], [], _ => by simp [dY]
 | d :: ds, v :: vs, r, ν, hl => by
   cases d with
   | msl e t l =>
     match r, hl with
     | (s, id, b0) :: r, hl =>
       simp only [dY] at hl ⊢
       obtain ⟨h1, h2, lc, h3, h4, h6, h5⟩ := hl
       refine ⟨h1, h2, lc, h _ _ h3, h4, h6, ?_⟩
       rcases h5 with ⟨μ', cap, cur, k1, k2, k3, k4, k5, kc, k6⟩ | ⟨k1, k2, k3⟩
       ·exact .inl ⟨μ', cap, cur, k1, k2, k3, k4, k5, kc, Kq h k6⟩
       ·exact .inr ⟨k1, k2, Kq h k3⟩
     | [], hl => simp [dY] at hl
   | mptr e l =>
     match r, hl with
     | (s, id, b0) :: r, hl =>
       simp only [dY] at hl ⊢
       obtain ⟨h1, lc, μ', xs, cur, k1, k2, k3, k4, k5, k6, k7, k8, k9, k10, kw, k11, k12⟩ := hl
       exact ⟨h1, lc, μ', xs, cur, h _ _ k1, k2, k3, k4, k5, k6, k7, k8, k9, k10, kw, fun i j hi => by
        obtain ⟨lj, v0, e1, e2⟩ := k11 i j hi
        exact ⟨lj, v0, h _ _ e1, e2⟩, Kq h k12⟩
     | [], hl => simp [dY] at hl
   | _ =>
     simp only [dY] at hl ⊢
     exact Kq h hl
 | [], _ :: _, _, _, hl => by simp [dY] at hl
 | [], [], _ :: _, _, hl => by simp [dY] at hl
 | [], [], [], _ :: _, hl => by simp [dY] at hl
 | d :: ds, [], r, ν, hl => by cases d <;> cases r <;> simp [dY] at hl
theorem aiA {L : LM} {bad : Nat → Prop} {d : D} {v : Value} {ds : List D} {vs : List Value} {r : List (Bool × Nat × Blk)} {ν : List Nat} (hd : DIn w bad d v) (h : dY w L ds vs r ν) : dY w L (d :: ds) (v :: vs) r ν := by
 cases d with
 | msl => simp [DIn] at hd
 | mptr => simp [DIn] at hd
 | same => simp [DIn] at hd
 | keep => simp [DIn] at hd
 | _ => simp only [dY]; exact h
section
variable [Inhabited aQ]
end
theorem agU : ∀ {ds : List D} {n : Nat} {xs : List AV} {e : Ent} {vs : List Value} {ν : List Nat}, uz n ds = some (xs, e) → gy w (· ∈ μ) ds vs ν → (∀ g ∈ ν, g ∈ μ) → ν.Nodup →
 ∃ L n', lW w μ n n' L e.heap ν ∧ n' ≤ n + 64 * xs.length ∧ VAll L xs vs ∧ dY w L ds vs e.lent ν ∧ ∀ i lc, L (n + 64 * i) = some lc → lc.mode = 0 → ∀ a k c, lc.val = .slice a k c → vs[i]? = some lc.val
 | [], n, xs, e, vs, ν, he, hd, hν, hn => by
   simp only [uz, Option.some.injEq, Prod.mk.injEq] at he
   obtain ⟨rfl, rfl⟩ := he
   match vs, ν, hd with
   | [], [], _ => exact ⟨LM.none, n, lW.empty n, by simp, by simp [VAll], by simp [dY], fun i lc h => by simp [LM.none] at h⟩
   | [], _ :: _, hd => simp [gy] at hd
   | _ :: _, _, hd => simp [gy] at hd
 | d :: ds, n, xs, e, vs, ν, he, hd, hν, hn => by
   simp only [uz, Option.bind_eq_some_iff] at he
   obtain ⟨⟨x, e1, m⟩, hx, he⟩ := he
   simp only at he
   obtain ⟨hm, he⟩ := ifB he
   have hm := Nat.le_of_ble_eq_true hm
   simp only [Option.map_eq_some_iff, Prod.mk.injEq] at he
   obtain ⟨⟨ys, e2⟩, hys, rfl, rfl⟩ := he
   cases vs with
   | nil => cases d <;> simp [gy] at hd
   | cons v vs =>
     have comb : ∀ {L1 : LM} {ν1 ν2 : List Nat}, lW w μ n m L1 e1.heap ν1 → V L1 x v → (∀ lc, L1 n = some lc → lc.mode = 0 → ∀ a k c, lc.val = .slice a k c → v = lc.val) → gy w (· ∈ μ) ds vs ν2 → ν = ν1 ++ ν2 →
      (∀ L, Le L1 L → dY w L ds vs e2.lent ν2 → dY w L (d :: ds) (v :: vs) (e1.lent ++ e2.lent) (ν1 ++ ν2)) →
      ∃ L n', lW w μ n n' L (e1.heap ++ e2.heap) ν ∧ n' ≤ n + 64 * (x :: ys).length ∧ VAll L (x :: ys) (v :: vs) ∧ dY w L (d :: ds) (v :: vs) (e1.lent ++ e2.lent) ν ∧ ∀ i lc, L (n + 64 * i) = some lc → lc.mode = 0 → ∀ a k c, lc.val = .slice a k c → (v :: vs)[i]? = some lc.val := by
      intro L1 ν1 ν2 h1 hV hval hargs hνe hlent
      subst hνe
      have hnd := List.nodup_append.1 hn
      obtain ⟨L2, n2, b1, b2, b3, b4, b5⟩ := agU hys hargs (fun g hg => hν g (by simp [hg])) hnd.2.1
      obtain ⟨c1, c2, c3⟩ := (h1.weaken (Nat.le_refl n) hm).join b1 (fun g hg hg' => hnd.2.2 g hg g hg' rfl)
      refine ⟨L1.or L2, n2, c1, by simp; omega, ?_, hlent _ c2 (Kq c3 b4), fun i lc hl hmd a k c hv => ?_⟩
      ·simp only [VAll]
       exact ⟨acL c2 x v hV, Jj c3 ys vs b3⟩
      ·simp only [LM.or] at hl
       cases i with
       | zero =>
         simp only [Nat.mul_zero, Nat.add_zero] at hl
         split at hl
         ·rename_i l' hl'
          have := Option.some.inj hl
          subst this
          have := hval _ hl' hmd a k c hv
          simp [this]
         ·have := b1.dom _ _ hl
          omega
       | succ i =>
         split at hl
         ·rename_i l' hl'
          have := h1.dom _ _ hl'
          omega
         ·have := b5 i lc (by rw [show n + 64 + 64 * i = n + 64 * (i + 1) by omega]; exact hl) hmd a k c hv
          simpa using this
     by_cases hmsl : ∃ e t l, d = .msl e t l
     ·obtain ⟨e0, t, l, rfl⟩ := hmsl
      simp only [zV, Option.some.injEq, Prod.mk.injEq] at hx
      obtain ⟨rfl, rfl, rfl⟩ := hx
      simp only [gy] at hd
      rcases hd with ⟨g, μ', rfl, ⟨cap, cur, rfl, hc, hlc, hcm, hcs, hcells⟩, hd⟩ | ⟨rfl, ⟨ad, rfl⟩, hd⟩
      ·let lc : Loc := ⟨g, 0, t.w, l.length, 1, cur.size, true, undef⟩
       refine comb (L1 := LM.one n lc) (ν1 := [g]) (ν2 := μ') (lW.one (fun L _ => ?_) (by simp [lc]) (fun _ _ => by simp [lc])) ?_ (fun lc' hl hm0 => ?_) hd rfl (fun L hL hr => ?_)
       ·refine ⟨rfl, rfl, rfl, by simp [Blk.mode], fun _ i av hi => ?_, fun _ h => by simp [Blk.mode] at h, fun _ _ => ⟨rfl, cur, hc, rfl, ?_⟩, fun _ _ => hν g (by simp), fun _ h => by simp [Blk.mode] at h, fun h => by simp [lc] at h⟩
        ·obtain ⟨u, hu, huc⟩ := hcells i av hi
         exact ⟨u, huc, (xq hu).2 rfl, Pz hu⟩
        ·show (l.flatMap t.enc).length ≤ cur.size
         rw [gZ, hcs]
         exact Nat.mul_le_mul_right _ hlc
       ·simp only [V]
        exact ⟨lc, Bq _ _, _, cap, rfl, ⟨hlc, fun _ => ⟨rfl, fun _ => ⟨hcs.symm, hcm⟩⟩, fun h => by simp [lc] at h⟩, fun h => by simp [lc] at h⟩
       ·rw [Bq] at hl
        rw [← Option.some.inj hl] at hm0
        simp [lc] at hm0
       ·simp only [List.cons_append, List.nil_append, dY]
        exact ⟨trivial, by first | trivial | rfl, lc, hL _ _ (Bq _ _), rfl, rfl, .inl ⟨μ', cap, cur, rfl, rfl, rfl, hc, rfl, hcs, hr⟩⟩
      ·let lc : Loc := ⟨0, 0, t.w, 0, 1, 0, false, undef⟩
       refine comb (L1 := LM.one n lc) (ν1 := []) (ν2 := ν) (lW.one (fun L _ => ?_) (by simp [lc]) (fun h _ => by simp [lc] at h)) ?_ (fun lc' hl hm0 => ?_) hd rfl (fun L hL hr => ?_)
       ·exact ⟨rfl, rfl, rfl, by simp [Blk.mode], fun h => by simp [lc] at h, fun h => by simp [lc] at h, fun h => by simp [lc] at h, fun h => by simp [lc] at h, fun h => by simp [lc] at h, fun _ => rfl⟩
       ·simp only [V]
        exact ⟨lc, Bq _ _, ad, 0, rfl, ⟨Nat.le_refl _, fun h => by simp [lc] at h, fun _ => ⟨rfl, fun _ => rfl⟩⟩, fun h => by simp [lc] at h⟩
       ·rw [Bq] at hl
        rw [← Option.some.inj hl] at hm0
        simp [lc] at hm0
       ·simp only [List.cons_append, List.nil_append, dY]
        exact ⟨trivial, by first | trivial | rfl, lc, hL _ _ (Bq _ _), rfl, rfl, .inr ⟨rfl, by first | trivial | rfl, hr⟩⟩
     ·by_cases hmptr : ∃ e l, d = .mptr e l
      ·obtain ⟨e0, l, rfl⟩ := hmptr
       simp only [zV, Option.map_eq_some_iff, Prod.mk.injEq] at hx
       obtain ⟨⟨us, h, m'⟩, hc, rfl, rfl, rfl⟩ := hx
       simp only [gy] at hd
       obtain ⟨g, μ', rfl, ⟨cur, rfl, hcur, hle, hcells⟩, hd⟩ := hd
       obtain ⟨ws, k1, k2, k3⟩ := aaP hcells
       obtain ⟨L2, b1, b2, b3, b4⟩ := WJ hc k1
       obtain ⟨f1, f2, f3, f4, f5⟩ := zX 1 e0 us
       have hul := bZ b2
       let lc : Loc := ⟨g, 0, 1, us.length, 1, cur.size, true, undef⟩
       have hcons := b1.cons (n := n) (l := lc) (b := lV 1 e0 us) (ν := [g]) ⟨by rw [f2], by rw [f3], by rw [f4], by rw [f4]; omega, fun _ i av hi => afs b2 k3 i av (by rw [← f1]; exact hi), fun _ h => by rw [f4] at h; simp at h, fun _ _ => ⟨rfl, cur, by rw [f5]; exact hcur, rfl, by rw [f1]; show us.length ≤ cur.size; omega⟩, fun _ _ => hν g (by simp), fun _ h => by rw [f4] at h; simp at h, fun h => by simp [lc] at h⟩ (by simp [lc]) (fun _ _ => by simp [lc])
       refine comb (L1 := L2.set n lc) (ν1 := [g]) (ν2 := μ') hcons.1 ?_ (fun lc' hl hm0 => ?_) hd rfl (fun L hL hr => ?_)
       ·simp only [V]
        exact ⟨lc, Uk _ _ _, by simp [lc]⟩
       ·rw [Uk] at hl
        rw [← Option.some.inj hl] at hm0
        simp [lc] at hm0
       ·simp only [List.cons_append, List.nil_append, dY]
        refine ⟨trivial, lc, μ', us, cur, hL _ _ (Uk _ _ _), rfl, rfl, rfl, by omega, rfl, rfl, hcur, rfl, rfl, rfl, fun i j hi => ?_, hr⟩
        obtain ⟨lj, v0, e1, e2, e3, e4⟩ := b4 i j hi
        exact ⟨lj, v0, hL _ _ (hcons.2 _ _ e1), e2, by have := (k3 i v0 e3).1; simpa using this, e4⟩
      ·have hdd : DIn w (· ∈ μ) d v ∧ gy w (· ∈ μ) ds vs ν := by
        cases d with
        | msl => exact absurd ⟨_, _, _, rfl⟩ hmsl
        | mptr => exact absurd ⟨_, _, rfl⟩ hmptr
        | _ => simp only [gy] at hd; exact hd
       obtain ⟨L1, a1, a2, a3, a4⟩ := ajQ hx hdd.1
       refine comb (ν1 := []) (ν2 := ν) a1 a3 a4 hdd.2 rfl (fun L _ hr => ?_)
       rw [a2]
       exact aiA hdd.1 hr
section
variable [Inhabited aQ]
end
def Iz (h : Heap) : Prop := ∀ p ∈ h, p.2.isMap = false
theorem aao {h h' : Heap} (a : Iz h) (b : Iz h') : Iz (h ++ h') := fun p hp => by
 rcases List.mem_append.1 hp with hp | hp
 ·exact a p hp
 ·exact b p hp
theorem Rj {i : Nat} {b : Blk} {h : Heap} (a : b.isMap = false) (c : Iz h) : Iz ((i, b) :: h) := fun p hp => by
 rcases List.mem_cons.1 hp with rfl | hp
 ·exact a
 ·exact c p hp
theorem QX : Iz [] := fun p hp => by cases hp
theorem YJ (m : Nat) (e : TypeId) (l : List AV) : (lV m e l).isMap = false := by
 unfold lV
 split
 ·split <;> rfl
 ·rfl
theorem adZ {n n' : Nat} {d : D} {x : AV} {h : Heap} (he : Hq n d = some (x, h, n')) : Iz h := by
 cases d <;> first
  | (simp only [Hq, Option.some.injEq, Prod.mk.injEq] at he; obtain ⟨_, rfl, _⟩ := he; exact Rj rfl QX)
  | (simp only [Hq, Option.map_eq_some_iff, Prod.mk.injEq] at he; obtain ⟨_, _, _, rfl, _⟩ := he; exact QX)
theorem Nk : ∀ {ds : List D} {n n' : Nat} {xs : List AV} {h : Heap}, qV n ds = some (xs, h, n') → Iz h
 | [], n, n', xs, h, he => by
   simp only [qV, Option.some.injEq, Prod.mk.injEq] at he
   obtain ⟨_, rfl, _⟩ := he
   exact QX
 | d :: ds, n, n', xs, h, he => by
   simp only [qV, Option.bind_eq_some_iff, Option.map_eq_some_iff] at he
   obtain ⟨⟨x, h1, m⟩, hx, ⟨ys, h2, m2⟩, hys, he⟩ := he
   simp only [Prod.mk.injEq] at he
   obtain ⟨_, rfl, _⟩ := he
   exact aao (adZ hx) (Nk hys)
theorem afj {n n' : Nat} {d : D} {x : AV} {h : Heap} (he : abd n d = some (x, h, n')) : Iz h := by
 by_cases hs : ∃ e l, d = .ptr e l
 ·obtain ⟨e, l, rfl⟩ := hs
  simp only [abd, Option.map_eq_some_iff, Prod.mk.injEq] at he
  obtain ⟨⟨vs, h1, m⟩, hc, _, rfl, _⟩ := he
  exact Rj (YJ _ _ _) (Nk hc)
 ·have he' : Hq n d = some (x, h, n') := by
   cases d <;> first
    | exact he
    | exact absurd ⟨_, _, rfl⟩ hs
  exact adZ he'
theorem aev : ∀ {ds : List D} {n n' : Nat} {xs : List AV} {h : Heap}, QZ n ds = some (xs, h, n') → Iz h
 | [], n, n', xs, h, he => by
   simp only [QZ, Option.some.injEq, Prod.mk.injEq] at he
   obtain ⟨_, rfl, _⟩ := he
   exact QX
 | d :: ds, n, n', xs, h, he => by
   simp only [QZ, Option.bind_eq_some_iff, Option.map_eq_some_iff] at he
   obtain ⟨⟨x, h1, m⟩, hx, ⟨ys, h2, m2⟩, hys, he⟩ := he
   simp only [Prod.mk.injEq] at he
   obtain ⟨_, rfl, _⟩ := he
   exact aao (afj hx) (aev hys)
theorem aj3 {n m : Nat} {d : D} {x : AV} {e : Ent} (he : zV n d = some (x, e, m)) : Iz e.heap := by
 cases d <;> simp only [zV, Option.map_eq_some_iff, Option.some.injEq, Prod.mk.injEq] at he <;> first
  | (obtain ⟨⟨vs, h1, m1⟩, hc, _, rfl, _⟩ := he; first
      | exact Nk hc
      | exact aev hc
      | exact afj hc
      | exact Rj rfl (Nk hc)
      | exact Rj (YJ _ _ _) (Nk hc))
  | (obtain ⟨_, rfl, _⟩ := he; exact Rj rfl QX)
theorem ahs : ∀ {ds : List D} {n : Nat} {xs : List AV} {e : Ent}, uz n ds = some (xs, e) → Iz e.heap
 | [], n, xs, e, he => by
   simp only [uz, Option.some.injEq, Prod.mk.injEq] at he
   obtain ⟨_, rfl⟩ := he
   exact QX
 | d :: ds, n, xs, e, he => by
   simp only [uz, Option.bind_eq_some_iff] at he
   obtain ⟨⟨x, e1, m⟩, hx, he⟩ := he
   obtain ⟨_, he⟩ := ifB he
   simp only [Option.map_eq_some_iff, Prod.mk.injEq] at he
   obtain ⟨⟨ys, e2⟩, hys, _, rfl⟩ := he
   exact aao (aj3 hx) (ahs hys)
theorem Iz.ok {N : Nat} {L : LM} {h : Heap} (a : Iz h) : Gv N L h w where
 at_ := fun id e kt vt ks vs hl => by have := a _ (EW hl); cases this
 inj := fun i j b c l m hi _ hb _ _ _ _ => by have := a _ (EW hi); rw [hb] at this; cases this
 bat := fun id e eb s hl => by have := a _ (EW hl); cases this
 far := fun x hx => by
  obtain ⟨id, e, eb, s, l, hl, _⟩ := hx
  have := a _ (EW hl)
  cases this
 two := fun i j x _ hx => by
  obtain ⟨e, eb, s, l, hl, _⟩ := hx
  have := a _ (EW hl)
  cases this
end Go.Ev
