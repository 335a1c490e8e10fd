/- A call, by contract: the caller's side: its results, and the operation whole. -/
import Derived.Test.YthjehhoafmnmkaaEvCall3
namespace Go.Ev
open Go.RowKit
variable {α : Type} {P : Program} {w w' : World} {F : Fix} {L : LM} {st : St} {a : Act} {r : α}
def Free (F : Fix) (w : World) (L : LM) (st : St) (g : Nat) : Prop := F.N ≤ g ∧ (∀ (j : Nat) (b : Blk) (l : Loc), look st.heap j = some b → L j = some l → l.backed = true → l.mode ≠ 0 → l.b ≠ g) ∧ ¬ Hid L st.heap w g
theorem abB {β γ : Type} : ∀ {l : List β} {m : List γ} {x : β}, m.length = l.length → x ∈ l → ∃ y, (x, y) ∈ l.zip m
 | [], _, _, _, h => by simp at h
 | _ :: _, [], _, h, _ => by simp at h
 | a :: l, b :: m, x, h, hx => by
   rcases List.mem_cons.1 hx with e | hx
   ·exact ⟨b, by rw [e]; simp⟩
   ·obtain ⟨y, hy⟩ := abB (l := l) (m := m) (by simpa using h) hx
    exact ⟨y, by simp [hy]⟩
section
variable [Inhabited az]
theorem Zv (h : RelL F L st a w) {ids : List Nat} (hids : ∀ id ∈ ids, ∃ b, look st.heap id = some b ∧ b.mode ≠ 0) (hS : Step w w' (· ∈ ak L ids)) {h' : Heap}
 (hm : ∀ j b, look h' j = some b → b.isMap = true → look st.heap j = some b) {x : Nat} (hx : Hid L h' w' x) : Hid L st.heap w x ∧ x < w.heap.size := by
 obtain ⟨id, hx⟩ := hx
 have := Rw h.maps (fun j => j) (fun j b hj hb => ⟨hm j b hj hb, rfl⟩) (fun y hy hY => hS.block y hy fun hs => by
  obtain ⟨id, l, hid, hL, hbk, rfl⟩ := xW hs
  obtain ⟨b, hb0, hm0⟩ := hids id hid
  obtain ⟨l2, hl2, hbl⟩ := h.heap id b hb0
  rw [hL] at hl2
  cases hl2
  exact h.maps.far _ hY ⟨id, b, l, hb0, hL, hbk, by rw [hbl.hm]; exact hm0, rfl⟩) hx
 exact ⟨⟨_, this.1⟩, this.2⟩
end
def YW (n : Nat) (x : AV) : Prop := ∀ id, n ≤ id → x.names id = false
section
variable [Inhabited az]
structure Ey (F : Fix) (L : LM) (i : Imp) (a : Act) (w : World) (vals accv : List Value) : Prop where
 rel : RelL F L i.st a w
 args : VAll L i.args vals
 acc : VAll L i.acc accv
 low : F.low ≤ i.n
end
theorem aca {id : Nat} {l : Loc} {xs : List AV} {vs : List Value} (h : VAll L xs vs) : VAll (L.set id l) (xs.map (iW id)) vs := by
 have hl := bz h
 refine wW (by simpa using hl) fun j x hx => ?_
 simp only [List.getElem?_map, Option.map_eq_some_iff] at hx
 obtain ⟨y, hy, rfl⟩ := hx
 obtain ⟨v, hv, hV⟩ := gK j h hy
 exact ⟨v, hv, adi hV⟩
structure rQ (F : Fix) (w : World) (L L' : LM) (i i' : Imp) (ν : List Nat) : Prop where
 n : i.n ≤ i'.n
 keep : ∀ x v, V L x v → YW i.n x → V L' x v
 free : ∀ g, Free F w L i.st g → g ∉ ν → Free F w L' i'.st g
theorem rQ.trans {L L' L'' : LM} {i i' i'' : Imp} {ν ν' : List Nat} (h : rQ F w L L' i i' ν) (k : rQ F w L' L'' i' i'' ν') : rQ F w L L'' i i'' (ν ++ ν') :=
 ⟨Nat.le_trans h.n k.n, fun x v hv hn => k.keep x v (h.keep x v hv hn) (fun id hid => hn id (Nat.le_trans h.n hid)),
  fun g hg hm => k.free g (h.free g hg (fun e => hm (List.mem_append.2 (.inl e)))) (fun e => hm (List.mem_append.2 (.inr e)))⟩
theorem rQ.refl (i : Imp) : rQ F w L L i i [] := ⟨Nat.le_refl _, fun _ _ h _ => h, fun _ h _ => h⟩
section
variable [Inhabited az]
theorem Vq {i : Imp} {vals accv : List Value} (h : Ey F L i a w vals accv) {blk : Blk} {l : Loc} (hlb : l.backed = true → Free F w L i.st l.b) (hb : iY (L.set i.n l) F.N F.μ w l blk) (hm2 : blk.mode = 2 := by first | rfl | exact (uX _ _ _).2.2.2.1) :
 Ey F (L.set i.n l) (i.fresh blk) a w vals accv ∧ rQ F w L (L.set i.n l) i (i.fresh blk) (if l.backed then [l.b] else []) := by
 have hrel : RelL F (L.set i.n l) (i.st.fresh i.n blk) a w := by
  refine h.rel.fresh (S := fun _ => False) (Step.refl w _) h.low (fun _ _ _ _ _ _ _ _ h => h) (fun _ h => h.elim) hb (fun hbk _ j b m hj hlk hL hmb hmm => ?_) (hnm := abq (by rw [hm2]; decide)) (hnv := fun hbk _ => .inr (hlb hbk).2.2)
  ·exact (hlb hbk).2.1 j b m hlk hL hmb hmm
 refine ⟨⟨hrel, aca h.args, aca h.acc, Nat.le_succ_of_le h.low⟩, ⟨Nat.le_succ _, fun x v hv hn => aaP x v (hn i.n (Nat.le_refl _)) hv, fun g hg hgn => ⟨hg.1, fun j b m hlk hL hmb hmm => ?_, fun hx => hg.2.2 (agM (abq (by rw [hm2]; decide)) hx)⟩⟩⟩
 simp only [Imp.fresh, mV] at hlk
 by_cases e : j = i.n
 ·simp only [LM.set, e, if_true, Option.some.injEq] at hL
  subst hL
  intro e2
  rw [if_pos hmb] at hgn
  exact hgn (by simp [e2])
 ·simp only [e, if_false, Option.map_eq_some_iff] at hlk
  obtain ⟨c, hc, _⟩ := hlk
  simp only [LM.set, e, if_false] at hL
  exact hg.2.1 j c m hc hL hmb hmm
end
theorem afi {d : D} {x : AV} {v : Value} (hx : lK d = some x) (hv : DZ d = some v) : scal x = some v ∧ xy x = true := by
 cases d <;> simp [lK] at hx <;> subst hx <;> simp [DZ] at hv <;> subst hv <;> exact ⟨rfl, rfl⟩
section
variable [Inhabited az]
theorem aaM {i : Imp} {vals accv : List Value} (h : Ey F L i a w vals accv) {d : D} {v : Value} {ν : List Nat} (hd : Iz w vals d v ν) (hν : ∀ g ∈ ν, Free F w L i.st g) {k : Imp → AV → Option α} (hk : EY i d k = some r) :
 ∃ L' i' x, k i' x = some r ∧ Ey F L' i' a w vals accv ∧ rQ F w L L' i i' ν ∧ V L' x v ∧ YW i'.n x ∧ xy x = true := by
 by_cases hsl : ∃ e t l, d = .sl e t l
 ·obtain ⟨e, t, l, rfl⟩ := hsl
  simp only [EY] at hk
  simp only [Iz] at hd
  rcases hd with ⟨g, cap, cur, rfl, rfl, hc, hlc, hcm, hcs, hcells⟩ | ⟨rfl, rfl, ad, rfl⟩
  ·let l' : Loc := ⟨g, 0, t.w, l.length, 2, cur.size, true, undef⟩
   obtain ⟨hok, hstep⟩ := Vq h (blk := .rows 2 e t l) (l := l') (fun _ => hν g (by simp)) (by
    refine ⟨rfl, rfl, rfl, by simp [Blk.mode], fun _ j av hj => ?_, fun _ hm => by simp [Blk.mode] at hm, fun _ _ => ⟨rfl, cur, hc, rfl, ?_⟩, fun _ hm => by simp [Blk.mode] at hm, fun _ _ => (hν g (by simp)).1, fun hb => by simp [l'] at hb⟩
    ·obtain ⟨u, hu, huc⟩ := hcells j av hj
     exact ⟨u, huc, (sZ hu).2 rfl, Dw hu⟩
    ·show (l.flatMap t.enc).length ≤ cur.size
     rw [fJ, hcs]
     exact Nat.mul_le_mul_right _ hlc)
   refine ⟨_, _, _, hk, hok, hstep, ?_, ?_, rfl⟩
   ·simp only [V]
    exact ⟨l', by simp [LM.set], _, cap, rfl, ⟨hlc, fun _ => ⟨rfl, fun _ => ⟨hcs.symm, hcm⟩⟩, fun hb => by simp [l'] at hb⟩, fun h0 => by simp [l'] at h0⟩
   ·intro id hid
    simp only [Imp.fresh] at hid
    simp only [AV.names]
    cases hh : Nat.beq i.n id with
    | false => rfl
    | true => have := ay hh; omega
  ·let l' : Loc := ⟨0, 0, t.w, 0, 2, 0, false, undef⟩
   obtain ⟨hok, hstep⟩ := Vq h (blk := .rows 2 e t []) (l := l') (fun hb => by simp [l'] at hb) (by
    exact ⟨rfl, rfl, rfl, by simp [Blk.mode], fun hb => by simp [l'] at hb, fun hb => by simp [l'] at hb, fun hb => by simp [l'] at hb, fun hb => by simp [l'] at hb, fun hb => by simp [l'] at hb, fun _ => rfl⟩)
   refine ⟨_, _, _, hk, hok, hstep, ?_, ?_, rfl⟩
   ·simp only [V]
    exact ⟨l', by simp [LM.set], ad, 0, rfl, ⟨Nat.le_refl _, fun hb => by simp [l'] at hb, fun _ => ⟨rfl, fun _ => rfl⟩⟩, fun h0 => by simp [l'] at h0⟩
   ·intro id hid
    simp only [Imp.fresh] at hid
    simp only [AV.names]
    cases hh : Nat.beq i.n id with
    | false => rfl
    | true => have := ay hh; omega
 ·by_cases hsm : ∃ j, d = .same j
  ·obtain ⟨j, rfl⟩ := hsm
   simp only [EY] at hk
   simp only [Iz] at hd
   obtain ⟨rfl, hv⟩ := hd
   rw [Option.bind_eq_some_iff] at hk
   obtain ⟨x, hx, hk⟩ := hk
   split at hk
   ·rename_i id
    cases hlt : Nat.blt id i.n with
    | false => rw [hlt, cond_false] at hk; cases hk
    | true =>
    rw [hlt, cond_true] at hk
    obtain ⟨u, hu, hV⟩ := gK j h.args hx
    rw [hv] at hu
    have := Option.some.inj hu
    subst this
    refine ⟨L, i, _, hk, h, rQ.refl i, hV, fun id' hid => ?_, rfl⟩
    simp only [AV.names]
    cases hh : Nat.beq id id' with
    | false => rfl
    | true =>
      have := ay hh
      have h2 : id < i.n := by simpa [Nat.blt_eq] using hlt
      omega
   ·cases hk
  have hk' : ((lK d).bind fun x => k i x) = some r := by
   cases d <;> first
    | exact hk
    | exact absurd ⟨_, _, _, rfl⟩ hsl
    | exact absurd ⟨_, rfl⟩ hsm
  have hd' : ν = [] ∧ DZ d = some v := by
   cases d <;> first
    | exact hd
    | exact absurd ⟨_, _, _, rfl⟩ hsl
    | exact absurd ⟨_, rfl⟩ hsm
  rw [Option.bind_eq_some_iff] at hk'
  obtain ⟨x, hx, hk'⟩ := hk'
  obtain ⟨rfl, hv⟩ := hd'
  obtain ⟨hs, hc⟩ := afi hx hv
  exact ⟨L, i, x, hk', h, rQ.refl i, (sZ hs).2 rfl, fun id _ => KZ hs id, hc⟩
theorem Pz : ∀ {ds : List D} {i : Imp} {L : LM} {vals accv vs : List Value} {ν : List Nat} {k : Imp → List AV → Option α}, Ey F L i a w vals accv → zQ w vals ds vs ν → (∀ g ∈ ν, Free F w L i.st g) → ν.Nodup → zJ i ds k = some r →
 ∃ L' i' xs, k i' xs = some r ∧ Ey F L' i' a w vals accv ∧ rQ F w L L' i i' ν ∧ VAll L' xs vs ∧ (∀ x ∈ xs, YW i'.n x) ∧ gZ xs = true
 | [], i, L, vals, accv, vs, ν, k, h, hd, hν, hn, hk => by
   cases vs with
   | cons => simp [zQ] at hd
   | nil =>
     simp only [zQ] at hd
     subst hd
     exact ⟨L, i, [], hk, h, rQ.refl i, by simp [VAll], by simp, rfl⟩
 | d :: ds, i, L, vals, accv, vs, ν, k, h, hd, hν, hn, hk => by
   cases vs with
   | nil => simp [zQ] at hd
   | cons v vs =>
     simp only [zQ] at hd
     obtain ⟨ν1, ν2, rfl, hd1, hd2⟩ := hd
     have hnd := List.nodup_append.1 hn
     simp only [zJ] at hk
     obtain ⟨L1, i1, x, hk, h1, hs1, hV1, hn1, hc1⟩ := aaM h hd1 (fun g hg => hν g (by simp [hg])) hk
     obtain ⟨L2, i2, xs, hk, h2, hs2, hV2, hn2, hc2⟩ := Pz h1 hd2 (fun g hg => hs1.free g (hν g (by simp [hg])) (fun e => (hnd.2.2 g e g hg) rfl)) hnd.2.1 hk
     refine ⟨L2, i2, x :: xs, hk, h2, hs1.trans hs2, ?_, fun y hy => ?_, by simp [gZ, hc1, hc2]⟩
     ·simp only [VAll]
      exact ⟨hs2.keep x v hV1 hn1, hV2⟩
     ·rcases List.mem_cons.1 hy with rfl | hy
      ·exact fun id hid => hn1 id (Nat.le_trans hs2.n hid)
      ·exact hn2 y hy
end
theorem adZ {n id : Nat} {xs : List AV} (h : ∀ x ∈ xs, YW n x) (hid : n ≤ id) : AV.namesAll id xs = false := by
 induction xs with
 | nil => rfl
 | cons x r ih => simp [AV.namesAll, h x (by simp) id hid, ih fun y hy => h y (by simp [hy])]
section
variable [Inhabited az]
theorem ajA {i : Imp} {vals accv : List Value} (h : Ey F L i a w vals accv) {d : D} {v : Value} {ν : List Nat} (hd : DOut w vals d v ν) (hν : ∀ g ∈ ν, Free F w L i.st g) (hn : ν.Nodup) {k : Imp → AV → Option α} (hk : imp i d k = some r) :
 ∃ L' i' x, k i' x = some r ∧ Ey F L' i' a w vals accv ∧ rQ F w L L' i i' ν ∧ V L' x v := by
 unfold imp at hk
 split at hk
 ·
   rename_i l
   simp only [DOut] at hd
   obtain ⟨arr, rfl, hd⟩ := hd
   obtain ⟨L', i', xs, hk, h1, hs, hV, _, _⟩ := Pz h hd hν hn hk
   exact ⟨L', i', _, hk, h1, hs, by simp only [V]; exact ⟨arr, rfl, hV⟩⟩
 ·
   rename_i e l
   simp only [DOut] at hd
   obtain ⟨g, ν', cur, rfl, rfl, hc, hle, hd⟩ := hd
   have hnd := List.nodup_append.1 hn
   obtain ⟨L1, i1, xs, hk, h1, hs1, hV, hnm, hcs⟩ := Pz h hd (fun g hg => hν g (by simp [hg])) hnd.1 hk
   have hfree : Free F w L1 i1.st g := hs1.free g (hν g (by simp)) (fun e => hnd.2.2 g e g (by simp) rfl)
   have hxl := bz hV
   rw [List.length_take, Nat.min_eq_left (by simpa using hle)] at hxl
   obtain ⟨f1, f2, f3, f4, f5⟩ := uX 2 e xs
   let l' : Loc := ⟨g, 0, 1, xs.length, 2, cur.size, true, undef⟩
   have hVset := ace (l := l') (adZ hnm (Nat.le_refl i1.n)) hV
   obtain ⟨hok, hstep⟩ := Vq h1 (blk := kZ 2 e xs) (l := l') (fun _ => hfree) (by
    refine ⟨by rw [f2], by rw [f3], by rw [f4], by rw [f4]; omega, fun _ j av hj => ?_, (fun _ hm => absurd (f4.symm.trans hm) (by simp)), fun _ _ => ⟨rfl, cur, by rw [f5]; exact hc, rfl, by rw [f1]; show xs.length ≤ cur.size; omega⟩, (fun _ hm => absurd (f4.symm.trans hm) (by simp)), fun _ _ => hfree.1, fun hb => by simp [l'] at hb⟩
    rw [f1] at hj
    obtain ⟨u, hu, hVu⟩ := gK j hVset hj
    have hcell := MV hcs av (List.mem_of_getElem? hj)
    refine ⟨u, ?_, hVu, (aaO hcell hVu).1⟩
    rw [List.getElem?_take] at hu
    split at hu
    ·show w.cell? ⟨g, 0 + j, none⟩ = some u
     simp only [World.cell?, hc, Nat.zero_add]
     simpa using hu
    ·simp at hu)
   refine ⟨_, _, _, hk, hok, ?_, ?_⟩
   ·have := hs1.trans hstep
    simpa [l'] using this
   ·simp only [V]
    exact ⟨l', by simp [LM.set], by simp [l']⟩
 ·
   rename_i j
   simp only [DOut] at hd
   obtain ⟨rfl, hv⟩ := hd
   rw [Option.bind_eq_some_iff] at hk
   obtain ⟨x, hx, hk⟩ := hk
   obtain ⟨u, hu, hV⟩ := gK j h.args hx
   rw [hv] at hu
   have := Option.some.inj hu
   subst this
   exact ⟨L, i, x, hk, h, rQ.refl i, hV⟩
 ·have hd' : Iz w vals d v ν := by
   cases d <;> first
    | exact hd
    | (rename_i h1 h2 h3; first | exact absurd rfl (h1 _) | exact absurd rfl (h2 _ _) | exact absurd rfl (h3 _))
  obtain ⟨L', i', x, hk, h1, hs, hV, _, _⟩ := aaM h hd' hν hk
  exact ⟨L', i', x, hk, h1, hs, hV⟩
theorem aa9 : ∀ {ds : List D} {i : Imp} {L : LM} {vals accv vs : List Value} {ν : List Nat} {k : Imp → Option α}, Ey F L i a w vals accv → LW w vals ds vs ν → (∀ g ∈ ν, Free F w L i.st g) → ν.Nodup → imps i ds k = some r →
 ∃ L' i', k i' = some r ∧ Ey F L' i' a w vals (accv ++ vs)
 | [], i, L, vals, accv, vs, ν, k, h, hd, hν, hn, hk => by
   cases vs with
   | cons => simp [LW] at hd
   | nil => exact ⟨L, i, hk, by simpa using h⟩
 | d :: ds, i, L, vals, accv, vs, ν, k, h, hd, hν, hn, hk => by
   cases vs with
   | nil => simp [LW] at hd
   | cons v vs =>
     simp only [LW] at hd
     obtain ⟨ν1, ν2, rfl, hd1, hd2⟩ := hd
     have hnd := List.nodup_append.1 hn
     simp only [imps] at hk
     obtain ⟨L1, i1, x, hk, h1, hs1, hV1⟩ := ajA h hd1 (fun g hg => hν g (by simp [hg])) hnd.1 hk
     have h1' : Ey F L1 { i1 with acc := i1.acc ++ [x] } a w vals (accv ++ [v]) := by
      refine ⟨h1.rel, h1.args, ?_, h1.low⟩
      have hl := bz h1.acc
      refine wW (by simp [hl]) fun j y hy => ?_
      rw [List.getElem?_append] at hy ⊢
      split at hy
      ·rename_i hj
       rw [if_pos (by omega)]
       exact gK j h1.acc hy
      ·rename_i hj
       rw [if_neg (by omega)]
       have : j - i1.acc.length = 0 := by
        have := (List.getElem?_eq_some_iff.1 hy).1
        simp at this
        omega
       rw [this] at hy
       simp at hy
       subst hy
       rw [← hl, this]
       exact ⟨v, rfl, hV1⟩
     obtain ⟨L2, i2, hk, h2⟩ := aa9 h1' hd2 (fun g hg => hs1.free g (hν g (by simp [hg])) (fun e => (hnd.2.2 g e g hg) rfl)) hnd.2.1 hk
     exact ⟨L2, i2, hk, by simpa using h2⟩
end
theorem aic {xs : List AV} {vs : List Value} (h : VAll L xs vs) : V L (IX xs) (tupV vs) := by
 match xs, vs, h with
 | [], [], _ => simp only [IX, tupV, V]; exact ⟨#[], rfl, by simp [VAll]⟩
 | [x], [v], h => simp only [VAll] at h; exact h.1
 | x :: y :: xs, v :: u :: vs, h => simp only [IX, tupV, V]; exact ⟨_, rfl, by simpa using h⟩
theorem ifB0 {α : Type} {r : α} {c : Bool} {x : Option α} (h : (bif c then x else none) = some r) : c = true ∧ x = some r := by
 cases c with
 | true => exact ⟨rfl, h⟩
 | false => cases h
section
variable [Inhabited az]
def Rx (P : Program) (C : FuncId → List D → (Res → Option α) → Option α) : Prop := ∀ f, (∃ ds κ r, C f ds κ = some r) → iw P f (C f)
theorem acL {E : Env α} (hC : Rx E.P E.C) {o : Oper} {c : Call} (hop : o.op = .call c) {f : Operand} (hcal : c.callee = .value f) (h : RelL F L st a w) (hlow : E.low = F.low) {k : St → Option α} {next : Act → World → Prop} {Q : Exit → Act → World → Prop} (hg : Goes F k r next)
 {g : FuncId} {caps : List AV} (hf : st.get f = .fn g caps) {ids : List Nat} (hids : iQ (E.M g) (c.args.toList.map st.get ++ caps) = some ids) (hnd : JK ids = true) {ds : List D} (hds : oV ids st.heap (E.M g) (c.args.toList.map st.get ++ caps) = some ds)
 {κ : Res → Option α} (hk : E.C g ds κ = some r) (hκ : ∀ res, κ res = some r → ((Go.Ev.back st.heap ids res.outs).bind fun h => oq E o.dst fun id => imps ⟨{ st with heap := h }, c.args.toList.map st.get ++ caps, [], id⟩ res.rs fun i => k (i.st.put o.dst (IX i.acc))) = some r) : o.wp E.P a w next Q := by
 have hgood := hC g ⟨_, _, _, hk⟩
 have hruns := hgood.runs _ _ _ hk
 have hfv := h.get f
 rw [hf] at hfv
 simp only [V] at hfv
 obtain ⟨carr, hfe, hcaps⟩ := hfv
 have hargs := WW h c.args.toList
 have hall : VAll L (c.args.toList.map st.get ++ caps) (c.args.map a.eval ++ carr).toList := by
  have hl := bz hargs
  have hl2 := bz hcaps
  refine wW (by simp [hl2]) fun j x hx => ?_
  rw [List.getElem?_append] at hx
  rw [Array.toList_append, List.getElem?_append]
  split at hx
  ·rename_i hj
   rw [if_pos (by simpa using hj)]
   simpa using gK j hargs hx
  ·rename_i hj
   rw [if_neg (by simpa using hj)]
   have := gK _ hcaps hx
   simpa using this
 have hlok := LX h hids hds
 have hin := Hz h hlok hids hds hall
 have hnodup := aaY hnd
 have hcall := hruns w (c.args.map a.eval ++ carr) (ak L ids) hin (Ky h hlok hnodup)
 have hexec : (execOp a.eval o).run E.P w = .ok (.enter g (c.args.map a.eval ++ carr)) w := by
  simp [execOp, hop, resolve, hcal, hfe, Deferred.ofValue, invoke, hgood.enters]
 unfold Oper.wp
 rw [hexec, Oper.upon_enter]
 refine hcall.mono fun e w' ⟨v, res, he, hk, hpost⟩ => ?_
 subst he
 have hk := hκ res hk
 rw [Option.bind_eq_some_iff] at hk
 obtain ⟨hp, hback, hk⟩ := hk
 unfold oq at hk
 obtain ⟨hle, hk⟩ := ifB0 hk
 have hle := Nat.le_of_ble_eq_true hle
 obtain ⟨hlen, hfacts, hlost⟩ := xY h hlok hids hds hall hpost.outs
 have hrel := h.back hlok hnodup hpost.frame hpost.kept hlen hfacts hback
 obtain ⟨vals, ν, rfl, hdo, hνn, hνf⟩ := hpost.rs
 have hfree : ∀ g ∈ ν, Free F w' L { st with heap := hp } g := by
  intro g hg
  obtain ⟨hb1, hb2⟩ := Vx hback hnodup
  have hνg : w.heap.size ≤ g := by
   rcases hνf g hg with hh | hh
   ·exact hh
   ·obtain ⟨p, hp, hpn, _⟩ := hlost g hh
    obtain ⟨b, b', _, hu, _⟩ := hb2 p hp
    rw [hpn] at hu
    cases b <;> simp [upd1] at hu
  refine ⟨Nat.le_trans h.below.size hνg, fun j b l hlk hL hbk hm => ?_, fun hx => ?_⟩
  rotate_left 1
  ·have := (Zv h hlok hpost.frame (fun j b hj hm => (by
    by_cases hjm : j ∈ ids
    ·obtain ⟨d, hd⟩ := abB hlen.symm hjm
     obtain ⟨b0, b', _, h2, h3⟩ := hb2 _ hd
     simp only at h3
     rw [h3] at hj
     rw [← Option.some.inj hj, TZ h2] at hm
     cases hm
    ·rwa [hb1 j hjm] at hj)) hx).2
   omega
  obtain ⟨b0, hlk0⟩ : ∃ b0, look st.heap j = some b0 := by
   by_cases hj : j ∈ ids
   ·obtain ⟨b, hb, _⟩ := hlok j hj
    exact ⟨b, hb⟩
   ·exact ⟨b, by rw [← hb1 j hj]; exact hlk⟩
  obtain ⟨l2, hL2, hbl⟩ := h.heap j b0 hlk0
  rw [hL] at hL2
  have := Option.some.inj hL2
  subst this
  obtain ⟨_, cur, hc, _⟩ := hbl.own hbk (by rw [← hbl.hm]; exact hm)
  have := tK hc
  omega
 obtain ⟨L', i', hk, hok⟩ := aa9 (i := ⟨{ st with heap := hp }, c.args.toList.map st.get ++ caps, [], fQ o.dst⟩) (accv := []) ⟨hrel, hall, by simp [VAll], by rw [← hlow]; exact hle⟩ hdo hfree hνn hk
 exact hg _ _ _ hk ⟨L', hok.rel.put (aic (by simpa using hok.acc)) o.dst⟩
theorem acl {E : Env α} (hC : Rx E.P E.C) {o : Oper} {c : Call} (hop : o.op = .call c) {f : Operand} (hcal : c.callee = .value f) (h : RelL F L st a w) (hlow : E.low = F.low) {k : St → Option α} {next : Act → World → Prop} {Q : Exit → Act → World → Prop} (hg : Goes F k r next)
 {g : FuncId} {caps : List AV} (hf : st.get f = .fn g caps) {ids : List Nat} (hids : iQ (E.M g) (c.args.toList.map st.get ++ caps) = some ids) (hnd : JK ids = true) {ds : List D} (hds : oV ids st.heap (E.M g) (c.args.toList.map st.get ++ caps) = some ds)
 {κ : Res → Option α} (hk : E.C g ds κ = some r) (hκ : ∀ res, κ res = some r → ((Go.Ev.backG st.heap ids res.outs).bind fun h => oq E o.dst fun id => imps ⟨{ st with heap := h }, c.args.toList.map st.get ++ caps, [], id⟩ res.rs fun i => k (i.st.put o.dst (IX i.acc))) = some r) : o.wp E.P a w next Q := by
 have hgood := hC g ⟨_, _, _, hk⟩
 have hruns := hgood.runs _ _ _ hk
 have hfv := h.get f
 rw [hf] at hfv
 simp only [V] at hfv
 obtain ⟨carr, hfe, hcaps⟩ := hfv
 have hargs := WW h c.args.toList
 have hall : VAll L (c.args.toList.map st.get ++ caps) (c.args.map a.eval ++ carr).toList := by
  have hl := bz hargs
  have hl2 := bz hcaps
  refine wW (by simp [hl2]) fun j x hx => ?_
  rw [List.getElem?_append] at hx
  rw [Array.toList_append, List.getElem?_append]
  split at hx
  ·rename_i hj
   rw [if_pos (by simpa using hj)]
   simpa using gK j hargs hx
  ·rename_i hj
   rw [if_neg (by simpa using hj)]
   have := gK _ hcaps hx
   simpa using this
 have hlok := LX h hids hds
 have hin := Hz h hlok hids hds hall
 have hnodup := aaY hnd
 have hcall := hruns w (c.args.map a.eval ++ carr) (ak L ids) hin (Ky h hlok hnodup)
 have hexec : (execOp a.eval o).run E.P w = .ok (.enter g (c.args.map a.eval ++ carr)) w := by
  simp [execOp, hop, resolve, hcal, hfe, Deferred.ofValue, invoke, hgood.enters]
 unfold Oper.wp
 rw [hexec, Oper.upon_enter]
 refine hcall.mono fun e w' ⟨v, res, he, hk, hpost⟩ => ?_
 subst he
 have hk := hκ res hk
 rw [Option.bind_eq_some_iff] at hk
 obtain ⟨hp, hback, hk⟩ := hk
 unfold oq at hk
 obtain ⟨hle, hk⟩ := ifB0 hk
 have hle := Nat.le_of_ble_eq_true hle
 obtain ⟨hlen, hfacts, hlost⟩ := xY h hlok hids hds hall hpost.outs
 have hrel := h.backG hlok hnodup hpost.frame hpost.kept hlen hfacts hback
 obtain ⟨vals, ν, rfl, hdo, hνn, hνf⟩ := hpost.rs
 have hfree : ∀ g ∈ ν, Free F w' L { st with heap := hp } g := by
  intro g hg
  obtain ⟨hb1, hb2⟩ := KW hback hnodup
  have hsame : ∀ j b, look hp j = some b → b.isMap = true → look st.heap j = some b := fun j b hj hm => by
   by_cases hjm : j ∈ ids
   ·obtain ⟨d, hd⟩ := abB hlen.symm hjm
    rcases hb2 _ hd with ⟨_, hnone, _⟩ | ⟨b0, b', _, h2, h3⟩
    ·simp only at hnone
     rw [hnone] at hj
     cases hj
    ·simp only at h3
     rw [h3] at hj
     rw [← Option.some.inj hj, TZ h2] at hm
     cases hm
   ·rwa [hb1 j hjm] at hj
  rcases hνf g hg with hνg | hlo
  ·refine ⟨Nat.le_trans h.below.size hνg, fun j b l hlk hL hbk hm => ?_, fun hx => ?_⟩
   rotate_left 1
   ·have := (Zv h hlok hpost.frame hsame hx).2
    omega
   obtain ⟨b0, hlk0⟩ : ∃ b0, look st.heap j = some b0 := by
    by_cases hj : j ∈ ids
    ·obtain ⟨b, hb, _⟩ := hlok j hj
     exact ⟨b, hb⟩
    ·exact ⟨b, by rw [← hb1 j hj]; exact hlk⟩
   obtain ⟨l2, hL2, hbl⟩ := h.heap j b0 hlk0
   rw [hL] at hL2
   have := Option.some.inj hL2
   subst this
   obtain ⟨_, cur, hc, _⟩ := hbl.own hbk (by rw [← hbl.hm]; exact hm)
   have := tK hc
   omega
  ·obtain ⟨p, hpz, hpn, lp, hLp, hbkp, rfl⟩ := hlost g hlo
   have hpn2 : look hp p.1 = none ∧ ∃ b, look st.heap p.1 = some b ∧ b.mode = 2 := by
    rcases hb2 p hpz with ⟨_, h1, h2⟩ | ⟨b, b', _, hu, _⟩
    ·exact ⟨h1, h2⟩
    ·rw [hpn] at hu
     cases b <;> simp [upd1] at hu
   obtain ⟨hnone, bp, hbp, hmp⟩ := hpn2
   obtain ⟨l2, hL2, hblp⟩ := h.heap p.1 bp hbp
   rw [hLp] at hL2
   have := Option.some.inj hL2
   subst this
   refine ⟨hblp.m2 hbkp hmp, fun j b l hlk hL hbk hm => ?_, fun hx => h.maps.far _ (Zv h hlok hpost.frame hsame hx).1 ⟨p.1, bp, lp, hbp, hLp, hbkp, by rw [hblp.hm, hmp]; decide, rfl⟩⟩
   have hne : j ≠ p.1 := fun e => by rw [e, hnone] at hlk; cases hlk
   obtain ⟨b0, hlk0⟩ : ∃ b0, look st.heap j = some b0 := by
    by_cases hj : j ∈ ids
    ·obtain ⟨b, hb, _⟩ := hlok j hj
     exact ⟨b, hb⟩
    ·exact ⟨b, by rw [← hb1 j hj]; exact hlk⟩
   exact h.inj j p.1 b0 bp l lp hlk0 hbp hL hLp hne hbk hbkp hm (by rw [hblp.hm, hmp]; decide)
 obtain ⟨L', i', hk, hok⟩ := aa9 (i := ⟨{ st with heap := hp }, c.args.toList.map st.get ++ caps, [], fQ o.dst⟩) (accv := []) ⟨hrel, hall, by simp [VAll], by rw [← hlow]; exact hle⟩ hdo hfree hνn hk
 exact hg _ _ _ hk ⟨L', hok.rel.put (aic (by simpa using hok.acc)) o.dst⟩
theorem ajb {E : Env α} (hC : Rx E.P E.C) {o : Oper} {c : Call} (hop : o.op = .call c) {f : Operand} (hcal : c.callee = .value f) (h : RelL F L st a w) (hlow : E.low = F.low) {k : St → Option α} {next : Act → World → Prop} {Q : Exit → Act → World → Prop} (hg : Goes F k r next)
 (hk : acE E o.dst (st.get f) (c.args.toList.map st.get) st k = some r) : o.wp E.P a w next Q := by
 unfold acE at hk
 split at hk
 ·rename_i g caps hf
  rw [Option.bind_eq_some_iff] at hk
  obtain ⟨ids, hids, hk⟩ := hk
  obtain ⟨hnd, hk⟩ := ifB0 hk
  rw [Option.bind_eq_some_iff] at hk
  obtain ⟨ds, hds, hk⟩ := hk
  exact acl hC hop hcal h hlow hg hf hids hnd hds hk fun _ h => h
 ·simp at hk
end
end Go.Ev
