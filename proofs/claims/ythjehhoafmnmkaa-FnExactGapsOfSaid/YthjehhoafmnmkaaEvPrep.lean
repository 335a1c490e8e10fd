/- Renaming, and nil slices laid under a number, ahead of a loop's head. -/
import Derived.Test.YthjehhoafmnmkaaEvDraw
namespace Go.Ev
open Go.RowKit
variable {F : Fix} {L : LM} {st : St} {a : Act} {w : World}
mutual
theorem aif {L : LM} {A B : Nat} {l : Loc} (hB : L B = some l) : ∀ (x : AV) (v : Value), x.names A = false → V L x v → V (L.set A l) (qZ B A x) v
 | .undef, _, _, _ => by simp [qZ, V]
 | .int _ _, _, _, h => by simpa [qZ, V] using h
 | .bool _, _, _, h => by simpa [qZ, V] using h
 | .str _, _, _, h => by simpa [qZ, V] using h
 | .nilptr, _, _, h => by simpa [qZ, V] using h
 | .nilsl, _, _, h => by simpa [qZ, V] using h
 | .emp, _, _, h => by simpa [qZ, V] using h
 | .ptr j r c, v, hn, h => by
   simp only [qZ, V] at h ⊢
   obtain ⟨m, hm, h⟩ := h
   refine ⟨m, ?_, h⟩
   cases hj : Nat.beq j B with
   | true =>
     have := ay hj
     subst this
     rw [hB] at hm
     simp [LM.set, Option.some.inj hm]
   | false =>
     simp only [AV.names] at hn
     simp [LM.set, gW hn, hm]
 | .sl j, v, hn, h => by
   simp only [qZ, V] at h ⊢
   obtain ⟨m, hm, h⟩ := h
   refine ⟨m, ?_, h⟩
   cases hj : Nat.beq j B with
   | true =>
     have := ay hj
     subst this
     rw [hB] at hm
     simp [LM.set, Option.some.inj hm]
   | false =>
     simp only [AV.names] at hn
     simp [LM.set, gW hn, hm]
 | .map j, v, hn, h => by
   simp only [qZ, V] at h ⊢
   obtain ⟨m, hm, h⟩ := h
   refine ⟨m, ?_, h⟩
   cases hj : Nat.beq j B with
   | true =>
     have := ay hj
     subst this
     rw [hB] at hm
     simp [LM.set, Option.some.inj hm]
   | false =>
     simp only [AV.names] at hn
     simp [LM.set, gW hn, hm]
 | .sub j lo n, v, hn, h => by
   simp only [qZ, V] at h ⊢
   obtain ⟨m, hm, h⟩ := h
   refine ⟨m, ?_, h⟩
   cases hj : Nat.beq j B with
   | true =>
     have := ay hj
     subst this
     rw [hB] at hm
     simp [LM.set, Option.some.inj hm]
   | false =>
     simp only [AV.names] at hn
     simp [LM.set, gW hn, hm]
 | .agg xs, v, hn, h => by
   simp only [qZ, V] at h ⊢
   obtain ⟨arr, rfl, h⟩ := h
   exact ⟨arr, rfl, TJ hB xs _ (by simpa [AV.names] using hn) h⟩
 | .tup xs, v, hn, h => by
   simp only [qZ, V] at h ⊢
   obtain ⟨arr, rfl, h⟩ := h
   exact ⟨arr, rfl, TJ hB xs _ (by simpa [AV.names] using hn) h⟩
 | .fn f xs, v, hn, h => by
   simp only [qZ, V] at h ⊢
   obtain ⟨arr, rfl, h⟩ := h
   exact ⟨arr, rfl, TJ hB xs _ (by simpa [AV.names] using hn) h⟩
theorem TJ {L : LM} {A B : Nat} {l : Loc} (hB : L B = some l) : ∀ (xs : List AV) (vs : List Value), AV.namesAll A xs = false → VAll L xs vs → VAll (L.set A l) (Az B A xs) vs
 | [], [], _, _ => by simp [Az, VAll]
 | x :: xs, v :: vs, hn, h => by
   simp only [AV.namesAll, Bool.or_eq_false_iff] at hn
   simp only [VAll] at h
   simp only [Az, VAll]
   exact ⟨aif hB x v hn.1 h.1, TJ hB xs vs hn.2 h.2⟩
 | [], _ :: _, _, h => by simp [VAll] at h
 | _ :: _, [], _, h => by simp [VAll] at h
end
theorem ae7 (id : Nat) (x : AV) : (iW id x).names id = false := by
 unfold iW
 cases h : x.names id with
 | true => rfl
 | false => simpa using h
theorem KQ (B A : Nat) (l : List AV) : Az B A l = l.map (qZ B A) := by
 induction l with
 | nil => rfl
 | cons x r ih => simp [Az, ih]
theorem V_rk {A B : Nat} {l : Loc} (hB : L B = some l) {x : AV} {v : Value} (h : V L x v) : V (L.set A l) (qZ B A (iW A x)) v := by
 refine aif hB _ v (ae7 A x) ?_
 unfold iW
 cases x.names A with
 | true => simp [V]
 | false => simpa using h
theorem aiN (B A : Nat) (t : Ty) (x : t.den) : ∀ av ∈ t.enc x, qZ B A av = av := by
 cases t <;> simp [Ty.enc, qZ]
theorem JJ (B A : Nat) (b : Blk) : (yQ B A b).flat = b.flat.map (qZ B A) := by
 cases b with
 | rows m e t l =>
   simp only [yQ, Blk.flat]
   symm
   conv => rhs; rw [← List.map_id (l.flatMap t.enc)]
   refine List.map_congr_left fun x hx => ?_
   obtain ⟨y, _, hy⟩ := List.mem_flatMap.1 hx
   simpa using aiN B A t y x hy
 | mix m e l => simp only [yQ, Blk.flat, KQ]
 | map => rfl
 | bld => rfl
theorem yY (B A : Nat) (b : Blk) : (yQ B A b).mode = b.mode := by cases b <;> rfl
theorem ahT (B A : Nat) (b : Blk) : (yQ B A b).e = b.e := by cases b <;> rfl
theorem aho (B A : Nat) (b : Blk) : (yQ B A b).w = b.w := by cases b <;> rfl
theorem ah0 (B A : Nat) (b : Blk) : (yQ B A b).n = b.n := by cases b <;> simp [yQ, Blk.n, KQ]
theorem iY.renamed {N : Nat} {μ : List Nat} {m : Loc} {b : Blk} (h : iY L N μ w m b) {A B : Nat} {l : Loc} (hB : L B = some l) : iY (L.set A l) N μ w m (yQ B A (mZ A b)) where
 hw := by rw [aho, acg]; exact h.hw
 hn := by rw [ah0, abR]; exact h.hn
 hm := by rw [yY, lZ]; exact h.hm
 le := by rw [yY, lZ]; exact h.le
 cells := fun hb i av hi => by
  rw [JJ, qy, List.map_map, List.getElem?_map, Option.map_eq_some_iff] at hi
  obtain ⟨x, hx, rfl⟩ := hi
  obtain ⟨v, hc, hv, h1⟩ := h.cells hb i x hx
  exact ⟨v, hc, V_rk hB hv, h1⟩
 ro := fun hb hm hf => h.ro hb (by rw [yY, lZ] at hm; exact hm) (fun e => hf (by rw [JJ, qy, e]; rfl))
 own := fun hb hm => by
  rw [ahT, abG, JJ, qy, List.length_map, List.length_map]
  exact h.own hb (by rw [yY, lZ] at hm; exact hm)
 m1 := fun hb hm => h.m1 hb (by rw [yY, lZ] at hm; exact hm)
 m2 := fun hb hm => h.m2 hb (by rw [yY, lZ] at hm; exact hm)
 nb := fun hb => by rw [JJ, qy, h.nb hb]; rfl
theorem wz {A B : Nat} (hne : B ≠ A) : ∀ (h : Heap), look h A = none → ∀ j b, look (QZ B A h) j = some b → ∃ c, b = yQ B A c ∧ look h (if j = A then B else j) = some c ∧ j ≠ B
 | [], _, j, b, hb => by simp [QZ, look] at hb
 | (i, c) :: r, hA, j, b, hb => by
   simp only [look] at hA
   cases hiA : Nat.beq i A with
   | true => simp [hiA] at hA
   | false =>
     rw [hiA, cond_false] at hA
     have hiA := gW hiA
     simp only [QZ, look] at hb
     cases hiB : Nat.beq i B with
     | true =>
       have := ay hiB
       subst this
       rw [hiB, cond_true] at hb
       cases hj : Nat.beq A j with
       | true =>
         have := ay hj
         subst this
         rw [hj, cond_true] at hb
         exact ⟨c, (Option.some.inj hb).symm, by simp [look], Ne.symm hne⟩
       | false =>
         rw [hj, cond_false] at hb
         obtain ⟨d, e1, e2, e3⟩ := wz hne r hA j b hb
         have hjA : ¬ j = A := fun e => gW hj e.symm
         refine ⟨d, e1, ?_, e3⟩
         simp only [hjA, if_false] at e2 ⊢
         have : Nat.beq i j = false := by
          cases h : Nat.beq i j with
          | true => exact absurd (ay h).symm e3
          | false => rfl
         simp [look, this, e2]
     | false =>
       rw [hiB, cond_false] at hb
       have hiB' := gW hiB
       cases hj : Nat.beq i j with
       | true =>
         have := ay hj
         subst this
         rw [hj, cond_true] at hb
         exact ⟨c, (Option.some.inj hb).symm, by simp [hiA, look], hiB'⟩
       | false =>
         rw [hj, cond_false] at hb
         obtain ⟨d, e1, e2, e3⟩ := wz hne r hA j b hb
         refine ⟨d, e1, ?_, e3⟩
         by_cases hjA : j = A
         ·simp only [hjA, if_true] at e2 ⊢
          simp [look, hiB, e2]
         ·simp only [hjA, if_false] at e2 ⊢
          simp [look, hj, e2]
theorem CX {h : Heap} {A j : Nat} {c : Blk} (hc : look (pz A (del h A)) j = some c) : j ≠ A ∧ ∃ d, look h j = some d ∧ c = mZ A d := by
 rw [WX, Dz] at hc
 by_cases e : j = A
 ·simp [e] at hc
 ·simp only [e, if_false, Option.map_eq_some_iff] at hc
  obtain ⟨d, hd, rfl⟩ := hc
  exact ⟨e, d, hd, rfl⟩
theorem nz (h : Heap) (A : Nat) : look (pz A (del h A)) A = none := by
 rw [WX, Dz]; simp
section
variable [Inhabited az]
theorem RelL.rename (h : RelL F L st a w) {A B : Nat} (hne : B ≠ A) (hA : F.low ≤ A) {l : Loc} (hB : L B = some l) : RelL F (L.set A l) (st.rename B A) a w where
 len := by simp [St.rename, KQ, h.len]
 slots := fun i av hi => by
  simp only [St.rename, KQ, List.map_map, List.getElem?_map, Option.map_eq_some_iff] at hi
  obtain ⟨x, hx, rfl⟩ := hi
  exact V_rk hB (h.slots i x hx)
 heap := fun j b hj => by
  obtain ⟨c, rfl, hc, _⟩ := wz hne _ (nz st.heap A) j b hj
  obtain ⟨hcA, d, hd, rfl⟩ := CX hc
  obtain ⟨m, hm, hbl⟩ := h.heap _ d hd
  refine ⟨m, ?_, hbl.renamed hB⟩
  by_cases e : j = A
  ·simp only [e, if_true] at hm
   rw [hB] at hm
   simp [LM.set, e, Option.some.inj hm]
  ·simp only [e, if_false] at hm
   simp [LM.set, e, hm]
 inj := fun i j b c p q hi hj hp hq hij hbp hbq h1 h2 => by
  obtain ⟨b1, rfl, hb1, hiB⟩ := wz hne _ (nz st.heap A) i b hi
  obtain ⟨c1, rfl, hc1, hjB⟩ := wz hne _ (nz st.heap A) j c hj
  obtain ⟨_, b2, hb2, rfl⟩ := CX hb1
  obtain ⟨_, c2, hc2, rfl⟩ := CX hc1
  have hp' : L (if i = A then B else i) = some p := by
   by_cases e : i = A
   ·simp only [LM.set, e, if_true] at hp ⊢
    rw [hB]; exact hp
   ·simp only [LM.set, e, if_false] at hp ⊢
    exact hp
  have hq' : L (if j = A then B else j) = some q := by
   by_cases e : j = A
   ·simp only [LM.set, e, if_true] at hq ⊢
    rw [hB]; exact hq
   ·simp only [LM.set, e, if_false] at hq ⊢
    exact hq
  refine h.inj _ _ b2 c2 p q hb2 hc2 hp' hq' ?_ hbp hbq h1 h2
  by_cases e : i = A
  ·by_cases e2 : j = A
   ·exact absurd (e.trans e2.symm) hij
   ·simp only [e, e2, if_true, if_false]; exact Ne.symm hjB
  ·by_cases e2 : j = A
   ·simp only [e, e2, if_true, if_false]; exact hiB
   ·simp only [e, e2, if_false]; exact hij
 defers := h.defers
 below := h.below
 mu := h.mu
 base := fun j hj => by
  have : ¬ j = A := by omega
  simp [LM.set, this, h.base j hj]
 low := h.low
 maps := by
  refine h.maps.tr (fun j => if j = A then B else j) (fun j b hj hm => ?_) (fun i j b c hi hj _ _ hij => ?_) (fun _ _ _ _ h => h) (fun _ _ _ => rfl) (fun x _ hx => .inl ?_)
  rotate_left 2
  ·obtain ⟨j, b, m, hj, hm, hr⟩ := hx
   obtain ⟨b1, rfl, hb1, _⟩ := wz hne _ (nz st.heap A) j b hj
   obtain ⟨_, b2, hb2, rfl⟩ := CX hb1
   refine ⟨_, b2, m, hb2, ?_, hr⟩
   by_cases e : j = A
   ·simp only [LM.set, e, if_true] at hm ⊢
    rw [hB]; exact hm
   ·simp only [LM.set, e, if_false] at hm ⊢
    exact hm
  ·obtain ⟨b1, rfl, hb1, _⟩ := wz hne _ (nz st.heap A) j b hj
   obtain ⟨_, b2, hb2, rfl⟩ := CX hb1
   have hb2m : b2.isMap = true ∧ yQ B A (mZ A b2) = b2 := by
    cases b2 <;> first | exact ⟨rfl, rfl⟩ | cases hm
   refine ⟨by rw [hb2m.2]; exact hb2, ?_⟩
   by_cases e : j = A
   ·simp only [LM.set, e, if_true]; exact hB.symm
   ·simp only [LM.set, e, if_false]
  ·obtain ⟨_, _, _, hiB⟩ := wz hne _ (nz st.heap A) i b hi
   obtain ⟨_, _, _, hjB⟩ := wz hne _ (nz st.heap A) j c hj
   by_cases e : i = A
   ·by_cases e2 : j = A
    ·exact absurd (e.trans e2.symm) hij
    ·simp only [e, e2, if_true, if_false]; exact Ne.symm hjB
   ·by_cases e2 : j = A
    ·simp only [e, e2, if_true, if_false]; exact hiB
    ·simp only [e, e2, if_false]; exact hij
theorem RelL.nilAt (h : RelL F L st a w) {j A : Nat} (hA : F.low ≤ A) (e : TypeId) (t : Ty) {ad : Option Addr} (hv : a.tmps.getD j undef = .slice ad 0 0) : ∃ L', RelL F L' ((st.fresh A (.rows 2 e t [])).put (some j) (.sl A)) a w := by
 let l : Loc := ⟨0, 0, t.w, 0, 2, 0, false, undef⟩
 have h2 := h.fresh (id := A) (blk := .rows 2 e t []) (l' := l) (w' := w) (S := fun _ => False) (Step.refl w _) hA (fun _ _ _ _ _ _ _ _ h => h) (fun _ h => h.elim)
  ⟨rfl, rfl, rfl, by simp [Blk.mode], fun h => by simp [l] at h, fun h => by simp [l] at h, fun h => by simp [l] at h, fun h => by simp [l] at h, fun h => by simp [l] at h, fun _ => rfl⟩ (fun h => by simp [l] at h) (hnv := fun h => by simp [l] at h)
 refine ⟨_, { h2 with len := by simp [St.put, h2.len], slots := fun i av hi => ?_ }⟩
 simp only [St.put, List.getElem?_set] at hi
 split at hi
 ·rename_i e1
  subst e1
  split at hi
  ·have := Option.some.inj hi
   subst this
   rw [hv]
   simp only [V]
   exact ⟨l, by simp [LM.set], ad, 0, rfl, ⟨Nat.le_refl _, fun h => by simp [l] at h, fun _ => ⟨rfl, fun _ => rfl⟩⟩, fun h => by simp [l] at h⟩
  ·cases hi
 ·exact h2.slots i av hi
end
theorem Uj (t : Ty) (l : List t.den) (n : Nat) : (l.take n).flatMap t.enc = (l.flatMap t.enc).take (n * t.w) := by
 have := Dj t l 0 n
 simpa using this
section
variable [Inhabited az]
theorem RelL.trim (h : RelL F L st a w) {j B n : Nat} {e : TypeId} {t : Ty} {l : List t.den} (hs : st.slots.getD j .undef = .sub B 0 n) (hB : look st.heap B = some (.rows 2 e t l)) (hlow : F.low ≤ B) :
 ∃ L' lc, RelL F L' (st.trim j B n e t l) a w ∧ L' B = some lc := by
 have hv := h.get (.tmp j)
 simp only [St.get, hs, V, Act.eval] at hv
 obtain ⟨lc, hL, hle, ad, cap, hv, hcap, _, hsl⟩ := hv
 obtain ⟨lc2, hL2, hbl⟩ := h.heap B _ hB
 rw [hL] at hL2
 have := Option.some.inj hL2
 subst this
 have hsl := hsl trivial
 have hn : lc.n = l.length := hbl.hn
 have hnl : n ≤ l.length := by omega
 let l' : Loc := { lc with n := n }
 have hb : iY (L.set B l') F.N F.μ w l' (.rows 2 e t (l.take n)) := {
  hw := hbl.hw
  hn := by simp [l', Blk.n]; omega
  hm := hbl.hm
  le := hbl.le
  cells := fun hbk i av hi => by
   simp only [Blk.flat, Uj, List.getElem?_take] at hi
   split at hi
   ·obtain ⟨v, hc, hv, h1⟩ := hbl.cells hbk i av hi
    obtain ⟨u, hu⟩ := Jq t l i av hi
    exact ⟨v, hc, aaP av v (KZ hu B) hv, h1⟩
   ·simp at hi
  ro := fun hbk hm hf => by simp [Blk.mode] at hm
  own := fun hbk hm => by
   obtain ⟨h1, cur, h2, h3, h4⟩ := hbl.own hbk hm
   refine ⟨h1, cur, h2, h3, Nat.le_trans ?_ h4⟩
   simp only [Blk.flat, Uj, List.length_take]
   omega
  m1 := fun hbk hm => by simp [Blk.mode] at hm
  m2 := hbl.m2
  nb := fun hbk => by
   have := hbl.nb hbk
   simp only [Blk.flat] at this ⊢
   rw [Uj, this, List.take_nil] }
 have h2 := h.fresh (id := B) (blk := .rows 2 e t (l.take n)) (l' := l') (w' := w) (S := fun _ => False) (Step.refl w _) hlow (fun _ _ _ _ _ _ _ _ h => h) (fun _ h => h.elim) hb
  (hnv := fun hbk _ => .inr fun hx => h.maps.far _ hx ⟨B, _, lc, hB, hL, hbk, by rw [hbl.hm]; simp [Blk.mode], rfl⟩) (fun hbk hm j c m hj hc hm2 hbm hmm => h.inj j B c _ m lc hc hB hm2 hL hj hbm hbk hmm (by rw [hbl.hm]; simp [Blk.mode]))
 refine ⟨_, l', { h2 with len := by simp [St.trim, St.put, h2.len], slots := fun i av hi => ?_ }, by simp [LM.set]⟩
 simp only [St.trim, St.put, List.getElem?_set] at hi
 split at hi
 ·rename_i e1
  subst e1
  split at hi
  ·have := Option.some.inj hi
   subst this
   rw [hv]
   simp only [V]
   refine ⟨l', by simp [LM.set], ad, cap, rfl, ⟨hcap, hsl.2.1, fun hbk => ⟨?_, (hsl.2.2 hbk).2⟩⟩, fun hm => ?_⟩
   ·have := (hsl.2.2 hbk).1
    show n = 0
    omega
   ·have : lc.mode = 0 := hm
    rw [hbl.hm] at this
    simp [Blk.mode] at this
  ·cases hi
 ·exact h2.slots i av hi
theorem ahn {p : Nat × Nat × TypeId × Ty} (h : Rel F st a w) : Rel F (afb F.low p st) a w := by
 obtain ⟨L, h⟩ := h
 unfold afb
 split
 ·rename_i hs
  cases hb : Nat.ble F.low p.2.1 with
  | false => exact ⟨L, h⟩
  | true =>
    have hv := h.get (.tmp p.1)
    simp only [St.get, hs, V, Act.eval] at hv
    exact h.nilAt (Nat.le_of_ble_eq_true hb) _ _ hv
 ·rename_i hs
  cases hb : Nat.ble F.low p.2.1 with
  | false => exact ⟨L, h⟩
  | true =>
    have hv := h.get (.tmp p.1)
    simp only [St.get, hs, V, Act.eval] at hv
    obtain ⟨ad, hv⟩ := hv
    exact h.nilAt (Nat.le_of_ble_eq_true hb) _ _ hv
 ·rename_i B hs
  cases hb : Nat.beq B p.2.1 with
  | true => exact ⟨L, h⟩
  | false =>
    cases hc : (Nat.ble F.low p.2.1 && Nat.ble F.low B) with
    | false => exact ⟨L, h⟩
    | true =>
      simp only [Bool.and_eq_true] at hc
      have hv := h.get (.tmp p.1)
      simp only [St.get, hs, V] at hv
      obtain ⟨l, hl, _⟩ := hv
      exact ⟨_, h.rename (gW hb) (Nat.le_of_ble_eq_true hc.1) hl⟩
 ·rename_i B n hs
  cases hc : (Nat.ble F.low p.2.1 && Nat.ble F.low B) with
  | false => exact ⟨L, h⟩
  | true =>
    simp only [Bool.and_eq_true] at hc
    simp only [cond_true]
    split
    ·rename_i m e t l hB
     cases hm : Nat.beq m 2 with
     | false => exact ⟨L, h⟩
     | true =>
       have := ay hm
       subst this
       obtain ⟨L', lc, h2, h3⟩ := h.trim hs hB (Nat.le_of_ble_eq_true hc.2)
       cases hb : Nat.beq B p.2.1 with
       | true => exact ⟨L', h2⟩
       | false => exact ⟨_, h2.rename (gW hb) (Nat.le_of_ble_eq_true hc.1) h3⟩
    ·exact ⟨L, h⟩
 ·exact ⟨L, h⟩
theorem aaG : ∀ {ps : List (Nat × Nat × TypeId × Ty)} {st : St}, Rel F st a w → Rel F (YV F.low ps st) a w
 | [], _, h => h
 | _ :: _, _, h => by
   simp only [YV]
   exact aaG (ahn h)
end
end Go.Ev
