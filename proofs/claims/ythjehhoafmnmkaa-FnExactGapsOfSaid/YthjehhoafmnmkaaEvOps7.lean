/- The evaluator's operations held against the model's: append. -/
import Derived.Test.YthjehhoafmnmkaaEvOps6
namespace Go.Ev
open Go.RowKit
variable {α : Type} {P : Program} {w : World} {F : Fix} {L : LM} {st : St} {a : Act} {o : Oper} {next : Act → World → Prop} {Q : Exit → Act → World → Prop}
variable {k : St → Option α} {r : α}
theorem Jy {v : Value} {z : AV} (h : mW v = z) (hz : xy z = true) : v.cells = #[v] := by
 cases v with
 | agg cs => simp only [mW] at h; subst h; simp [xy] at hz
 | _ => rfl
theorem afE {e : TypeId} {t : Ty} (h : tyOf P e = some t) : ∃ i v, P.info? e = some i ∧ i.zero = some v ∧ v.cells.size = t.w ∧ (cellsOf (mW v)).length = t.w := by
 unfold tyOf at h
 cases hz : nY P e with
 | none => simp [hz] at h
 | some z =>
   obtain ⟨i, v, hi, hv, hvz⟩ := qV hz
   refine ⟨i, v, hi, hv, ?_⟩
   rw [hz] at h
   have hV := zx (fun _ => none) v
   rw [hvz] at hV ⊢
   split at h
   ·rename_i ik n e; simp at h e; subst h e; exact ⟨by rw [Jy hvz rfl]; rfl, rfl⟩
   ·rename_i n e; simp at h e; subst h e; exact ⟨by rw [Jy hvz rfl]; rfl, rfl⟩
   ·rename_i n e; simp at h e; subst h e; exact ⟨by rw [Jy hvz rfl]; rfl, rfl⟩
   ·rename_i e
    simp at h e
    subst h e
    simp only [V] at hV
    obtain ⟨arr, rfl, hV⟩ := hV
    have := bz hV
    exact ⟨by simpa [Value.cells, Ty.w] using this.symm, rfl⟩
   ·rename_i e
    simp at h e
    subst h e
    simp only [V] at hV
    obtain ⟨arr, rfl, hV⟩ := hV
    have := bz hV
    exact ⟨by simpa [Value.cells, Ty.w] using this.symm, rfl⟩
   ·rename_i e
    simp at h e
    subst h e
    simp only [V] at hV
    obtain ⟨arr, rfl, hV⟩ := hV
    have := bz hV
    exact ⟨by simpa [Value.cells, Ty.w] using this.symm, rfl⟩
   ·rename_i e
    simp at h e
    subst h e
    simp only [V] at hV
    obtain ⟨arr, rfl, hV⟩ := hV
    have := bz hV
    exact ⟨by simpa [Value.cells, Ty.w] using this.symm, rfl⟩
   ·simp at h
theorem MK (t : Ty) (l : List t.den) {L L' : LM} {vs : List Value} (h : VAll L (l.flatMap t.enc) vs) : VAll L' (l.flatMap t.enc) vs ∧ ∀ v ∈ vs, v.oneCell' = true := by
 have hl := bz h
 refine ⟨wW hl fun i x hx => ?_, fun v hv => ?_⟩
 ·obtain ⟨u, hu⟩ := Jq t l i x hx
  obtain ⟨v, hv, hV⟩ := gK i h hx
  exact ⟨v, hv, (sZ hu).2 ((sZ hu).1 hV)⟩
 ·obtain ⟨i, hi⟩ := List.mem_iff_getElem?.1 hv
  have hlt : i < (l.flatMap t.enc).length := by rw [hl]; exact (List.getElem?_eq_some_iff.1 hi).1
  obtain ⟨u, hu⟩ := Jq t l i _ (List.getElem?_eq_getElem hlt)
  obtain ⟨v', hv', hV⟩ := gK i h (List.getElem?_eq_getElem hlt)
  rw [hi] at hv'
  have := Option.some.inj hv'
  subst this
  rw [(sZ hu).1 hV]
  exact Dw hu
theorem aeP (id : Nat) (t : Ty) (l : List t.den) : AV.namesAll id (l.flatMap t.enc) = false := by
 have : ∀ xs : List AV, (∀ x ∈ xs, ∃ u, scal x = some u) → AV.namesAll id xs = false := by
  intro xs
  induction xs with
  | nil => exact fun _ => rfl
  | cons x r ih =>
    intro h
    obtain ⟨u, hu⟩ := h x (by simp)
    simp [AV.namesAll, KZ hu, ih fun y hy => h y (by simp [hy])]
 exact this _ fun x hx => by
  obtain ⟨y, _, hy⟩ := List.mem_flatMap.1 hx
  exact ZY t y x hy
theorem Dj (t : Ty) (l : List t.den) (lo n : Nat) : ((l.drop lo).take n).flatMap t.enc = ((l.flatMap t.enc).drop (lo * t.w)).take (n * t.w) := by
 have hw := DW t
 apply List.ext_getElem?
 intro j
 obtain ⟨q, c, hc1, hj⟩ : ∃ q c, c < t.w ∧ j = q * t.w + c := ⟨j / t.w, j % t.w, Nat.mod_lt _ hw, by rw [Nat.mul_comm]; exact (Nat.div_add_mod j t.w).symm⟩
 subst hj
 rw [HY t _ q c hc1, List.getElem?_take, List.getElem?_take, List.getElem?_drop, List.getElem?_drop]
 by_cases hq : q < n
 ·have : q * t.w + c < n * t.w := by
   have : (q + 1) * t.w ≤ n * t.w := Nat.mul_le_mul_right _ hq
   rw [Nat.add_mul] at this
   omega
  rw [if_pos hq, if_pos this, show lo * t.w + (q * t.w + c) = (lo + q) * t.w + c by rw [Nat.add_mul]; omega, HY t _ _ c hc1]
 ·have : ¬ q * t.w + c < n * t.w := by
   have : n * t.w ≤ q * t.w := Nat.mul_le_mul_right _ (by omega)
   omega
  rw [if_neg hq, if_neg this]
  rfl
section
variable [Inhabited az]
theorem ajc (h : RelL F L st a w) {u e' : TypeId} (hu : P.underlying u = some (.slice e')) {t : Ty} {x : Operand} {xs : List t.den} (hx : BJ st.heap t (st.get x) = some xs) :
 ∃ news, Src P t.w u (a.eval x) xs.length news w ∧ VAll L (xs.flatMap t.enc) news := by
 have hv := h.get x
 cases hX : st.get x with
 | sl id =>
   rw [hX] at hx
   simp only [BJ, Option.bind_eq_some_iff] at hx
   obtain ⟨b, hb, hx⟩ := hx
   cases b with
   | map => first | rfl | (cases h; done) | (simp at h; done) | (simp at *; done)
   | bld => first | rfl | (cases h; done) | (simp at h; done) | (simp at *; done)
   | mix m e l => simp at hx
   | rows m e t' l =>
     simp only at hx
     split at hx
     ·rename_i ht
      subst ht
      simp at hx
      subst hx
      obtain ⟨lo, ad, cap, hL, hbl, he, hsl⟩ := aaD h hX hb
      obtain ⟨news, hV, hc, h1⟩ := Hy (off := 0) hbl (cs := l.flatMap t'.enc) (fun j av hj => by rw [Nat.zero_add]; exact hj)
      have hl := bz hV
      rw [fJ] at hl
      refine ⟨news, ?_, hV⟩
      rw [he]
      show Src P t'.w u (.slice ad l.length cap) l.length news w
      cases hbk : lo.backed with
      | true =>
        obtain ⟨had, _⟩ := hsl.2.1 hbk
        subst had
        exact Src.ofSlice w hu _ _ _ news (by omega) (fun j v hj => by simpa using hc j v hj) h1
      | false =>
        have hn0 := (hsl.2.2 hbk).1
        have hl0 : l = [] := by
         have := hbl.hn
         simp only [Blk.n] at this
         exact List.eq_nil_of_length_eq_zero (by omega)
        subst hl0
        have hnews : news = [] := List.eq_nil_of_length_eq_zero (by simpa using hl.symm)
        subst hnews
        cases ad with
        | none => exact Src.ofNil w hu cap
        | some ad => exact Src.ofSlice w hu ad 0 cap [] (by simp) (by simp) (by simp)
     ·simp at hx
 | sub id lo n =>
   rw [hX] at hx
   simp only [BJ, Option.bind_eq_some_iff] at hx
   obtain ⟨b, hb, hx⟩ := hx
   cases b with
   | map => first | rfl | (cases h; done) | (simp at h; done) | (simp at *; done)
   | bld => first | rfl | (cases h; done) | (simp at h; done) | (simp at *; done)
   | mix m e l => simp at hx
   | rows m e t' l =>
     simp only at hx
     split at hx
     ·rename_i ht
      subst ht
      simp at hx
      subst hx
      obtain ⟨lc, ad, cap, hL, hbl, he, hle, hcap, hadr, _⟩ := aar h hX hb
      have hlen : ((l.drop lo).take n).length = n := by
       have : lo + n ≤ l.length := hle
       simp; omega
      obtain ⟨news, hV, hc, h1⟩ := Hy (off := lo * t'.w) hbl (cs := ((l.drop lo).take n).flatMap t'.enc) (fun j av hj => by
       rw [Dj, List.getElem?_take] at hj
       split at hj
       ·rw [List.getElem?_drop] at hj; exact hj
       ·simp at hj)
      have hl := bz hV
      rw [fJ, hlen] at hl
      refine ⟨news, ?_, hV⟩
      rw [he, hlen]
      by_cases hn : n = 0
      ·subst hn
       have hnews : news = [] := List.eq_nil_of_length_eq_zero (by simpa using hl.symm)
       subst hnews
       cases ad with
       | none => exact Src.ofNil w hu cap
       | some ad => exact Src.ofSlice w hu ad 0 cap [] (by simp) (by simp) (by simp)
      ·have had := hadr hn
       subst had
       exact Src.ofSlice w hu _ _ _ news (by omega) (fun j v hj => hc j v hj) h1
     ·simp at hx
 | nilsl =>
   rw [hX] at hx hv
   simp only [BJ, Option.some.injEq] at hx
   subst hx
   simp only [V] at hv
   rw [hv]
   exact ⟨[], Src.ofNil w hu 0, by simp [VAll]⟩
 | emp =>
   rw [hX] at hx hv
   simp only [BJ, Option.some.injEq] at hx
   subst hx
   simp only [V] at hv
   obtain ⟨ad, hv⟩ := hv
   rw [hv]
   refine ⟨[], ?_, by simp [VAll]⟩
   cases ad with
   | none => exact Src.ofNil w hu 0
   | some ad => exact Src.ofSlice w hu ad 0 0 [] (by simp) (by simp) (by simp)
 | _ => rw [hX] at hx; simp [BJ] at hx
end
theorem abt {T u ty e : TypeId} {i : TypeInfo} (ht : P.underlying T = some (.slice e)) (hi : P.info? e = some i) {g sLen sCap n : Nat} {x : Value} {news : List Value} (hs : Src P i.size u x n news w) {cur : Array Value} (hg : w.heap[g]? = some (.cells cur e (0, 0)))
 (hroom : sLen + n ≤ sCap) (hfit : sLen * i.size + news.length ≤ cur.size) :
 (Builtin.append_ #[T, u] ty #[.slice (some ⟨g, 0, none⟩) sLen sCap, x]).run P w = .ok (.slice (some ⟨g, 0, none⟩) (sLen + n) sCap) (w.setRow g (cur.toList.take (sLen * i.size) ++ news ++ cur.toList.drop (sLen * i.size + news.length)).toArray) := by
 have hst := run_storeCells_at P g (sLen * i.size) e news 0 cur w hg (by simpa using hfit) hs.one
 simp only [Nat.add_zero] at hst
 rcases hs.kind with ⟨e', hk⟩ | hk <;> simp [Builtin.append_, run_underlying ht, run_underlying hk, sizeOf, typeInfo, hi, hs.len, hroom, hs.cells, Addr.add_lit, hst]
theorem aa0 {T u ty e : TypeId} {i : TypeInfo} (ht : P.underlying T = some (.slice e)) (hi : P.info? e = some i) {ad : Option Addr} {x : Value} (hs : Src P i.size u x 0 [] w) :
 (Builtin.append_ #[T, u] ty #[.slice ad 0 0, x]).run P w = .ok (.slice ad 0 0) w := by
 rcases hs.kind with ⟨e', hk⟩ | hk <;> cases ad <;> simp [Builtin.append_, run_underlying ht, run_underlying hk, sizeOf, typeInfo, hi, hs.len, hs.cells, storeCells]
theorem aeT (cur : List Value) (off : Nat) (news : List Value) (h : off + news.length ≤ cur.length) : (cur.take off ++ news ++ cur.drop (off + news.length)).length = cur.length := by
 simp only [List.length_append, List.length_take, List.length_drop]
 omega
theorem ab1 {zc : Array Value} {s need c : Nat} (hzc : zc.size = s) (l : List Value) (hl : l.length = need * s) (hge : need ≤ c) :
 (l.toArray ++ Builtin.zeroCells zc (c - need)).size = c * s := by
 simp only [Array.size_append, List.size_toArray, size_zeroCells, hzc, hl, ← Nat.add_mul]
 congr 1
 omega
section
variable [Inhabited az]
theorem OZ {c : Call} (hop : o.op = .call c) (hcal : c.callee = .builtin .append) {s x : Operand} (hargs : c.args.toList = [s, x]) {T u : TypeId} (htys : c.argTypes.toList = [T, u]) (h : RelL F L st a w) (hg : Goes F k r next)
 {e e' : TypeId} (ht : P.underlying T = some (.slice e)) (hu : P.underlying u = some (.slice e')) {t : Ty} (hty : tyOf P e = some t) (hby : rZ P e = true) (hsz : dX P e = some t.w) {xs : List t.den} (hx : BJ st.heap t (st.get x) = some xs)
 {id n : Nat} {l : List t.den}
 (hcase : (∃ l0, look st.heap id = some (.rows 2 e t l0) ∧ ((st.get s = .sl id ∧ l = l0 ∧ n = l0.length) ∨ (st.get s = .sub id 0 n ∧ l = l0.take n))) ∨ ((st.get s = .nilsl ∨ st.get s = .emp) ∧ l = [] ∧ n = 0 ∧ F.low ≤ id))
 (hbig : n + xs.length ≤ big) (hk : k ((st.fresh id (.rows 2 e t (l ++ xs))).put o.dst (.sl id)) = some r) : o.wp P a w next Q := by
 obtain ⟨news, hsrc, hVnews⟩ := ajc (P := P) h hu hx
 obtain ⟨i, zv, hi, hzv, hzw, _⟩ := afE hty
 obtain ⟨i2, hi2, his⟩ := FV hsz
 rw [hi] at hi2
 have := Option.some.inj hi2
 subst this
 have hbytes : i.bytes ≤ 128 := by
  unfold rZ at hby
  rw [hi] at hby
  exact Nat.le_of_ble_eq_true hby
 have hnl := bz hVnews
 rw [fJ] at hnl
 have hwp := DW t
 have hwl : t.w ≤ 6 := by cases t <;> simp [Ty.w]
 have e1 : c.args = #[s, x] := by rw [← Array.toList_inj]; exact hargs
 have e2 : c.argTypes = #[T, u] := by rw [← Array.toList_inj]; exact htys
 have hexec : ∀ v w', (Builtin.append_ #[T, u] o.type #[a.eval s, a.eval x]).run P w = .ok v w' → (execOp a.eval o).run P w = .ok (.value v) w' := by
  intro v w' hrun
  simp [execOp, hop, resolve, hcal, invoke, builtin, e1, e2, hrun]
 have hbnd : (n + xs.length) * i.bytes ≤ 140737488355328 := by
  have h1 : (n + xs.length) * i.bytes ≤ 1099511627776 * 128 := Nat.mul_le_mul (by unfold big at hbig; exact hbig) hbytes
  omega
 have hmx : n + xs.length ≤ maxLen := by simp only [maxLen]; unfold big at hbig; omega
 have hsmall : ((n + xs.length : Nat) : Int) ≤ 9223372036854775807 := by unfold big at hbig; omega
 obtain ⟨ad, cap, olds, hev, hncap, holds, hVolds, hown⟩ : ∃ ad cap olds, a.eval s = .slice ad n cap ∧ n ≤ cap ∧ ((Builtin.firstCells t.w n (.slice ad n cap)).run P w.drew = .ok olds.toArray w.drew) ∧ VAll L (l.flatMap t.enc) olds ∧
  ((cap = 0 ∧ F.low ≤ id) ∨ ∃ lc cur l0, look st.heap id = some (.rows 2 e t l0) ∧ L id = some lc ∧ iY L F.N F.μ w lc (.rows 2 e t l0) ∧ lc.backed = true ∧ ad = some ⟨lc.b, 0, none⟩ ∧ w.heap[lc.b]? = some (.cells cur e (0, 0)) ∧ cur.size = cap * t.w ∧ cap ≤ maxLen ∧ cur.toList.take (n * t.w) = olds ∧ F.low ≤ id) ∧ l.length = n := by
  rcases hcase with ⟨l0, hlook, hcase⟩ | ⟨hcase, rfl, rfl, hlow⟩
  ·have hβ : ∀ lc, L id = some lc → lc.mode = 2 → F.low ≤ id := by
    intro lc hL hm
    rcases Nat.lt_or_ge id F.low with hlt | hge
    ·rw [h.base id hlt] at hL
     exact absurd hm (h.low id lc hL)
    ·exact hge
   obtain ⟨lc, cap, hL, hbl, hev, hslok, hnle, hl⟩ : ∃ lc cap, L id = some lc ∧ iY L F.N F.μ w lc (.rows 2 e t l0) ∧ (∃ ad, a.eval s = .slice ad n cap ∧ SlOK lc ad cap) ∧ n ≤ cap ∧ n ≤ l0.length ∧ l = l0.take n := by
    rcases hcase with ⟨hs, rfl, rfl⟩ | ⟨hs, rfl⟩
    ·obtain ⟨lc, ad, cap, hL, hbl, he, hsl⟩ := aaD h hs hlook
     refine ⟨lc, cap, hL, hbl, ⟨ad, he, hsl⟩, ?_, Nat.le_refl _, by simp⟩
     have := hsl.1
     rw [hbl.hn] at this
     exact this
    ·obtain ⟨lc, ad, cap, hL, hbl, he, hle, hcap, _, hsl⟩ := aar h hs hlook
     refine ⟨lc, cap, hL, hbl, ⟨ad, he, hsl rfl⟩, hcap, ?_, rfl⟩
     have : 0 + n ≤ l0.length := hle
     omega
   obtain ⟨ad, hev, hsl⟩ := hev
   have hm : lc.mode = 2 := hbl.hm
   have hllen : l.length = n := by rw [hl]; simp; omega
   cases hbk : lc.backed with
   | false =>
     obtain ⟨hn0, hc0⟩ := hsl.2.2 hbk
     have hcap0 := hc0 (by omega)
     have hn00 : n = 0 := by omega
     subst hn00
     have hl0 : l = [] := List.eq_nil_of_length_eq_zero hllen
     refine ⟨ad, cap, [], hev, by omega, ?_, by rw [hl0]; simp [VAll], .inl ⟨hcap0, hβ lc hL hm⟩, hllen⟩
     cases ad <;> simp [Builtin.firstCells, loadCells, loadCellsFrom]
   | true =>
     obtain ⟨had, hcw⟩ := hsl.2.1 hbk
     obtain ⟨hcw1, hcw2⟩ := hcw (by omega)
     obtain ⟨ho, cur, hc, hcs, hcl⟩ := hbl.own hbk (by simp [Blk.mode])
     rw [ho] at had
     have hlw : lc.w = t.w := hbl.hw
     obtain ⟨vs, hV, hcells, _⟩ := Hy (off := 0) hbl (cs := l.flatMap t.enc) (fun j av hj => by
      rw [Nat.zero_add]
      show (l0.flatMap t.enc)[j]? = some av
      have e0 := Dj t l0 0 n
      simp only [List.drop_zero, Nat.zero_mul] at e0
      rw [hl, e0, List.getElem?_take] at hj
      split at hj
      ·exact hj
      ·simp at hj)
     have hvl := bz hV
     rw [fJ, hllen] at hvl
     rw [ho] at hcells
     have htake : cur.toList.take (n * t.w) = vs := by
      apply List.ext_getElem?
      intro j
      rw [List.getElem?_take]
      by_cases hj : j < n * t.w
      ·rw [if_pos hj]
       have hj2 : j < vs.length := by omega
       have := hcells j _ (List.getElem?_eq_getElem hj2)
       rw [Addr.add_lit] at this
       simp only [World.cell?, hc, Nat.zero_add] at this
       rw [List.getElem?_eq_getElem hj2]
       simpa using this
      ·rw [if_neg hj, List.getElem?_eq_none (by omega)]
     refine ⟨ad, cap, vs, hev, hslok, ?_, hV, .inr ⟨lc, cur, l0, hlook, hL, hbl, hbk, had, hc, by rw [hcs, ← hcw1, hlw], hcw2, htake, hβ lc hL hm⟩, hllen⟩
     rw [had]
     exact run_firstCells_some w.drew t.w n _ n cap vs (by omega) (fun j v hj => by have := hcells j v hj; simpa using this)
  ·have hv := h.get s
   have hβ : F.low ≤ id := hlow
   obtain ⟨ad, hev⟩ : ∃ ad, a.eval s = .slice ad 0 0 := by
    rcases hcase with hs | hs <;> rw [hs] at hv <;> simp only [V] at hv
    ·exact ⟨_, hv⟩
    ·exact hv
   refine ⟨ad, 0, [], hev, Nat.le_refl _, ?_, by simp [VAll], .inl ⟨rfl, hβ⟩, rfl⟩
   cases ad <;> simp [Builtin.firstCells, loadCells, loadCellsFrom]
 obtain ⟨hown, hllen⟩ := hown
 have holen := bz hVolds
 rw [fJ, hllen] at holen
 have hVall : ∀ L' : LM, VAll L' ((l ++ xs).flatMap t.enc) (olds ++ news) := by
  intro L'
  have h1 := (MK t l (L' := L') hVolds).1
  have h2 := (MK t xs (L' := L') hVnews).1
  rw [List.flatMap_append]
  have : ∀ (as : List AV) (us : List Value), VAll L' as us → VAll L' (as ++ xs.flatMap t.enc) (us ++ news) := by
   intro as
   induction as with
   | nil => intro us hus; cases us with
     | nil => simpa using h2
     | cons => simp [VAll] at hus
   | cons y ys ih => intro us hus; cases us with
     | nil => simp [VAll] at hus
     | cons v vs => simp only [VAll, List.cons_append] at hus ⊢; exact ⟨hus.1, ih vs hus.2⟩
  exact this _ _ h1
 have hone : ∀ v ∈ olds ++ news, v.oneCell' = true := by
  intro v hv
  rcases List.mem_append.1 hv with hv | hv
  ·exact (MK t l (L' := L) hVolds).2 v hv
  ·exact (MK t xs (L' := L) hVnews).2 v hv
 have hflat : (Blk.rows 2 e t (l ++ xs)).flat = (l ++ xs).flatMap t.enc := rfl
 have hfl : ((l ++ xs).flatMap t.enc).length = (n + xs.length) * t.w := by rw [fJ, List.length_append, hllen]
 have hβ : F.low ≤ id := by
  rcases hown with ⟨_, h⟩ | ⟨_, _, _, _, _, _, _, _, _, _, _, _, h⟩ <;> exact h
 by_cases hroom : n + xs.length ≤ cap
 ·rcases hown with ⟨hcap0, _⟩ | ⟨lc, cur, l0, hlook, hL, hbl, hbk, had, hc, hcs, hcm, htake, _⟩
  ·
    have hn0 : n = 0 := by omega
    have hx0 : xs.length = 0 := by omega
    have hxs : xs = [] := List.eq_nil_of_length_eq_zero hx0
    have hl0 : l = [] := List.eq_nil_of_length_eq_zero (by omega)
    subst hn0 hxs hl0 hcap0
    have hnews : news = [] := List.eq_nil_of_length_eq_zero (by simpa using hnl.symm)
    subst hnews
    rw [his.symm] at hsrc
    have hrun := aa0 (ty := o.type) ht hi (ad := ad) hsrc
    rw [← hev] at hrun
    let l' : Loc := ⟨0, 0, t.w, 0, 2, 0, false, undef⟩
    have hrel : RelL F (L.set id l') (st.fresh id (.rows 2 e t ([] ++ []))) a w := by
     refine h.fresh (S := fun _ => False) (Step.refl w _) hβ (fun _ _ _ _ _ _ _ _ h => h) (fun _ h => h.elim) ?_ (fun hb => by simp [l'] at hb) (hnv := fun hb => by simp [l'] at hb)
     exact ⟨rfl, rfl, rfl, by simp [Blk.mode], fun hb => by simp [l'] at hb, fun hb => by simp [l'] at hb, fun hb => by simp [l'] at hb, fun hb => by simp [l'] at hb, fun hb => by simp [l'] at hb, fun _ => rfl⟩
    refine dV (hexec _ _ hrun) (bV hg hrel (x := .sl id) ?_ hk)
    rw [hev]
    simp only [V]
    exact ⟨l', by simp [LM.set], ad, 0, rfl, ⟨Nat.le_refl _, fun hb => by simp [l'] at hb, fun _ => ⟨rfl, fun _ => rfl⟩⟩, fun h0 => by simp [l'] at h0⟩
  ·
    have hfit : n * t.w + news.length ≤ cur.size := by
     rw [hcs, ← hnl, ← Nat.add_mul]
     exact Nat.mul_le_mul_right _ hroom
    rw [← his] at hsrc
    have hrun := abt (ty := o.type) ht hi (sLen := n) (sCap := cap) hsrc hc hroom (by rw [his]; exact hfit)
    rw [← had, ← hev, his] at hrun
    have hfit2 : n * t.w + news.length ≤ cur.toList.length := by simpa using hfit
    let l' : Loc := ⟨lc.b, 0, t.w, n + xs.length, 2, cur.size, true, undef⟩
    let arr := (cur.toList.take (n * t.w) ++ news ++ cur.toList.drop (n * t.w + news.length)).toArray
    have hrel : RelL F (L.set id l') (st.fresh id (.rows 2 e t (l ++ xs))) a (w.setRow lc.b arr) := by
     have hvis : Vis L st.heap lc.b := ⟨id, _, lc, hlook, hL, hbk, by rw [hbl.hm]; simp [Blk.mode], rfl⟩
     refine h.fresh (S := (· = lc.b)) (Step.setRow w lc.b arr) hβ ?_ ?_ ?_ ?_ (hmp := fun g es c _ hg e => by rw [e, hc] at hg; cases hg) (hhs := fun x hx e => h.maps.far x hx (e ▸ hvis)) (hnv := fun _ _ => .inr fun hx => h.maps.far _ hx hvis)
     ·intro j b l2 hj hlk hL2 hbk2 hor heq
      obtain ⟨l3, hL3, hb3⟩ := h.heap j b hlk
      rw [hL2] at hL3
      have := Option.some.inj hL3
      subst this
      by_cases hz : l2.mode = 0
      ·have hb0 : b.mode = 0 := by rw [← hb3.hm]; exact hz
       have hne : b.flat ≠ [] := by rcases hor with h | h; exact h; exact absurd hb0 h
       have h1 := (hb3.ro hbk2 hb0 hne).1
       have h2 := hbl.m2 hbk rfl
       omega
      ·exact h.inj j id b _ l2 lc hlk hlook hL2 hL hj hbk2 hbk hz (by rw [hbl.hm]; simp [Blk.mode]) heq
     ·intro k hk _
      have := hbl.m2 hbk rfl
      left
      omega
     ·refine ⟨rfl, by simp [l', Blk.n, hllen], rfl, by simp [Blk.mode], fun _ j av hj => ?_, fun _ hm => by simp [Blk.mode] at hm, fun _ _ => ⟨rfl, arr, setRow_heap w lc.b cur _ e (0, 0) hc, ?_, ?_⟩, fun _ hm => by simp [Blk.mode] at hm, fun _ _ => hbl.m2 hbk rfl, fun hb => by simp [l'] at hb⟩
      ·obtain ⟨v, hv, hVv⟩ := gK j (hVall (L.set id l')) hj
       refine ⟨v, ?_, hVv, hone v (List.mem_of_getElem? hv)⟩
       show (w.setRow lc.b arr).cell? ⟨lc.b, 0 + j, none⟩ = some v
       simp only [World.cell?, setRow_heap w lc.b cur arr e (0, 0) hc, Nat.zero_add]
       have hj2 : j < (olds ++ news).length := (List.getElem?_eq_some_iff.1 hv).1
       have : arr.toList[j]? = some v := by
        show (cur.toList.take (n * t.w) ++ news ++ cur.toList.drop (n * t.w + news.length))[j]? = some v
        rw [htake, List.getElem?_append_left hj2]
        exact hv
       simpa using this
      ·show arr.size = cur.size
       have := aeT cur.toList (n * t.w) news hfit2
       simpa [arr] using this
      ·show ((l ++ xs).flatMap t.enc).length ≤ cur.size
       rw [hfl, hcs]
       exact Nat.mul_le_mul_right _ hroom
     ·intro _ _ j b l2 hj hlk hL2 hbk2 hm2
      exact h.inj j id b _ l2 lc hlk hlook hL2 hL hj hbk2 hbk hm2 (by rw [hbl.hm]; simp [Blk.mode])
    refine dV (hexec _ _ hrun) (bV hg hrel (x := .sl id) ?_ hk)
    simp only [V]
    exact ⟨l', by simp [LM.set], _, cap, by rw [had], ⟨hroom, fun _ => ⟨rfl, fun _ => ⟨hcs.symm, hcm⟩⟩, fun hb => by simp [l'] at hb⟩, fun h0 => by simp [l'] at h0⟩
 ·
   rw [← his] at hsrc
   have hrun := run_append_grow_src (w := w) T u o.type e i zv ht hi hzv ad n cap olds (by rw [his]; exact holds) (a.eval x) xs.length news hsrc (by omega) hsmall (growslice_fits (by omega) hbnd)
   rw [← hev] at hrun
   have hge := grownCap_ge w (n + xs.length) cap e
   have hcm : grownCap w (n + xs.length) cap e ≤ maxLen := grownCap_le_maxLen w (n + xs.length) cap e hmx
   generalize hgc : grownCap w (n + xs.length) cap e = gc at hrun hge hcm
   have harr := ab1 (zc := zv.cells) (s := t.w) (need := n + xs.length) (c := gc) (by omega) (olds ++ news) (by rw [List.length_append, ← holen, ← hnl, Nat.add_mul]) hge
   generalize harrdef : (olds ++ news).toArray ++ Builtin.zeroCells zv.cells (gc - (n + xs.length)) = arr at hrun harr
   let l' : Loc := ⟨w.heap.size, 0, t.w, n + xs.length, 2, arr.size, true, undef⟩
   have hrel : RelL F (L.set id l') (st.fresh id (.rows 2 e t (l ++ xs))) a (w.drew.alloc (.cells arr e)) := by
    have hstep : Step w (w.drew.alloc (.cells arr e)) (fun _ => False) := ⟨rfl, rfl, rfl, by simp, fun k hk _ => Below.heap_alloc w.drew _ k hk, fun _ => Nat.le_succ _⟩
    refine h.fresh (S := fun _ => False) hstep hβ (fun _ _ _ _ _ _ _ _ h => h) (fun _ h => h.elim) ?_ ?_
    ·refine ⟨rfl, by simp [l', Blk.n, hllen], rfl, by simp [Blk.mode], fun _ j av hj => ?_, fun _ hm => by simp [Blk.mode] at hm, fun _ _ => ⟨rfl, arr, xx w.drew _, rfl, ?_⟩, fun _ hm => by simp [Blk.mode] at hm, fun _ _ => h.below.size, fun hb => by simp [l'] at hb⟩
     ·obtain ⟨v, hv, hVv⟩ := gK j (hVall (L.set id l')) hj
      refine ⟨v, ?_, hVv, hone v (List.mem_of_getElem? hv)⟩
      show (w.drew.alloc (.cells arr e)).cell? ⟨w.drew.heap.size, 0 + j, none⟩ = some v
      rw [Gv, Nat.zero_add, ← harrdef]
      have hj2 : j < (olds ++ news).length := (List.getElem?_eq_some_iff.1 hv).1
      rw [Array.getElem?_append_left (by simpa using hj2)]
      simpa using hv
     ·show ((l ++ xs).flatMap t.enc).length ≤ arr.size
      rw [hfl, harr]
      exact Nat.mul_le_mul_right _ hge
    ·intro _ _ j b l2 hj hlk hL2 hbk2 hm2
     obtain ⟨l3, hL3, hb3⟩ := h.heap j b hlk
     rw [hL2] at hL3
     have := Option.some.inj hL3
     subst this
     obtain ⟨_, cur2, hc2, _⟩ := hb3.own hbk2 (by rw [← hb3.hm]; exact hm2)
     have := tK hc2
     show l2.b ≠ w.heap.size
     omega
   refine dV (hexec _ _ hrun) (bV hg hrel (x := .sl id) ?_ hk)
   simp only [V]
   exact ⟨l', by simp [LM.set], _, gc, rfl, ⟨hge, fun _ => ⟨rfl, fun _ => ⟨harr.symm, hcm⟩⟩, fun hb => by simp [l'] at hb⟩, fun h0 => by simp [l'] at h0⟩
end
end Go.Ev
