/- The evaluator's operations held against the model's: one lemma an operation. -/
import Derived.Test.YtbopdbpjmlmngaaGreatEvOps2
namespace Go.Ev
open Go.RowKit
variable {α : Type} {P : Program} {w : World} {F : Fix} {L : LM} {st : St} {a : Act} {o : Oper} {next : Act → World → Prop} {Q : Exit → Act → World → Prop}
theorem kY {v : Value} {w' : World} (hrun : (execOp a.eval o).run P w = .ok (.value v) w') (h : next (a.put o.dst v) w') : o.wp P a w next Q := by
 unfold Oper.wp
 rw [hrun]
 exact h
theorem al6 {w' : World} (hrun : (execOp a.eval o).run P w = .ok .skip w') (h : next (a.put o.dst undef) w') : o.wp P a w next Q := by
 unfold Oper.wp
 rw [hrun]
 exact h
abbrev Goes (F : Fix) (k : St → Option α) (r : α) (next : Act → World → Prop) : Prop := ∀ st' a' w', k st' = some r → Rel F st' a' w' → next a' w'
variable {k : St → Option α} {r : α}
theorem iw (hg : Goes F k r next) (h : RelL F L st a w) {x : AV} {v : Value} (hv : V L x v) {dst : Option Tmp} (hk : k (st.put dst x) = some r) : next (a.put dst v) w :=
 hg _ _ _ hk ⟨L, h.put hv dst⟩
theorem ara {x : Operand} (hop : o.op = .move x ∨ o.op = .assign x) (h : RelL F L st a w) (hg : Goes F k r next) (hk : k (st.put o.dst (st.get x)) = some r) : o.wp P a w next Q := by
 refine kY (v := a.eval x) (w' := w) ?_ (iw hg h (h.get x) hk)
 rcases hop with hop | hop <;> simp [execOp, hop]
theorem ap8 {x : Operand} (hop : o.op = .nilCheck x) (h : RelL F L st a w) (hg : Goes F k r next) {id row col : Nat} (hx : st.get x = .ptr id row col) (hk : k (st.put o.dst (.ptr id row col)) = some r) : o.wp P a w next Q := by
 have hv := h.get x
 rw [hx] at hv
 have hv2 := hv
 simp only [V] at hv2
 obtain ⟨l, hl, he⟩ := hv2
 refine kY (v := a.eval x) (w' := w) ?_ (iw hg h hv hk)
 simp [execOp, hop, he]
theorem azn {c x y : Operand} (hop : o.op = .pick c x y) (h : RelL F L st a w) (hg : Goes F k r next) {t : Bool} (hc : st.get c = .bool t)
 (hk : (bif t then k (st.put o.dst (st.get x)) else k (st.put o.dst (st.get y))) = some r) : o.wp P a w next Q := by
 have hv := h.get c
 rw [hc] at hv
 simp only [V] at hv
 cases t with
 | true => exact kY (v := a.eval x) (w' := w) (by simp [execOp, hop, hv, asBool]) (iw hg h (h.get x) hk)
 | false => exact kY (v := a.eval y) (w' := w) (by simp [execOp, hop, hv, asBool]) (iw hg h (h.get y) hk)
theorem aBD {t : TypeId} {x : Operand} (hop : o.op = .box t x) (h : RelL F L st a w) (hg : Goes F k r next) {id : Nat} (hid : F.low ≤ id) (hc : rQ (cellsOf (st.get x)) = true)
 (hn : AV.namesAll id (cellsOf (st.get x)) = false) (hk : k ((st.fresh id (zW 2 t (cellsOf (st.get x)))).put o.dst (.ptr id 0 0)) = some r) : o.wp P a w next Q := by
 obtain ⟨hv, h1⟩ := ajC hc (h.get x)
 obtain ⟨f1, f2, f3, f4, f5⟩ := TV 2 t (cellsOf (st.get x))
 have hnew := h.new (id := id) hid (blk := zW 2 t (cellsOf (st.get x))) (arr := (a.eval x).cells) (by rw [f1]; exact hv) h1 (by rw [f1]; exact hn) f4
 rw [f5, f2, f3] at hnew
 refine kY (v := .pointer (some ⟨w.heap.size, 0, none⟩)) (w' := w.alloc (.cells (a.eval x).cells t)) ?_ (iw hg hnew ?_ hk)
 ·simp [execOp, hop, Instr.box, newVar, newRow]
 ·simp [V, LM.set]
theorem awP {t : TypeId} (hop : o.op = .alloc t) (h : RelL F L st a w) (hg : Goes F k r next) {id : Nat} (hid : F.low ≤ id) {z : AV} (hz : Kv P t = some z) (hc : rQ (cellsOf z) = true)
 (hn : AV.namesAll id (cellsOf z) = false) (hk : k ((st.fresh id (zW 2 t (cellsOf z))).put o.dst (.ptr id 0 0)) = some r) : o.wp P a w next Q := by
 obtain ⟨i, v, hi, hv0, rfl⟩ := Rk hz
 obtain ⟨hv, h1⟩ := ajC (L := L) hc (ac5 L v)
 obtain ⟨f1, f2, f3, f4, f5⟩ := TV 2 t (cellsOf (Fv v))
 have hnew := h.new (id := id) hid (blk := zW 2 t (cellsOf (Fv v))) (arr := v.cells) (by rw [f1]; exact hv) h1 (by rw [f1]; exact hn) f4
 rw [f5, f2, f3] at hnew
 refine kY (v := .pointer (some ⟨w.heap.size, 0, none⟩)) (w' := w.alloc (.cells v.cells t)) ?_ (iw hg hnew ?_ hk)
 ·simp [execOp, hop, Instr.alloc, VX hi hv0, newVar, newRow]
 ·simp [V, LM.set]
theorem aiN (h : RelL F L st a w) {id row col : Nat} {x : Operand} (hx : st.get x = .ptr id row col) {b : Blk} (hb : look st.heap id = some b) :
 ∃ l, L id = some l ∧ vJ L F.N F.μ w l b ∧ a.eval x = .pointer (some ⟨l.b, l.o + (row * b.w + col), none⟩) := by
 have hv := h.get x
 rw [hx] at hv
 simp only [V] at hv
 obtain ⟨l, hl, hv⟩ := hv
 obtain ⟨l2, hl2, hbl⟩ := h.heap id b hb
 rw [hl] at hl2
 have := Option.some.inj hl2
 subst this
 exact ⟨l, hl, hbl, by rw [hv, hbl.hw]⟩
theorem PZ {l : Loc} {b : Blk} {N : Nat} {μ : List Nat} (h : vJ L N μ w l b) (hne : b.flat ≠ []) : l.backed = true := by
 cases hb : l.backed with
 | true => rfl
 | false => exact absurd (h.nb hb) hne
theorem ad9 {l : Loc} {b : Blk} {N : Nat} {μ : List Nat} (h : vJ L N μ w l b) {off : Nat} {cs : List AV} (hcs : ∀ (j : Nat) (av : AV), cs[j]? = some av → b.flat[off + j]? = some av) :
 ∃ vs : List Value, VAll L cs vs ∧ (∀ (j : Nat) (v : Value), vs[j]? = some v → w.cell? ((⟨l.b, l.o + off, none⟩ : Addr).add j) = some v) ∧ ∀ v ∈ vs, v.oneCell' = true := by
 have key : ∀ (cs : List AV) (off : Nat), (∀ (j : Nat) (av : AV), cs[j]? = some av → b.flat[off + j]? = some av) →
  ∃ vs : List Value, VAll L cs vs ∧ (∀ (j : Nat) (v : Value), vs[j]? = some v → w.cell? ⟨l.b, l.o + off + j, none⟩ = some v) ∧ ∀ v ∈ vs, v.oneCell' = true := by
  intro cs
  induction cs with
  | nil => exact fun _ _ => ⟨[], by simp [VAll], by simp, by simp⟩
  | cons x r ih =>
    intro off hcs
    have hx := hcs 0 x rfl
    have hbk := PZ h (fun e => by simp [e] at hx)
    obtain ⟨v, hc, hv, h1⟩ := h.cells hbk _ x hx
    obtain ⟨vs, hvs, hcells, hone⟩ := ih (off + 1) fun j av hj => by
     have := hcs (j + 1) av (by simpa using hj)
     rwa [show off + 1 + j = off + (j + 1) by omega]
    refine ⟨v :: vs, by simp [VAll, hv, hvs], fun j u hj => ?_, fun u hu => ?_⟩
    ·cases j with
     | zero => simp at hj; subst hj; simpa [Nat.add_assoc] using hc
     | succ j =>
       have := hcells j u (by simpa using hj)
       rwa [show l.o + off + (j + 1) = l.o + (off + 1) + j by omega]
    ·rcases List.mem_cons.1 hu with rfl | hu
     ·exact h1
     ·exact hone u hu
 obtain ⟨vs, h1, h2, h3⟩ := key cs off hcs
 refine ⟨vs, h1, fun j v hj => ?_, h3⟩
 rw [Addr.add_lit]
 exact h2 j v hj
theorem aie {t : TypeId} {n : Nat} {ag : Bool} (hs : lK P t = some n) (hag : aggT P t = some ag) {ad : Addr} {vs : List Value} (hl : vs.length = n)
 (hc : ∀ (j : Nat) (v : Value), vs[j]? = some v → w.cell? (ad.add j) = some v) (hone : ag = false → ∃ v, vs = [v]) :
 (Instr.loadAt t (.pointer (some ad))).run P w = .ok (if ag then .agg vs.toArray else vs.getD 0 undef) w := by
 have h1 := run_loadCells_list (P := P) w ad vs hc
 unfold Instr.loadAt loadVar Instr.sureAddr
 simp only [Sem.run_bind, Sem.run_pure, Result.andThen_ok, anm hag]
 cases ag with
 | true => simp [xZ hs, ← hl, h1]
 | false =>
   obtain ⟨v, rfl⟩ := hone rfl
   have := hc 0 v rfl
   simp only [Addr.add_zero'] at this
   simp [load, Sem.run, this]
theorem aAh {t : TypeId} {x : Operand} (hop : o.op = .load t x) (h : RelL F L st a w) (hg : Goes F k r next) {id row col : Nat} (hx : st.get x = .ptr id row col) {b : Blk} (hb : look st.heap id = some b)
 {n : Nat} (hs : lK P t = some n) {ag : Bool} (hag : aggT P t = some ag) {cs : List AV} (hl : cs.length = n) (hcs : ∀ (j : Nat) (av : AV), cs[j]? = some av → b.flat[row * b.w + col + j]? = some av)
 (hk : (bif ag then k (st.put o.dst (.agg cs)) else aew cs fun y => k (st.put o.dst y)) = some r) : o.wp P a w next Q := by
 obtain ⟨l, hL, hbl, he⟩ := aiN h hx hb
 obtain ⟨vs, hV, hc, _⟩ := ad9 hbl hcs
 have hvl := jW hV
 have hone : ag = false → ∃ v, vs = [v] := by
  intro e
  subst e
  simp only [cond_false] at hk
  unfold aew at hk
  split at hk
  ·match vs, hvl with
   | [v], _ => exact ⟨v, rfl⟩
  ·simp at hk
 have hrun := aie (w := w) hs hag (ad := ⟨l.b, l.o + (row * b.w + col), none⟩) (vs := vs) (by omega) hc hone
 refine kY (v := if ag then .agg vs.toArray else vs.getD 0 undef) (w' := w) (by simp [execOp, hop, he, hrun]) ?_
 cases ag with
 | true =>
   rw [cond_true] at hk
   exact iw hg h (x := .agg cs) (by simp only [V]; exact ⟨vs.toArray, by simp, by simpa using hV⟩) hk
 | false =>
   obtain ⟨v, rfl⟩ := hone rfl
   rw [cond_false] at hk
   match cs, hV with
   | [y], hV =>
     simp only [VAll, and_true] at hV
     exact iw hg h (x := y) (by simpa using hV) hk
theorem aol (cur : List Value) (off : Nat) (vs : List Value) (j : Nat) (h : off + vs.length ≤ cur.length) :
 (cur.take off ++ vs ++ cur.drop (off + vs.length))[j]? = if off ≤ j ∧ j < off + vs.length then vs[j - off]? else cur[j]? := by
 by_cases h1 : j < off
 ·rw [if_neg (by omega), List.append_assoc, List.getElem?_append_left (by simp; omega), List.getElem?_take, if_pos h1]
 ·by_cases h2 : j < off + vs.length
  ·rw [if_pos (by omega), List.append_assoc, List.getElem?_append_right (by simp; omega), List.getElem?_append_left (by simp; omega)]
   congr 1
   simp
   omega
  ·rw [if_neg (by omega), List.getElem?_append_right (by simp; omega), List.getElem?_drop]
   congr 1
   simp
   omega
theorem vJ.wrote {l : Loc} {b b' : Blk} {N : Nat} {μ : List Nat} (h : vJ L N μ w l b) (hbk : l.backed = true) (hm : b'.mode = b.mode) (he : b'.e = b.e) (hn : b'.n = b.n) (hw : b'.w = b.w) (hmode : b.mode ≠ 0)
 {off : Nat} {cs : List AV} (hfit : off + cs.length ≤ b.flat.length) (hf : b'.flat = Dy b.flat off cs) {vs : List Value} (hV : VAll L cs vs) (h1 : ∀ v ∈ vs, v.oneCell' = true) {cur : Array Value} (hc : w.heap[l.b]? = some (.cells cur b.e (0, 0))) (hsz : b.flat.length ≤ cur.size) :
 vJ L N μ (w.setRow l.b (cur.toList.take off ++ vs ++ cur.toList.drop (off + vs.length)).toArray) l b' := by
 have hlen := jW hV
 have ho : l.o = 0 := (h.own hbk hmode).1
 have hfl : b'.flat.length = b.flat.length := by rw [hf, VK]
 have hfit2 : off + vs.length ≤ cur.toList.length := by simp; omega
 refine ⟨by rw [hw]; exact h.hw, by rw [hn]; exact h.hn, by rw [hm]; exact h.hm, by rw [hm]; exact h.le, fun _ i av hi => ?_, fun hb hm0 _ => by omega, fun hb _ => ?_, fun hb h1 => h.m1 hb (by omega), fun hb h2 => h.m2 hb (by omega), fun hb => by rw [hbk] at hb; cases hb⟩
 ·rw [hf, aaL _ _ _ _ hfit] at hi
  have hcell : (w.setRow l.b (cur.toList.take off ++ vs ++ cur.toList.drop (off + vs.length)).toArray).cell? ⟨l.b, l.o + i, none⟩ = (cur.toList.take off ++ vs ++ cur.toList.drop (off + vs.length))[i]? := by
   simp only [World.cell?, setRow_heap w l.b cur _ b.e (0, 0) hc, ho, Nat.zero_add]
   simp
  rw [hcell, aol _ _ _ _ hfit2]
  by_cases hin : off ≤ i ∧ i < off + cs.length
  ·rw [if_pos hin] at hi
   rw [if_pos (by omega)]
   obtain ⟨v, hv, hVv⟩ := rJ _ hV hi
   exact ⟨v, hv, hVv, h1 v (List.mem_of_getElem? hv)⟩
  ·rw [if_neg hin] at hi
   rw [if_neg (by omega)]
   obtain ⟨v, hv, hVv⟩ := h.cells hbk i av hi
   simp only [World.cell?, hc, ho, Nat.zero_add] at hv
   exact ⟨v, by simpa using hv, hVv⟩
 ·obtain ⟨ho, cur2, hc2, hs2, hl2⟩ := h.own hb hmode
  rw [hc] at hc2
  have e : cur = cur2 := by simpa using hc2
  subst e
  refine ⟨ho, _, by rw [he]; exact setRow_heap w l.b cur _ b.e (0, 0) hc, ?_, by rw [hfl]; exact hl2⟩
  rw [← hs2]
  simp only [List.size_toArray, List.length_append, List.length_take, List.length_drop, Array.length_toList] at hfit2 ⊢
  omega
theorem awD {t : TypeId} {x y : Operand} (hop : o.op = .store t x y) (h : RelL F L st a w) (hg : Goes F k r next) {id row col : Nat} (hx : st.get x = .ptr id row col) {b : Blk} (hb : look st.heap id = some b)
 {n : Nat} (hs : lK P t = some n) (hn0 : (cellsOf (st.get y)).length = n) {b' : Blk} (hmode : b.mode ≠ 0) (hm : b'.mode = b.mode) (he : b'.e = b.e) (hn : b'.n = b.n) (hw : b'.w = b.w) (hcells : rQ (cellsOf (st.get y)) = true)
 (hfit : cellsOf (st.get y) ≠ [] → row * b.w + col + (cellsOf (st.get y)).length ≤ b.flat.length) (hf : b'.flat = Dy b.flat (row * b.w + col) (cellsOf (st.get y)))
 (hk : k ({ st with heap := upd st.heap id b' }.put o.dst .undef) = some r) : o.wp P a w next Q := by
 obtain ⟨l, hL, hbl, hev⟩ := aiN h hx hb
 obtain ⟨hV, h1⟩ := ajC hcells (h.get y)
 have hlen := jW hV
 have hcs : (a.eval y).cells.size = n := by rw [← hn0, hlen]; simp
 have hrun0 : (execOp a.eval o).run P w = ((storeCells ⟨l.b, l.o + (row * b.w + col), none⟩ (a.eval y).cells.toList 0).run P w).andThen fun _ w => .ok .skip w := by
  simp [execOp, hop, hev, Instr.storeAt, Instr.sureAddr, storeVar, xZ hs, hcs]
 by_cases hne : cellsOf (st.get y) = []
 ·
   have hnil : (a.eval y).cells.toList = [] := by
    rw [hne] at hlen
    exact List.eq_nil_of_length_eq_zero (by simpa using hlen.symm)
   have hrun : (execOp a.eval o).run P w = .ok .skip w := by
    rw [hrun0, hnil]
    rfl
   refine al6 hrun (hg _ _ _ hk ⟨L, RelL.put ?_ (by simp [V]) o.dst⟩)
   have hff : b'.flat = b.flat := by rw [hf, hne]; rfl
   refine { h with heap := fun j c hj => ?_, inj := fun i j c d p q hi hj hp hq hne hbp hbq h1 h2 => ?_, maps := h.maps.upd (aqB (by rw [hm]; exact hmode)) }
   ·rw [CZ] at hj
    by_cases e : j = id
    ·simp only [e, if_true, Option.some.injEq] at hj
     subst hj
     exact ⟨l, by rw [e]; exact hL, ⟨by rw [hw]; exact hbl.hw, by rw [hn]; exact hbl.hn, by rw [hm]; exact hbl.hm, by rw [hm]; exact hbl.le, fun hb => by rw [hff]; exact hbl.cells hb, fun hb h0 _ => by omega, fun hb h0 => by rw [hff, he]; exact hbl.own hb (by omega), fun hb h0 => hbl.m1 hb (by omega), fun hb h0 => hbl.m2 hb (by omega), fun hb => by rw [hff]; exact hbl.nb hb⟩⟩
    ·simp only [e, if_false] at hj
     exact h.heap j c hj
   ·rw [CZ] at hi hj
    have hi' : ∃ b, look st.heap i = some b := by
     by_cases e : i = id
     ·exact ⟨b, by rw [e]; assumption⟩
     ·simp only [e, if_false] at hi; exact ⟨_, hi⟩
    have hj' : ∃ b, look st.heap j = some b := by
     by_cases e : j = id
     ·exact ⟨b, by rw [e]; assumption⟩
     ·simp only [e, if_false] at hj; exact ⟨_, hj⟩
    obtain ⟨b1, hi'⟩ := hi'
    obtain ⟨b2, hj'⟩ := hj'
    exact h.inj i j b1 b2 p q hi' hj' hp hq hne hbp hbq h1 h2
 ·have hfit := hfit hne
  have hflne : b.flat ≠ [] := by
   intro e
   rw [e] at hfit
   have : 0 < (cellsOf (st.get y)).length := List.length_pos_iff.2 hne
   simp only [List.length_nil] at hfit
   omega
  have hbk := PZ hbl hflne
  obtain ⟨ho, cur, hc, hsz, hle⟩ := hbl.own hbk hmode
  have hst := run_storeCells_at P l.b (row * b.w + col) b.e (a.eval y).cells.toList 0 cur w hc (by simp at hlen ⊢; omega) (fun v hv => h1 v (by simpa using hv))
  have hrun : (execOp a.eval o).run P w = .ok .skip (w.setRow l.b (cur.toList.take (row * b.w + col) ++ (a.eval y).cells.toList ++ cur.toList.drop (row * b.w + col + (a.eval y).cells.toList.length)).toArray) := by
   rw [hrun0, ho, Nat.zero_add, hst]
   simp
  refine al6 hrun (hg _ _ _ hk ⟨L, RelL.put ?_ (by simp [V]) o.dst⟩)
  exact h.write hb hL (Step.setRow w l.b _) hbk hmode hm (hbl.wrote hbk hm he hn hw hmode hfit hf hV (fun v hv => h1 v (by simpa using hv)) hc (by omega))
end Go.Ev
