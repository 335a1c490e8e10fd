/- The evaluator's operations held against the model's: one lemma an operation. -/
import Derived.Test.YthjehhoafmnmkaaEvOps2
namespace Go.Ev
open Go.RowKit
variable {α : Type} {P : Program} {w : World} {F : Fix} {L : LM} {st : St} {a : Act} {o : Oper} {next : Act → World → Prop} {Q : Exit → Act → World → Prop}
theorem dV {v : Value} {w' : World} (hrun : (execOp a.eval o).run P w = .ok (.value v) w') (h : next (a.put o.dst v) w') : o.wp P a w next Q := by
 unfold Oper.wp
 rw [hrun]
 exact h
theorem XX {w' : World} (hrun : (execOp a.eval o).run P w = .ok .skip w') (h : next (a.put o.dst undef) w') : o.wp P a w next Q := by
 unfold Oper.wp
 rw [hrun]
 exact h
section
variable [Inhabited az]
abbrev Goes (F : Fix) (k : St → Option α) (r : α) (next : Act → World → Prop) : Prop := ∀ st' a' w', k st' = some r → Rel F st' a' w' → next a' w'
end
variable {k : St → Option α} {r : α}
section
variable [Inhabited az]
theorem bV (hg : Goes F k r next) (h : RelL F L st a w) {x : AV} {v : Value} (hv : V L x v) {dst : Option Tmp} (hk : k (st.put dst x) = some r) : next (a.put dst v) w :=
 hg _ _ _ hk ⟨L, h.put hv dst⟩
theorem aex {x : Operand} (hop : o.op = .move x ∨ o.op = .assign x) (h : RelL F L st a w) (hg : Goes F k r next) (hk : k (st.put o.dst (st.get x)) = some r) : o.wp P a w next Q := by
 refine dV (v := a.eval x) (w' := w) ?_ (bV hg h (h.get x) hk)
 rcases hop with hop | hop <;> simp [execOp, hop]
theorem adX {x : Operand} (hop : o.op = .nilCheck x) (h : RelL F L st a w) (hg : Goes F k r next) {id row col : Nat} (hx : st.get x = .ptr id row col) (hk : k (st.put o.dst (.ptr id row col)) = some r) : o.wp P a w next Q := by
 have hv := h.get x
 rw [hx] at hv
 have hv2 := hv
 simp only [V] at hv2
 obtain ⟨l, hl, he⟩ := hv2
 refine dV (v := a.eval x) (w' := w) ?_ (bV hg h hv hk)
 simp [execOp, hop, he]
theorem aiV {c x y : Operand} (hop : o.op = .pick c x y) (h : RelL F L st a w) (hg : Goes F k r next) {t : Bool} (hc : st.get c = .bool t)
 (hk : (bif t then k (st.put o.dst (st.get x)) else k (st.put o.dst (st.get y))) = some r) : o.wp P a w next Q := by
 have hv := h.get c
 rw [hc] at hv
 simp only [V] at hv
 cases t with
 | true => exact dV (v := a.eval x) (w' := w) (by simp [execOp, hop, hv, asBool]) (bV hg h (h.get x) hk)
 | false => exact dV (v := a.eval y) (w' := w) (by simp [execOp, hop, hv, asBool]) (bV hg h (h.get y) hk)
theorem ajp {t : TypeId} {x : Operand} (hop : o.op = .box t x) (h : RelL F L st a w) (hg : Goes F k r next) {id : Nat} (hid : F.low ≤ id) (hc : gZ (cellsOf (st.get x)) = true)
 (hn : AV.namesAll id (cellsOf (st.get x)) = false) (hk : k ((st.fresh id (kZ 2 t (cellsOf (st.get x)))).put o.dst (.ptr id 0 0)) = some r) : o.wp P a w next Q := by
 obtain ⟨hv, h1⟩ := MQ hc (h.get x)
 obtain ⟨f1, f2, f3, f4, f5⟩ := uX 2 t (cellsOf (st.get x))
 have hnew := h.new (id := id) hid (blk := kZ 2 t (cellsOf (st.get x))) (arr := (a.eval x).cells) (by rw [f1]; exact hv) h1 (by rw [f1]; exact hn) f4
 rw [f5, f2, f3] at hnew
 refine dV (v := .pointer (some ⟨w.heap.size, 0, none⟩)) (w' := w.alloc (.cells (a.eval x).cells t)) ?_ (bV hg hnew ?_ hk)
 ·simp [execOp, hop, Instr.box, newVar, newRow]
 ·simp [V, LM.set]
theorem acK {t : TypeId} (hop : o.op = .alloc t) (h : RelL F L st a w) (hg : Goes F k r next) {id : Nat} (hid : F.low ≤ id) {z : AV} (hz : nY P t = some z) (hc : gZ (cellsOf z) = true)
 (hn : AV.namesAll id (cellsOf z) = false) (hk : k ((st.fresh id (kZ 2 t (cellsOf z))).put o.dst (.ptr id 0 0)) = some r) : o.wp P a w next Q := by
 obtain ⟨i, v, hi, hv0, rfl⟩ := qV hz
 obtain ⟨hv, h1⟩ := MQ (L := L) hc (zx L v)
 obtain ⟨f1, f2, f3, f4, f5⟩ := uX 2 t (cellsOf (mW v))
 have hnew := h.new (id := id) hid (blk := kZ 2 t (cellsOf (mW v))) (arr := v.cells) (by rw [f1]; exact hv) h1 (by rw [f1]; exact hn) f4
 rw [f5, f2, f3] at hnew
 refine dV (v := .pointer (some ⟨w.heap.size, 0, none⟩)) (w' := w.alloc (.cells v.cells t)) ?_ (bV hg hnew ?_ hk)
 ·simp [execOp, hop, Instr.alloc, ry hi hv0, newVar, newRow]
 ·simp [V, LM.set]
end
theorem afh {l : List AV} (h : Ew l = true) : l = [.nilptr, .nilsl] := by
 unfold Ew at h
 split at h
 ·rfl
 ·cases h
theorem abI {arr : Array Value} (h : VAll L [.nilptr, .nilsl] arr.toList) : arr = #[.pointer none, .slice none 0 0] := by
 have hlen := bz h
 have e : arr.toList = [.pointer none, .slice none 0 0] := by
  match hl : arr.toList, h with
  | [x, y], h =>
    simp only [VAll, V] at h
    rw [h.1, h.2.1]
  | [], h => simp [VAll] at h
  | [_], h => simp [VAll] at h
  | _ :: _ :: _ :: _, h => simp [VAll] at h
 rw [← Array.toArray_toList (xs := arr), e]
theorem abZ {w : World} {N b : Nat} {e eb : TypeId} (hN : N ≤ b) (hb : w.heap[b]? = some (.cells #[.pointer none, .slice none 0 0] e (0, 0))) : Lib.IsBuilderF e eb N b (Lib.strCells ByteArray.empty) w ∧ rJ w b = none := by
 refine ⟨.inl ⟨hN, .slice none 0 0, hb, ⟨rfl, .inl ⟨rfl, rfl⟩⟩, by simp [Value.ownBlock]⟩, ?_⟩
 unfold rJ
 rw [Lib.cell_of_heap hb]
 rfl
section
variable [Inhabited az]
theorem afA {t eb : TypeId} (hop : o.op = .alloc t) (h : RelL F L st a w) (hg : Goes F k r next) {id : Nat} (hid : F.low ≤ id) {z : AV} (hz : nY P t = some z) (hc : gZ (cellsOf z) = true)
 (hzb : Ew (cellsOf z) = true) (hk : k ((st.fresh id (.bld t eb ByteArray.empty)).put o.dst (.ptr id 0 0)) = some r) : o.wp P a w next Q := by
 obtain ⟨i, v, hi, hv0, rfl⟩ := qV hz
 obtain ⟨hv, h1⟩ := MQ (L := L) hc (zx L v)
 rw [afh hzb] at hv
 have harr := abI hv
 let l' : Loc := ⟨w.heap.size, 0, 1, 0, 0, 0, false, undef⟩
 have hat : (w.alloc (.cells v.cells t)).heap[w.heap.size]? = some (.cells #[.pointer none, .slice none 0 0] t (0, 0)) := by
  rw [xx, harr]
 have hB := abZ (eb := eb) (N := F.N) h.below.size hat
 have hrel : RelL F (L.set id l') (st.fresh id (.bld t eb ByteArray.empty)) a (w.alloc (.cells v.cells t)) := by
  refine h.freshM (S := fun _ => False) (Step.alloc w _ _) hid (fun _ _ _ _ _ _ _ _ h => h) (fun _ h => h.elim) ⟨rfl, rfl, rfl, by simp [Blk.mode], fun hb => by simp [l'] at hb, fun hb => by simp [l'] at hb, fun hb => by simp [l'] at hb, fun hb => by simp [l'] at hb, fun hb => by simp [l'] at hb, fun _ => rfl⟩ (fun hb => by simp [l'] at hb) (fun _ _ _ _ _ h => h) (fun _ => ⟨fun e' kt vt ks vs he => (by cases he), fun j b l hj hl hm hL => ?_⟩) (fun e eb' s he => ?_) (fun _ _ h => h) (fun hb => by simp [l'] at hb)
  ·cases b with
   | map e2 kt2 vt2 ks vs =>
     obtain ⟨l2, hl2, _, es, c, hm2, _⟩ := h.maps.at_ j _ _ _ _ _ hl
     rw [hL] at hl2
     cases hl2
     exact Nat.ne_of_lt (tK hm2)
   | bld e2 eb2 s2 =>
     obtain ⟨l2, hl2, _, hB2⟩ := h.maps.bat j _ _ _ hl
     rw [hL] at hl2
     cases hl2
     exact Nat.ne_of_lt (uk hB2).2
   | _ => cases hm
  ·cases he
   exact ⟨Nat.le_refl _, rfl, hB.1, hB.2⟩
 refine dV (v := .pointer (some ⟨w.heap.size, 0, none⟩)) (w' := w.alloc (.cells v.cells t)) ?_ (bV hg hrel ?_ hk)
 ·simp [execOp, hop, Instr.alloc, ry hi hv0, newVar, newRow]
 ·simp [V, LM.set, l']
theorem afU {t : TypeId} (hop : o.op = .alloc t) (h : RelL F L st a w) (hg : Goes F k r next) {id : Nat} (hid : F.low ≤ id) {z : AV} (hz : nY P t = some z) (hc : gZ (cellsOf z) = true)
 (hn : AV.namesAll id (cellsOf z) = false) (hk : k ((st.fresh id (TK P t (cellsOf z))).put o.dst (.ptr id 0 0)) = some r) : o.wp P a w next Q := by
 unfold TK at hk
 split at hk
 ·cases hzb : Ew (cellsOf z) with
  | true => rw [hzb, cond_true] at hk; exact afA hop h hg hid hz hc hzb hk
  | false => rw [hzb, cond_false] at hk; exact acK hop h hg hid hz hc hn hk
 ·exact acK hop h hg hid hz hc hn hk
theorem Qk (h : RelL F L st a w) {id row col : Nat} {x : Operand} (hx : st.get x = .ptr id row col) {b : Blk} (hb : look st.heap id = some b) :
 ∃ l, L id = some l ∧ iY L F.N F.μ w l b ∧ a.eval x = .pointer (some ⟨l.b, l.o + (row * b.w + col), none⟩) := by
 have hv := h.get x
 rw [hx] at hv
 simp only [V] at hv
 obtain ⟨l, hl, hv⟩ := hv
 obtain ⟨l2, hl2, hbl⟩ := h.heap id b hb
 rw [hl] at hl2
 have := Option.some.inj hl2
 subst this
 exact ⟨l, hl, hbl, by rw [hv, hbl.hw]⟩
end
theorem qK {l : Loc} {b : Blk} {N : Nat} {μ : List Nat} (h : iY L N μ w l b) (hne : b.flat ≠ []) : l.backed = true := by
 cases hb : l.backed with
 | true => rfl
 | false => exact absurd (h.nb hb) hne
theorem Hy {l : Loc} {b : Blk} {N : Nat} {μ : List Nat} (h : iY L N μ w l b) {off : Nat} {cs : List AV} (hcs : ∀ (j : Nat) (av : AV), cs[j]? = some av → b.flat[off + j]? = some av) :
 ∃ vs : List Value, VAll L cs vs ∧ (∀ (j : Nat) (v : Value), vs[j]? = some v → w.cell? ((⟨l.b, l.o + off, none⟩ : Addr).add j) = some v) ∧ ∀ v ∈ vs, v.oneCell' = true := by
 have key : ∀ (cs : List AV) (off : Nat), (∀ (j : Nat) (av : AV), cs[j]? = some av → b.flat[off + j]? = some av) →
  ∃ vs : List Value, VAll L cs vs ∧ (∀ (j : Nat) (v : Value), vs[j]? = some v → w.cell? ⟨l.b, l.o + off + j, none⟩ = some v) ∧ ∀ v ∈ vs, v.oneCell' = true := by
  intro cs
  induction cs with
  | nil => exact fun _ _ => ⟨[], by simp [VAll], by simp, by simp⟩
  | cons x r ih =>
    intro off hcs
    have hx := hcs 0 x rfl
    have hbk := qK h (fun e => by simp [e] at hx)
    obtain ⟨v, hc, hv, h1⟩ := h.cells hbk _ x hx
    obtain ⟨vs, hvs, hcells, hone⟩ := ih (off + 1) fun j av hj => by
     have := hcs (j + 1) av (by simpa using hj)
     rwa [show off + 1 + j = off + (j + 1) by omega]
    refine ⟨v :: vs, by simp [VAll, hv, hvs], fun j u hj => ?_, fun u hu => ?_⟩
    ·cases j with
     | zero => simp at hj; subst hj; simpa [Nat.add_assoc] using hc
     | succ j =>
       have := hcells j u (by simpa using hj)
       rwa [show l.o + off + (j + 1) = l.o + (off + 1) + j by omega]
    ·rcases List.mem_cons.1 hu with rfl | hu
     ·exact h1
     ·exact hone u hu
 obtain ⟨vs, h1, h2, h3⟩ := key cs off hcs
 refine ⟨vs, h1, fun j v hj => ?_, h3⟩
 rw [Addr.add_lit]
 exact h2 j v hj
theorem TV {t : TypeId} {n : Nat} {ag : Bool} (hs : dX P t = some n) (hag : aggT P t = some ag) {ad : Addr} {vs : List Value} (hl : vs.length = n)
 (hc : ∀ (j : Nat) (v : Value), vs[j]? = some v → w.cell? (ad.add j) = some v) (hone : ag = false → ∃ v, vs = [v]) :
 (Instr.loadAt t (.pointer (some ad))).run P w = .ok (if ag then .agg vs.toArray else vs.getD 0 undef) w := by
 have h1 := run_loadCells_list (P := P) w ad vs hc
 unfold Instr.loadAt loadVar Instr.sureAddr
 simp only [Sem.run_bind, Sem.run_pure, Result.andThen_ok, ab8 hag]
 cases ag with
 | true => simp [iK hs, ← hl, h1]
 | false =>
   obtain ⟨v, rfl⟩ := hone rfl
   have := hc 0 v rfl
   simp only [Addr.add_zero'] at this
   simp [load, Sem.run, this]
section
variable [Inhabited az]
theorem ai8 {t : TypeId} {x : Operand} (hop : o.op = .load t x) (h : RelL F L st a w) (hg : Goes F k r next) {id row col : Nat} (hx : st.get x = .ptr id row col) {b : Blk} (hb : look st.heap id = some b)
 {n : Nat} (hs : dX P t = some n) {ag : Bool} (hag : aggT P t = some ag) {cs : List AV} (hl : cs.length = n) (hcs : ∀ (j : Nat) (av : AV), cs[j]? = some av → b.flat[row * b.w + col + j]? = some av)
 (hk : (bif ag then k (st.put o.dst (.agg cs)) else IY cs fun y => k (st.put o.dst y)) = some r) : o.wp P a w next Q := by
 obtain ⟨l, hL, hbl, he⟩ := Qk h hx hb
 obtain ⟨vs, hV, hc, _⟩ := Hy hbl hcs
 have hvl := bz hV
 have hone : ag = false → ∃ v, vs = [v] := by
  intro e
  subst e
  simp only [cond_false] at hk
  unfold IY at hk
  split at hk
  ·match vs, hvl with
   | [v], _ => exact ⟨v, rfl⟩
  ·simp at hk
 have hrun := TV (w := w) hs hag (ad := ⟨l.b, l.o + (row * b.w + col), none⟩) (vs := vs) (by omega) hc hone
 refine dV (v := if ag then .agg vs.toArray else vs.getD 0 undef) (w' := w) (by simp [execOp, hop, he, hrun]) ?_
 cases ag with
 | true =>
   rw [cond_true] at hk
   exact bV hg h (x := .agg cs) (by simp only [V]; exact ⟨vs.toArray, by simp, by simpa using hV⟩) hk
 | false =>
   obtain ⟨v, rfl⟩ := hone rfl
   rw [cond_false] at hk
   match cs, hV with
   | [y], hV =>
     simp only [VAll, and_true] at hV
     exact bV hg h (x := y) (by simpa using hV) hk
end
theorem adp (cur : List Value) (off : Nat) (vs : List Value) (j : Nat) (h : off + vs.length ≤ cur.length) :
 (cur.take off ++ vs ++ cur.drop (off + vs.length))[j]? = if off ≤ j ∧ j < off + vs.length then vs[j - off]? else cur[j]? := by
 by_cases h1 : j < off
 ·rw [if_neg (by omega), List.append_assoc, List.getElem?_append_left (by simp; omega), List.getElem?_take, if_pos h1]
 ·by_cases h2 : j < off + vs.length
  ·rw [if_pos (by omega), List.append_assoc, List.getElem?_append_right (by simp; omega), List.getElem?_append_left (by simp; omega)]
   congr 1
   simp
   omega
  ·rw [if_neg (by omega), List.getElem?_append_right (by simp; omega), List.getElem?_drop]
   congr 1
   simp
   omega
theorem iY.wrote {l : Loc} {b b' : Blk} {N : Nat} {μ : List Nat} (h : iY L N μ w l b) (hbk : l.backed = true) (hm : b'.mode = b.mode) (he : b'.e = b.e) (hn : b'.n = b.n) (hw : b'.w = b.w) (hmode : b.mode ≠ 0)
 {off : Nat} {cs : List AV} (hfit : off + cs.length ≤ b.flat.length) (hf : b'.flat = lq b.flat off cs) {vs : List Value} (hV : VAll L cs vs) (h1 : ∀ v ∈ vs, v.oneCell' = true) {cur : Array Value} (hc : w.heap[l.b]? = some (.cells cur b.e (0, 0))) (hsz : b.flat.length ≤ cur.size) :
 iY L N μ (w.setRow l.b (cur.toList.take off ++ vs ++ cur.toList.drop (off + vs.length)).toArray) l b' := by
 have hlen := bz hV
 have ho : l.o = 0 := (h.own hbk hmode).1
 have hfl : b'.flat.length = b.flat.length := by rw [hf, uq]
 have hfit2 : off + vs.length ≤ cur.toList.length := by simp; omega
 refine ⟨by rw [hw]; exact h.hw, by rw [hn]; exact h.hn, by rw [hm]; exact h.hm, by rw [hm]; exact h.le, fun _ i av hi => ?_, fun hb hm0 _ => by omega, fun hb _ => ?_, fun hb h1 => h.m1 hb (by omega), fun hb h2 => h.m2 hb (by omega), fun hb => by rw [hbk] at hb; cases hb⟩
 ·rw [hf, xJ _ _ _ _ hfit] at hi
  have hcell : (w.setRow l.b (cur.toList.take off ++ vs ++ cur.toList.drop (off + vs.length)).toArray).cell? ⟨l.b, l.o + i, none⟩ = (cur.toList.take off ++ vs ++ cur.toList.drop (off + vs.length))[i]? := by
   simp only [World.cell?, setRow_heap w l.b cur _ b.e (0, 0) hc, ho, Nat.zero_add]
   simp
  rw [hcell, adp _ _ _ _ hfit2]
  by_cases hin : off ≤ i ∧ i < off + cs.length
  ·rw [if_pos hin] at hi
   rw [if_pos (by omega)]
   obtain ⟨v, hv, hVv⟩ := gK _ hV hi
   exact ⟨v, hv, hVv, h1 v (List.mem_of_getElem? hv)⟩
  ·rw [if_neg hin] at hi
   rw [if_neg (by omega)]
   obtain ⟨v, hv, hVv⟩ := h.cells hbk i av hi
   simp only [World.cell?, hc, ho, Nat.zero_add] at hv
   exact ⟨v, by simpa using hv, hVv⟩
 ·obtain ⟨ho, cur2, hc2, hs2, hl2⟩ := h.own hb hmode
  rw [hc] at hc2
  have e : cur = cur2 := by simpa using hc2
  subst e
  refine ⟨ho, _, by rw [he]; exact setRow_heap w l.b cur _ b.e (0, 0) hc, ?_, by rw [hfl]; exact hl2⟩
  rw [← hs2]
  simp only [List.size_toArray, List.length_append, List.length_take, List.length_drop, Array.length_toList] at hfit2 ⊢
  omega
section
variable [Inhabited az]
theorem ah7 {t : TypeId} {x y : Operand} (hop : o.op = .store t x y) (h : RelL F L st a w) (hg : Goes F k r next) {id row col : Nat} (hx : st.get x = .ptr id row col) {b : Blk} (hb : look st.heap id = some b)
 {n : Nat} (hs : dX P t = some n) (hn0 : (cellsOf (st.get y)).length = n) {b' : Blk} (hmode : b.mode ≠ 0) (hm : b'.mode = b.mode) (he : b'.e = b.e) (hn : b'.n = b.n) (hw : b'.w = b.w) (hcells : gZ (cellsOf (st.get y)) = true)
 (hfit : cellsOf (st.get y) ≠ [] → row * b.w + col + (cellsOf (st.get y)).length ≤ b.flat.length) (hf : b'.flat = lq b.flat (row * b.w + col) (cellsOf (st.get y)))
 (hk : k ({ st with heap := upd st.heap id b' }.put o.dst .undef) = some r) : o.wp P a w next Q := by
 obtain ⟨l, hL, hbl, hev⟩ := Qk h hx hb
 obtain ⟨hV, h1⟩ := MQ hcells (h.get y)
 have hlen := bz hV
 have hcs : (a.eval y).cells.size = n := by rw [← hn0, hlen]; simp
 have hrun0 : (execOp a.eval o).run P w = ((storeCells ⟨l.b, l.o + (row * b.w + col), none⟩ (a.eval y).cells.toList 0).run P w).andThen fun _ w => .ok .skip w := by
  simp [execOp, hop, hev, Instr.storeAt, Instr.sureAddr, storeVar, iK hs, hcs]
 by_cases hne : cellsOf (st.get y) = []
 ·
   have hnil : (a.eval y).cells.toList = [] := by
    rw [hne] at hlen
    exact List.eq_nil_of_length_eq_zero (by simpa using hlen.symm)
   have hrun : (execOp a.eval o).run P w = .ok .skip w := by
    rw [hrun0, hnil]
    rfl
   refine XX hrun (hg _ _ _ hk ⟨L, RelL.put ?_ (by simp [V]) o.dst⟩)
   have hff : b'.flat = b.flat := by rw [hf, hne]; rfl
   refine { h with heap := fun j c hj => ?_, inj := fun i j c d p q hi hj hp hq hne hbp hbq h1 h2 => ?_, maps := h.maps.upd hb (abq (by rw [hm]; exact hmode)) }
   ·rw [gy] at hj
    by_cases e : j = id
    ·simp only [e, if_true, Option.some.injEq] at hj
     subst hj
     exact ⟨l, by rw [e]; exact hL, ⟨by rw [hw]; exact hbl.hw, by rw [hn]; exact hbl.hn, by rw [hm]; exact hbl.hm, by rw [hm]; exact hbl.le, fun hb => by rw [hff]; exact hbl.cells hb, fun hb h0 _ => by omega, fun hb h0 => by rw [hff, he]; exact hbl.own hb (by omega), fun hb h0 => hbl.m1 hb (by omega), fun hb h0 => hbl.m2 hb (by omega), fun hb => by rw [hff]; exact hbl.nb hb⟩⟩
    ·simp only [e, if_false] at hj
     exact h.heap j c hj
   ·rw [gy] at hi hj
    have hi' : ∃ b, look st.heap i = some b := by
     by_cases e : i = id
     ·exact ⟨b, by rw [e]; assumption⟩
     ·simp only [e, if_false] at hi; exact ⟨_, hi⟩
    have hj' : ∃ b, look st.heap j = some b := by
     by_cases e : j = id
     ·exact ⟨b, by rw [e]; assumption⟩
     ·simp only [e, if_false] at hj; exact ⟨_, hj⟩
    obtain ⟨b1, hi'⟩ := hi'
    obtain ⟨b2, hj'⟩ := hj'
    exact h.inj i j b1 b2 p q hi' hj' hp hq hne hbp hbq h1 h2
 ·have hfit := hfit hne
  have hflne : b.flat ≠ [] := by
   intro e
   rw [e] at hfit
   have : 0 < (cellsOf (st.get y)).length := List.length_pos_iff.2 hne
   simp only [List.length_nil] at hfit
   omega
  have hbk := qK hbl hflne
  obtain ⟨ho, cur, hc, hsz, hle⟩ := hbl.own hbk hmode
  have hst := run_storeCells_at P l.b (row * b.w + col) b.e (a.eval y).cells.toList 0 cur w hc (by simp at hlen ⊢; omega) (fun v hv => h1 v (by simpa using hv))
  have hrun : (execOp a.eval o).run P w = .ok .skip (w.setRow l.b (cur.toList.take (row * b.w + col) ++ (a.eval y).cells.toList ++ cur.toList.drop (row * b.w + col + (a.eval y).cells.toList.length)).toArray) := by
   rw [hrun0, ho, Nat.zero_add, hst]
   simp
  refine XX hrun (hg _ _ _ hk ⟨L, RelL.put ?_ (by simp [V]) o.dst⟩)
  exact h.write hb hL (Step.setRow w l.b _) hbk hmode hm (hbl.wrote hbk hm he hn hw hmode hfit hf hV (fun v hv => h1 v (by simpa using hv)) hc (by omega))
theorem RelL.apart (h : RelL F L st a w) {x : Nat} (hx : Hid L st.heap w x) {j : Nat} {b : Blk} {m : Loc} (hj : look st.heap j = some b) (hm : L j = some m) (hbk : m.backed = true) (hor : b.flat ≠ [] ∨ b.mode ≠ 0) : m.b ≠ x := by
 obtain ⟨m2, hm2, hbl⟩ := h.heap j b hj
 rw [hm] at hm2
 cases hm2
 by_cases hz : b.mode = 0
 ·have hne := hor.resolve_right (fun e => e hz)
  have h1 := (hbl.ro hbk hz hne).1
  obtain ⟨id, e, eb, s, l, hl, hL, ho⟩ := hx
  obtain ⟨l2, hL2, _, hB⟩ := h.maps.bat id e eb s hl
  rw [hL] at hL2
  cases hL2
  have hN : F.N ≤ x := by
   rcases ho with ho | ho
   ·rw [← ho]; exact (uk hB).1
   ·exact (AY hB ho).1
  omega
 ·exact fun e => h.maps.far x hx ⟨j, b, m, hj, hm, hbk, by rw [hbl.hm]; exact hz, e⟩
theorem RelL.build (h : RelL F L st a w) {id : Nat} {e eb : TypeId} {s s' : ByteArray} {l : Loc} (hlook : look st.heap id = some (.bld e eb s)) (hl : L id = some l) {w' : World} {S : Nat → Prop} (hS : Step w w' S)
 (hSv : ∀ j b m, look st.heap j = some b → L j = some m → m.backed = true → b.flat ≠ [] ∨ b.mode ≠ 0 → ¬ S m.b) (hSN : ∀ k, S k → F.N ≤ k) (hSm : ∀ g es c, w.heap[g]? = some (.map es c) → ¬ S g)
 (hSh : ∀ j x, j ≠ id → yz L st.heap w j x → ¬ S x) (hB : Lib.IsBuilderF e eb F.N l.b (Lib.strCells s') w')
 (hg : ∀ g, rJ w' l.b = some g → ¬ Vis L st.heap g ∧ ∀ j, j ≠ id → ¬ yz L st.heap w j g) :
 RelL F L { st with heap := upd st.heap id (.bld e eb s') } a w' := by
 obtain ⟨l0, hl0, ho, hB0⟩ := h.maps.bat id e eb s hlook
 rw [hl] at hl0
 cases hl0
 have hold : ∀ j b, j ≠ id → look (upd st.heap id (.bld e eb s')) j = some b → look st.heap j = some b := fun j b e hj => by
  rwa [gy, if_neg e] at hj
 have hmain : ∀ x, l.b = x → yz L st.heap w id x := fun x hx => ⟨e, eb, s, l, hlook, hl, .inl hx⟩
 have hvis : ∀ x, Vis L (upd st.heap id (.bld e eb s')) x → Vis L st.heap x := fun x hx => hx.upd hlook
 have hhid : ∀ j x, yz L (upd st.heap id (.bld e eb s')) w' j x → (j = id ∧ (l.b = x ∨ rJ w' l.b = some x)) ∨ (j ≠ id ∧ yz L st.heap w j x) := fun j x hx => by
  obtain ⟨e2, eb2, s2, l2, h1, h2, h3⟩ := hx
  by_cases ej : j = id
  ·rw [ej, hl] at h2
   cases h2
   exact .inl ⟨ej, h3⟩
  ·have h1' := hold j _ ej h1
   obtain ⟨l3, h4, _, hB3⟩ := h.maps.bat j e2 eb2 s2 h1'
   rw [h2] at h4
   cases h4
   have hk := Dq (w' := w') hB3 (hS.block _ (uk hB3).2 (hSh j _ ej ⟨e2, eb2, s2, l2, h1', h2, .inl rfl⟩)) fun g hg => hS.block _ (AY hB3 hg).2.1 (hSh j _ ej ⟨e2, eb2, s2, l2, h1', h2, .inr hg⟩)
   rw [hk.2] at h3
   exact .inr ⟨ej, e2, eb2, s2, l2, h1', h2, h3⟩
 refine { h with heap := fun j c hj => ?_, inj := fun i j c d p q hi hj hp hq hne hbp hbq h1 h2 => ?_, below := ?_, maps := ⟨fun j e2 kt vt ks vs hj => ?_, fun i j b c p q hi hj hb hc hp hq hne => ?_, fun j e2 eb2 s2 hj => ?_, fun x hx hv => ?_, fun i j x hne h1 h2 => ?_⟩ }
 ·by_cases ej : j = id
  ·rw [gy, if_pos ej] at hj
   cases hj
   obtain ⟨l1, hl1, hbl⟩ := h.heap id _ hlook
   rw [hl] at hl1
   cases hl1
   exact ⟨l, by rw [ej]; exact hl, ⟨hbl.hw, hbl.hn, hbl.hm, hbl.le, fun _ i av hi => by simp [Blk.flat] at hi, fun _ _ hf => absurd rfl hf, fun _ hm => absurd rfl hm, fun _ hm => by simp [Blk.mode] at hm, fun _ hm => by simp [Blk.mode] at hm, fun _ => rfl⟩⟩
  ·have hj' := hold j c ej hj
   obtain ⟨m, hm, hbl⟩ := h.heap j c hj'
   exact ⟨m, hm, hbl.keep hS fun hb hor => hSv j c m hj' hm hb hor⟩
 ·by_cases ei : i = id
  ·rw [gy, if_pos ei] at hi
   cases hi
   obtain ⟨l1, hl1, hbl⟩ := h.heap id _ hlook
   rw [ei, hl1] at hp
   cases hp
   exact absurd hbl.hm h1
  ·by_cases ej : j = id
   ·rw [gy, if_pos ej] at hj
    cases hj
    obtain ⟨l1, hl1, hbl⟩ := h.heap id _ hlook
    rw [ej, hl1] at hq
    cases hq
    exact absurd hbl.hm h2
   ·exact h.inj i j c d p q (hold i c ei hi) (hold j d ej hj) hp hq hne hbp hbq h1 h2
 ·refine ⟨hS.os.trans h.below.os, hS.tape.trans h.below.tape, hS.output.trans h.below.output, Nat.le_trans h.below.size hS.size, fun k hk hn => ?_, fun q => Nat.le_trans (h.below.drawn q) (hS.drawn q)⟩
  refine (hS.block k (Nat.lt_of_lt_of_le hk h.below.size) fun hs => ?_).trans (h.below.block k hk hn)
  have := hSN k hs
  exact absurd hk (Nat.not_lt.2 this)
 ·by_cases ej : j = id
  ·rw [gy, if_pos ej] at hj
   cases hj
  ·obtain ⟨m, hm, hN, es, c, hmm, hr⟩ := h.maps.at_ j e2 kt vt ks vs (hold j _ ej hj)
   exact ⟨m, hm, hN, es, c, (hS.block _ (tK hmm) (hSm _ _ _ hmm)).trans hmm, hr⟩
 ·have back : ∀ j b, look (upd st.heap id (.bld e eb s')) j = some b → b.isMap = true → ∃ c, look st.heap j = some c ∧ c.isMap = true := fun j b hj hb => by
   by_cases ej : j = id
   ·exact ⟨_, by rw [ej]; exact hlook, rfl⟩
   ·exact ⟨b, hold j b ej hj, hb⟩
  obtain ⟨b2, hi2, hb2⟩ := back i b hi hb
  obtain ⟨c2, hj2, hc2⟩ := back j c hj hc
  exact h.maps.inj i j b2 c2 p q hi2 hj2 hb2 hc2 hp hq hne
 ·by_cases ej : j = id
  ·rw [gy, if_pos ej] at hj
   cases hj
   exact ⟨l, by rw [ej]; exact hl, ho, hB⟩
  ·have hj' := hold j _ ej hj
   obtain ⟨m, hm, hmo, hBm⟩ := h.maps.bat j e2 eb2 s2 hj'
   exact ⟨m, hm, hmo, (Dq (w' := w') hBm (hS.block _ (uk hBm).2 (hSh j _ ej ⟨e2, eb2, s2, m, hj', hm, .inl rfl⟩)) fun g hg => hS.block _ (AY hBm hg).2.1 (hSh j _ ej ⟨e2, eb2, s2, m, hj', hm, .inr hg⟩)).1⟩
 ·obtain ⟨j, hx⟩ := hx
  rcases hhid j x hx with ⟨_, h1 | h1⟩ | ⟨_, h1⟩
  ·exact h.maps.far x ⟨id, hmain x h1⟩ (hvis x hv)
  ·exact (hg x h1).1 (hvis x hv)
  ·exact h.maps.far x ⟨j, h1⟩ (hvis x hv)
 ·rcases hhid i x h1 with ⟨ei, h3 | h3⟩ | ⟨ei, h3⟩
  ·rcases hhid j x h2 with ⟨ej, _⟩ | ⟨ej, h4⟩
   ·exact hne (ei.trans ej.symm)
   ·exact h.maps.two id j x (fun e => ej e.symm) (hmain x h3) h4
  ·rcases hhid j x h2 with ⟨ej, _⟩ | ⟨ej, h4⟩
   ·exact hne (ei.trans ej.symm)
   ·exact (hg x h3).2 j ej h4
  ·rcases hhid j x h2 with ⟨ej, h4 | h4⟩ | ⟨ej, h4⟩
   ·exact h.maps.two i id x (fun e => ei e) h3 (hmain x h4)
   ·exact (hg x h4).2 i ei h3
   ·exact h.maps.two i j x hne h3 h4
theorem afp {t : TypeId} {x y : Operand} (hop : o.op = .store t x y) (h : RelL F L st a w) (hg : Goes F k r next) {id : Nat} (hx : st.get x = .ptr id 0 0) {e eb : TypeId} {s : ByteArray} (hb : look st.heap id = some (.bld e eb s))
 {n : Nat} (hs : dX P t = some n) (hn0 : (cellsOf (st.get y)).length = n) (hz : cellsOf (st.get y) = [.nilptr, .nilsl])
 (hk : k ({ st with heap := upd st.heap id (.bld e eb ByteArray.empty) }.put o.dst .undef) = some r) : o.wp P a w next Q := by
 obtain ⟨l, hL, ho, hB⟩ := h.maps.bat id e eb s hb
 obtain ⟨l2, hL2, hbl, hev⟩ := Qk h hx hb
 rw [hL] at hL2
 cases hL2
 obtain ⟨hV, h1⟩ := MQ (by rw [hz]; rfl) (h.get y)
 have hlen := bz hV
 have hcs : (a.eval y).cells.size = n := by rw [← hn0, hlen]; simp
 rw [hz] at hV
 have harr := abI hV
 obtain ⟨p, v, hcur, hbuf, hown⟩ := Ox hB
 have hrun0 : (execOp a.eval o).run P w = ((storeCells ⟨l.b, l.o + (0 * (Blk.bld e eb s).w + 0), none⟩ (a.eval y).cells.toList 0).run P w).andThen fun _ w => .ok .skip w := by
  simp [execOp, hop, hev, Instr.storeAt, Instr.sureAddr, storeVar, iK hs, hcs]
 have hst := run_storeCells_at P l.b 0 e (a.eval y).cells.toList 0 #[p, v] w hcur (by rw [harr]; simp) (fun u hu => h1 u (by simpa using hu))
 have hrun : (execOp a.eval o).run P w = .ok .skip (w.setRow l.b #[.pointer none, .slice none 0 0]) := by
  rw [hrun0, ho]
  simp only [Nat.zero_mul, Nat.zero_add]
  rw [hst, harr]
  simp
 have hset : (w.setRow l.b #[.pointer none, .slice none 0 0]).heap[l.b]? = some (.cells #[.pointer none, .slice none 0 0] e (0, 0)) := setRow_heap w l.b _ _ e (0, 0) hcur
 obtain ⟨hB2, hbuf2⟩ := abZ (eb := eb) (N := F.N) (uk hB).1 hset
 have hhid : Hid L st.heap w l.b := ⟨id, e, eb, s, l, hb, hL, .inl rfl⟩
 refine XX hrun (hg _ _ _ hk ⟨L, RelL.put ?_ (by simp [V]) o.dst⟩)
 refine h.build hb hL (Step.setRow w l.b _) (fun j c m hj hm hbk hor e => h.apart hhid hj hm hbk hor e) (fun k e => by rw [e]; exact (uk hB).1) (fun g es c hg e => by rw [e, hcur] at hg; cases hg) (fun j x hne hx e => h.maps.two j id x hne hx ⟨_, eb, s, l, hb, hL, .inl e.symm⟩) hB2 (fun g hg => by rw [hbuf2] at hg; cases hg)
end
end Go.Ev
