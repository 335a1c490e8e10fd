/- clear, at rows. -/
import Derived.Test.YthjehhoafmnmkaaEvOps8
namespace Go.Ev
open Go.RowKit
variable {α : Type} {P : Program} {w : World} {F : Fix} {L : LM} {st : St} {a : Act} {o : Oper} {r : α} {k : St → Option α} {next : Act → World → Prop} {Q : Exit → Act → World → Prop}
theorem afs {β : Type} (l vs : List β) (i : Nat) (h : i + vs.length ≤ l.length) : lq l i vs = l.take i ++ vs ++ l.drop (i + vs.length) := by
 apply List.ext_getElem?
 intro j
 rw [xJ _ _ _ _ h, List.append_assoc, List.getElem?_append, List.getElem?_append, List.length_take, Nat.min_eq_left (by omega)]
 by_cases h1 : j < i
 ·rw [if_neg (by omega), if_pos h1, List.getElem?_take, if_pos h1]
 ·rw [if_neg h1]
  by_cases h2 : j - i < vs.length
  ·rw [if_pos (by omega), if_pos h2]
  ·rw [if_neg (by omega), if_neg h2, List.getElem?_drop]
   congr 1
   omega
theorem aeO (t : Ty) (l : List t.den) (d : t.den) {lo n : Nat} (h : lo + n ≤ l.length) :
 (l.take lo ++ List.replicate n d ++ l.drop (lo + n)).flatMap t.enc = lq (l.flatMap t.enc) (lo * t.w) ((List.replicate n d).flatMap t.enc) := by
 have hl : ((List.replicate n d).flatMap t.enc).length = n * t.w := by rw [fJ, List.length_replicate]
 have hfl : (l.flatMap t.enc).length = l.length * t.w := fJ t l
 have e1 : (l.take lo).flatMap t.enc = (l.flatMap t.enc).take (lo * t.w) := by
  have := Dj t l 0 lo
  simpa using this
 have e2 : (l.drop (lo + n)).flatMap t.enc = (l.flatMap t.enc).drop (lo * t.w + n * t.w) := by
  have := Dj t l (lo + n) (l.length - (lo + n))
  rw [List.take_of_length_le (by simp), List.take_of_length_le (by rw [List.length_drop, hfl, Nat.sub_mul]; omega), Nat.add_mul] at this
  exact this
 rw [afs _ _ _ (by rw [hl, hfl, ← Nat.add_mul]; exact Nat.mul_le_mul_right _ h), List.flatMap_append, List.flatMap_append, e1, e2, hl]
section
variable [Inhabited az]
theorem RelL.same (h : RelL F L st a w) {id : Nat} {b : Blk} (hb : look st.heap id = some b) : RelL F L { st with heap := upd st.heap id b } a w := by
 have key : ∀ j c, look (upd st.heap id b) j = some c → look st.heap j = some c := fun j c hj => by
  rw [gy] at hj
  by_cases e : j = id
  ·rw [if_pos e] at hj
   rw [e, hb]
   exact hj
  ·rw [if_neg e] at hj
   exact hj
 exact { h with heap := fun j c hj => h.heap j c (key j c hj), inj := fun i j c d p q hi hj => h.inj i j c d p q (key i c hi) (key j d hj), maps := h.maps.step (S := fun _ => False) (Step.refl w _) (fun j c hj _ => ⟨key j c hj, rfl⟩) (fun _ _ _ _ _ h => h) (fun _ _ h => h) (fun _ _ hx => .inl (hx.upd hb)) }
end
theorem aa6 {T ty e : TypeId} (ht : P.underlying T = some (.slice e)) (ad : Option Addr) (cap : Nat) : (Builtin.clear_ #[T] ty #[.slice ad 0 cap]).run P w = .ok (.tuple #[]) w := by
 cases ad <;> simp [Builtin.clear_, run_underlying ht]
theorem agJ {T ty e : TypeId} {i : TypeInfo} {z : Value} (ht : P.underlying T = some (.slice e)) (hi : P.info? e = some i) (hz : i.zero = some z) {g off n cap : Nat} (hn : n ≠ 0) {cur : Array Value} (hg : w.heap[g]? = some (.cells cur e (0, 0)))
 (hfit : off + (Builtin.zeroCells z.cells n).toList.length ≤ cur.size) (h1 : ∀ v ∈ (Builtin.zeroCells z.cells n).toList, v.oneCell' = true) :
 (Builtin.clear_ #[T] ty #[.slice (some ⟨g, off, none⟩) n cap]).run P w = .ok (.tuple #[]) (w.setRow g (cur.toList.take off ++ (Builtin.zeroCells z.cells n).toList ++ cur.toList.drop (off + (Builtin.zeroCells z.cells n).toList.length)).toArray) := by
 have hst := run_storeCells_at P g off e (Builtin.zeroCells z.cells n).toList 0 cur w hg (by simpa using hfit) h1
 simp only [Nat.add_zero] at hst
 obtain ⟨m, rfl⟩ : ∃ m, n = m + 1 := ⟨n - 1, by omega⟩
 simp [Builtin.clear_, run_underlying ht, zeroValue, typeInfo, hi, hz, hst]
section
variable [Inhabited az]
theorem ahs {c : Call} (hop : o.op = .call c) (hcal : c.callee = .builtin .clear) {x : Operand} (hargs : c.args.toList = [x]) {T : TypeId} (htys : c.argTypes.toList = [T]) (h : RelL F L st a w) (hg : Goes F k r next)
 {e : TypeId} (ht : P.underlying T = some (.slice e)) {id lo n : Nat} (hx : st.get x = .sub id lo n) {m : Nat} {t : Ty} {l : List t.den} (hb : look st.heap id = some (.rows m e t l)) (hm : m ≠ 0) {z : AV} (hz : nY P e = some z) {d : t.den} (hd : t.dec (cellsOf z) = some d)
 (hk : k ({ st with heap := upd st.heap id (.rows m e t (l.take lo ++ List.replicate n d ++ l.drop (lo + n))) }.put o.dst (.tup [])) = some r) : o.wp P a w next Q := by
 have hv := h.get x
 rw [hx] at hv
 simp only [V] at hv
 obtain ⟨lc, hL, hle, ad, cap, hv, _, had, _⟩ := hv
 obtain ⟨lc2, hl2, hbl⟩ := h.heap id _ hb
 rw [hL] at hl2
 have := Option.some.inj hl2
 subst this
 have hln : lc.n = l.length := hbl.hn
 have hfit : lo + n ≤ l.length := by omega
 have hV0 : V L (.tup []) (.tuple #[]) := by simp only [V]; exact ⟨#[], rfl, by simp [VAll]⟩
 have e1 : c.args = #[x] := by rw [← Array.toList_inj]; exact hargs
 have e2 : c.argTypes = #[T] := by rw [← Array.toList_inj]; exact htys
 by_cases hn : n = 0
 ·subst hn
  have hsame : l.take lo ++ List.replicate 0 d ++ l.drop (lo + 0) = l := by simp
  rw [hsame] at hk
  refine dV (v := .tuple #[]) (w' := w) ?_ (bV hg (h.same hb) hV0 hk)
  have hrun := aa6 (P := P) (w := w) (ty := o.type) ht ad cap
  simp [execOp, hop, resolve, hcal, invoke, builtin, e1, e2, hv, hrun]
 ·obtain ⟨i, zv, hi, hzv, rfl⟩ := qV hz
  have he := Ez t _ d hd
  have hcz := CZ (L := L) (v := zv)
  rw [← he] at hcz
  have hzeros := Xw hcz n
  have hzl := bz hcz
  have hsz : zv.cells.size = t.w := by rw [nK] at hzl; simpa using hzl.symm
  have hcells : Builtin.zeroCells zv.cells n = (Array.range (n * (t.enc d).length)).map (zv.cells[· % zv.cells.size]!) := by
   unfold Builtin.zeroCells
   rw [nK, hsz]
  have hVz : VAll L ((List.replicate n d).flatMap t.enc) (Builtin.zeroCells zv.cells n).toList := by
   rw [hcells, SV]
   exact hzeros
  have h1 : ∀ v ∈ (Builtin.zeroCells zv.cells n).toList, v.oneCell' = true := (MK (L' := L) t (List.replicate n d) hVz).2
  have hvl := bz hVz
  rw [fJ, List.length_replicate] at hvl
  have hwpos := DW t
  have hlne : (Blk.rows m e t l).flat ≠ [] := by
   intro e0
   have hf := fJ t l
   rw [show l.flatMap t.enc = [] from e0] at hf
   have : 0 < l.length * t.w := Nat.mul_pos (by omega) hwpos
   simp at hf
   omega
  have hbk := qK hbl hlne
  obtain ⟨ho, cur, hc, hcs, hcl⟩ := hbl.own hbk hm
  have hfl : (Blk.rows m e t l).flat.length = l.length * t.w := fJ t l
  have hfitw : lo * t.w + n * t.w ≤ l.length * t.w := by rw [← Nat.add_mul]; exact Nat.mul_le_mul_right _ hfit
  have had := had hn
  have hlw : lc.w = t.w := hbl.hw
  rw [ho, Nat.zero_add, hlw] at had
  subst had
  have hrun := agJ (P := P) (w := w) (ty := o.type) (cap := cap) ht hi hzv (off := lo * t.w) hn hc (by rw [← hvl]; omega) h1
  refine dV (v := .tuple #[]) (w' := w.setRow lc.b (cur.toList.take (lo * t.w) ++ (Builtin.zeroCells zv.cells n).toList ++ cur.toList.drop (lo * t.w + (Builtin.zeroCells zv.cells n).toList.length)).toArray) ?_ ?_
  ·simp [execOp, hop, resolve, hcal, invoke, builtin, e1, e2, hv, hrun]
  ·have hwr := hbl.wrote (b' := .rows m e t (l.take lo ++ List.replicate n d ++ l.drop (lo + n))) hbk rfl rfl (by simp [Blk.n]; omega) rfl hm (off := lo * t.w) (cs := (List.replicate n d).flatMap t.enc) (by rw [hfl, fJ, List.length_replicate]; exact hfitw) (aeO t l d hfit) hVz h1 hc (by omega)
   exact bV hg (h.write (b' := .rows m e t (l.take lo ++ List.replicate n d ++ l.drop (lo + n))) hb hL (Step.setRow w lc.b _) hbk hm rfl hwr) hV0 hk
end
end Go.Ev
