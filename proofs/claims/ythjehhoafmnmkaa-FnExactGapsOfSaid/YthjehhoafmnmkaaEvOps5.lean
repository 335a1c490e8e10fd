/- The evaluator's operations held against the model's: places, slices of slices, parts. -/
import Derived.Test.YthjehhoafmnmkaaEvOps4
namespace Go.Ev
open Go.RowKit
variable {α : Type} {P : Program} {w : World} {F : Fix} {L : LM} {st : St} {a : Act} {o : Oper} {next : Act → World → Prop} {Q : Exit → Act → World → Prop}
variable {k : St → Option α} {r : α}
theorem Dx (r i s : Nat) : jq r i s = r + i * s := by
 unfold jq
 cases hr : Nat.beq r 0 with
 | false => rfl
 | true =>
   have := ay hr
   subst this
   cases hs : Nat.beq s 1 with
   | false => simp
   | true => have := ay hs; subst this; simp
section
variable [Inhabited az]
theorem ai3 {op : UnOp} {t : TypeId} {x : Operand} (hop : o.op = .unOp op t x) (h : RelL F L st a w) (hg : Goes F k r next) (hk : evUn op (st.get x) (fun v => k (st.put o.dst v)) = some r) : o.wp P a w next Q := by
 have hv := h.get x
 unfold evUn at hk
 split at hk
 ·rename_i ka n e
  rw [e] at hv
  simp only [V] at hv
  exact dV (v := .int ka (ka.wrap (0 - n))) (w' := w) (by simp only [execOp, hop, hv]; simp [Op.unary, Op.intArith]) (bV hg h (by simp [V]) hk)
 ·rename_i b e
  rw [e] at hv
  simp only [V] at hv
  exact dV (v := .bool (!b)) (w' := w) (by simp only [execOp, hop, hv]; simp [Op.unary]) (bV hg h (by simp [V]) hk)
 ·simp at hk
theorem abl {s d : TypeId} {x : Operand} (hop : o.op = .convert s d x) (h : RelL F L st a w) (hg : Goes F k r next) {td : TypeDesc} (hs : P.underlying s = some td) {ik jk : IntKind} (hd : P.underlying d = some (.int ik)) {n : Int} (hx : st.get x = .int jk n)
 (hk : k (st.put o.dst (.int ik (ik.wrap n))) = some r) : o.wp P a w next Q := by
 have hv := h.get x
 rw [hx] at hv
 simp only [V] at hv
 exact dV (v := .int ik (ik.wrap n)) (w' := w) (by simp [execOp, hop, hv, convert, run_underlying hs, run_underlying hd, Conv.intToInt]) (bV hg h (by simp [V]) hk)
theorem abf {s d : TypeId} {x : Operand} (hop : o.op = .convert s d x) (h : RelL F L st a w) (hg : Goes F k r next) {td : TypeDesc} (hs : P.underlying s = some td) (hd : P.underlying d = some .string) {n : ByteArray} (hx : st.get x = .str n)
 (hk : k (st.put o.dst (.str n)) = some r) : o.wp P a w next Q := by
 have hv := h.get x
 rw [hx] at hv
 simp only [V] at hv
 exact dV (v := .string n) (w' := w) (by simp [execOp, hop, hv, convert, run_underlying hs, run_underlying hd]) (bV hg h (by simp [V]) hk)
theorem ade {s : TypeId} {x : Operand} {f : Nat} (hop : o.op = .fieldAddr s x f) (h : RelL F L st a w) (hg : Goes F k r next) {fs : Array Field} (hs : P.underlying s = some (.struct fs)) {id row col : Nat} (hx : st.get x = .ptr id row col)
 {fd : Field} (hf : fs[f]? = some fd) {n : Nat} (hn : dX P fd.type = some n) (hn0 : n ≠ 0) {b : Blk} (hb : look st.heap id = some b)
 (hk : (bif Nat.beq b.w 1 then k (st.put o.dst (.ptr id (jq row fd.offset 1) col)) else k (st.put o.dst (.ptr id row (jq col fd.offset 1)))) = some r) : o.wp P a w next Q := by
 obtain ⟨l, hL, hbl, he⟩ := Qk h hx hb
 have hrun : (execOp a.eval o).run P w = .ok (.value (.pointer (some ⟨l.b, l.o + (row * b.w + col) + fd.offset, none⟩))) w := by
  simp [execOp, hop, he, Instr.fieldAt, run_underlying hs, hf, Instr.sureAddr, fieldPlace, iK hn, hn0, Addr.add_lit]
 refine dV hrun ?_
 cases hw : Nat.beq b.w 1 with
 | true =>
   rw [hw, cond_true, Dx] at hk
   have hw1 := ay hw
   refine bV hg h (x := .ptr id (row + fd.offset * 1) col) ?_ hk
   simp only [V]
   exact ⟨l, hL, by rw [hbl.hw, hw1]; congr 3; omega⟩
 | false =>
   rw [hw, cond_false, Dx] at hk
   refine bV hg h (x := .ptr id row (col + fd.offset * 1)) ?_ hk
   simp only [V]
   exact ⟨l, hL, by rw [hbl.hw]; congr 3; omega⟩
theorem aaD (h : RelL F L st a w) {id : Nat} {x : Operand} (hx : st.get x = .sl id) {b : Blk} (hb : look st.heap id = some b) :
 ∃ l ad cap, L id = some l ∧ iY L F.N F.μ w l b ∧ a.eval x = .slice ad b.n cap ∧ SlOK l ad cap := by
 have hv := h.get x
 rw [hx] at hv
 simp only [V] at hv
 obtain ⟨l, hl, ad, cap, hv, hs, _⟩ := hv
 obtain ⟨l2, hl2, hbl⟩ := h.heap id b hb
 rw [hl] at hl2
 have := Option.some.inj hl2
 subst this
 exact ⟨l, ad, cap, hl, hbl, by rw [hv, hbl.hn], hs⟩
theorem aar (h : RelL F L st a w) {id lo n : Nat} {x : Operand} (hx : st.get x = .sub id lo n) {b : Blk} (hb : look st.heap id = some b) :
 ∃ l ad cap, L id = some l ∧ iY L F.N F.μ w l b ∧ a.eval x = .slice ad n cap ∧ lo + n ≤ b.n ∧ n ≤ cap ∧ (n ≠ 0 → ad = some ⟨l.b, l.o + lo * b.w, none⟩) ∧ (lo = 0 → SlOK l ad cap) := by
 have hv := h.get x
 rw [hx] at hv
 simp only [V] at hv
 obtain ⟨l, hl, hle, ad, cap, hv, h1, h2, h3⟩ := hv
 obtain ⟨l2, hl2, hbl⟩ := h.heap id b hb
 rw [hl] at hl2
 have := Option.some.inj hl2
 subst this
 exact ⟨l, ad, cap, hl, hbl, hv, by rw [← hbl.hn]; exact hle, h1, fun hn => by rw [← hbl.hw]; exact h2 hn, h3⟩
end
theorem aaN {l : Loc} {b : Blk} {N : Nat} {μ : List Nat} (h : iY L N μ w l b) (hn : b.n ≠ 0) : l.backed = true := by
 refine qK h fun e => ?_
 have := Oy b
 rw [e] at this
 simp only [List.length_nil] at this
 have hw : 0 < b.w := by cases b with
  | map => simp [Blk.w]
  | bld => simp [Blk.w]
  | rows _ _ t _ => exact DW t
  | mix => simp [Blk.w]
 have : 0 < b.n * b.w := Nat.mul_pos (Nat.pos_of_ne_zero hn) hw
 omega
section
variable [Inhabited az]
theorem aac {t : TypeId} {x i : Operand} (hop : o.op = .indexAddr t x i) (h : RelL F L st a w) (hg : Goes F k r next) {len e : Nat} (ht : P.underlying t = some (.array len e)) {id row col : Nat} (hx : st.get x = .ptr id row col) {ik : IntKind} {n : Int} (hi : st.get i = .int ik n)
 {s : Nat} (hs : dX P e = some s) {b : Blk} (hb : look st.heap id = some b) (h0 : 0 ≤ n) (h1 : n < len)
 (hk : (bif Nat.beq b.w 1 then k (st.put o.dst (.ptr id (jq row n.toNat s) col)) else k (st.put o.dst (.ptr id row (jq col n.toNat s)))) = some r) : o.wp P a w next Q := by
 obtain ⟨l, hL, hbl, he⟩ := Qk h hx hb
 have hiv := h.get i
 rw [hi] at hiv
 simp only [V] at hiv
 have hrun : (execOp a.eval o).run P w = .ok (.value (.pointer (some ⟨l.b, l.o + (row * b.w + col) + n.toNat * s, none⟩))) w := by
  simp [execOp, hop, he, hiv, Instr.indexAt, asIntOf, run_underlying ht, Instr.sureAddr, iK hs, h0, h1, Addr.add_lit]
 refine dV hrun ?_
 cases hw : Nat.beq b.w 1 with
 | true =>
   rw [hw, cond_true, Dx] at hk
   have hw1 := ay hw
   refine bV hg h (x := .ptr id (row + n.toNat * s) col) ?_ hk
   simp only [V]
   exact ⟨l, hL, by rw [hbl.hw, hw1]; congr 3; omega⟩
 | false =>
   rw [hw, cond_false, Dx] at hk
   refine bV hg h (x := .ptr id row (col + n.toNat * s)) ?_ hk
   simp only [V]
   exact ⟨l, hL, by rw [hbl.hw]; congr 3; omega⟩
theorem aaV {t : TypeId} {x i : Operand} (hop : o.op = .indexAddr t x i) (h : RelL F L st a w) (hg : Goes F k r next) {e : Nat} (ht : P.underlying t = some (.slice e)) {id : Nat} (hx : st.get x = .sl id) {ik : IntKind} {n : Int} (hi : st.get i = .int ik n)
 {b : Blk} (hb : look st.heap id = some b) (hs : dX P e = some b.w) (h0 : 0 ≤ n) (h1 : n < b.n)
 (hk : k (st.put o.dst (.ptr id n.toNat 0)) = some r) : o.wp P a w next Q := by
 obtain ⟨l, ad, cap, hL, hbl, he, hsl⟩ := aaD h hx hb
 have hiv := h.get i
 rw [hi] at hiv
 simp only [V] at hiv
 have hbk := aaN hbl (by omega)
 obtain ⟨had, _⟩ := hsl.2.1 hbk
 subst had
 have hrun : (execOp a.eval o).run P w = .ok (.value (.pointer (some ⟨l.b, l.o + n.toNat * b.w, none⟩))) w := by
  simp [execOp, hop, he, hiv, Instr.indexAt, asIntOf, run_underlying ht, iK hs, h0, h1, Addr.add_lit]
 refine dV hrun (bV hg h (x := .ptr id n.toNat 0) ?_ hk)
 simp only [V]
 exact ⟨l, hL, by rw [hbl.hw]; congr 3⟩
theorem aad {t : TypeId} {x i : Operand} (hop : o.op = .indexAddr t x i) (h : RelL F L st a w) (hg : Goes F k r next) {e : Nat} (ht : P.underlying t = some (.slice e)) {id lo m : Nat} (hx : st.get x = .sub id lo m) {ik : IntKind} {n : Int} (hi : st.get i = .int ik n)
 {b : Blk} (hb : look st.heap id = some b) (hs : dX P e = some b.w) (h0 : 0 ≤ n) (h1 : n < m)
 (hk : k (st.put o.dst (.ptr id (jq lo n.toNat 1) 0)) = some r) : o.wp P a w next Q := by
 obtain ⟨l, ad, cap, hL, hbl, he, hle, hcap, hadr, _⟩ := aar h hx hb
 have hiv := h.get i
 rw [hi] at hiv
 simp only [V] at hiv
 have had := hadr (by omega)
 subst had
 have hrun : (execOp a.eval o).run P w = .ok (.value (.pointer (some ⟨l.b, l.o + lo * b.w + n.toNat * b.w, none⟩))) w := by
  simp [execOp, hop, he, hiv, Instr.indexAt, asIntOf, run_underlying ht, iK hs, h0, h1, Addr.add_lit]
 rw [Dx] at hk
 refine dV hrun (bV hg h (x := .ptr id (lo + n.toNat * 1) 0) ?_ hk)
 simp only [V]
 exact ⟨l, hL, by rw [hbl.hw]; congr 3; rw [Nat.mul_one, Nat.add_mul]; omega⟩
end
theorem Zy {t : TypeId} {n : Nat} {ag : Bool} (hs : dX P t = some n) (hag : aggT P t = some ag) (cs : Array Value) (off : Nat) (hone : ag = false → ∃ v, cs[off]? = some v) :
 (part t cs off).run P w = .ok (if ag then .agg (cs.extract off (off + n)) else cs.getD off undef) w := by
 unfold part
 simp only [Sem.run_bind, ab8 hag, Result.andThen_ok]
 cases ag with
 | true => simp [iK hs]
 | false =>
   obtain ⟨v, hv⟩ := hone rfl
   simp [hv, Array.getD_eq_getD_getElem?]
theorem abp {xs : List AV} {vs : List Value} (h : VAll L xs vs) (i n : Nat) : VAll L ((xs.drop i).take n) ((vs.drop i).take n) := by
 have hl := bz h
 refine wW (by simp [hl]) fun j x hx => ?_
 rw [List.getElem?_take] at hx ⊢
 split at hx
 ·rename_i hj
  rw [if_pos hj]
  rw [List.getElem?_drop] at hx ⊢
  exact gK _ h hx
 ·simp at hx
theorem ajG {xs : List AV} {arr : Array Value} (h : VAll L xs arr.toList) (off n : Nat) : V L (.agg ((xs.drop off).take n)) (.agg (arr.extract off (off + n))) := by
 simp only [V]
 refine ⟨_, rfl, ?_⟩
 have := abp h off n
 rw [Array.toList_extract]
 simpa [List.extract_eq_take_drop] using this
theorem aeh {t : TypeId} {xs : List AV} {arr : Array Value} (h : VAll L xs arr.toList) {off n : Nat} {ag : Bool} (hs : dX P t = some n) (hag : aggT P t = some ag) {κ : AV → Option α}
 (hk : (bif ag then κ (.agg ((xs.drop off).take n)) else (xs[off]?).bind κ) = some r) : ∃ X v, κ X = some r ∧ V L X v ∧ (part t arr off).run P w = .ok v w := by
 cases ag with
 | true => exact ⟨_, _, hk, ajG h off n, by rw [Zy hs hag arr off (by simp)]; rfl⟩
 | false =>
   rw [cond_false, Option.bind_eq_some_iff] at hk
   obtain ⟨x, hx, hk⟩ := hk
   obtain ⟨v, hv, hV⟩ := gK _ h hx
   have hv' : arr[off]? = some v := by simpa using hv
   exact ⟨x, v, hk, hV, by rw [Zy hs hag arr off (fun _ => ⟨v, hv'⟩)]; simp [Array.getD_eq_getD_getElem?, hv']⟩
section
variable [Inhabited az]
theorem ahx {t : TypeId} {x : Operand} {f : Nat} (hop : o.op = .field t x f) (h : RelL F L st a w) (hg : Goes F k r next) {fs : Array Field} (ht : P.underlying t = some (.struct fs)) {xs : List AV} (hx : st.get x = .agg xs) {fd : Field} (hf : fs[f]? = some fd)
 {n : Nat} {ag : Bool} (hs : dX P fd.type = some n) (hag : aggT P fd.type = some ag) (hk : (bif ag then k (st.put o.dst (.agg ((xs.drop fd.offset).take n))) else (xs[fd.offset]?).bind fun v => k (st.put o.dst v)) = some r) : o.wp P a w next Q := by
 have hv := h.get x
 rw [hx] at hv
 simp only [V] at hv
 obtain ⟨arr, he, hv⟩ := hv
 obtain ⟨X, v, hk, hV, hrun⟩ := aeh (w := w) hv hs hag (κ := fun v => k (st.put o.dst v)) hk
 refine dV (v := v) (w' := w) ?_ (bV hg h hV hk)
 simp [execOp, hop, he, Instr.field, run_underlying ht, hf, asAgg, hrun]
theorem adk {t : TypeId} {x i : Operand} (hop : o.op = .index t x i) (h : RelL F L st a w) (hg : Goes F k r next) {len e : Nat} (ht : P.underlying t = some (.array len e)) {xs : List AV} (hx : st.get x = .agg xs) {ik : IntKind} {n : Int} (hi : st.get i = .int ik n)
 {s : Nat} {ag : Bool} (hs : dX P e = some s) (hag : aggT P e = some ag) (h0 : 0 ≤ n) (h1 : n < len) (hk : (bif ag then k (st.put o.dst (.agg ((xs.drop (jq 0 n.toNat s)).take s))) else (xs[jq 0 n.toNat s]?).bind fun v => k (st.put o.dst v)) = some r) : o.wp P a w next Q := by
 have hv := h.get x
 rw [hx] at hv
 simp only [V] at hv
 obtain ⟨arr, he, hv⟩ := hv
 have hiv := h.get i
 rw [hi] at hiv
 simp only [V] at hiv
 rw [Dx, Nat.zero_add] at hk
 obtain ⟨X, v, hk, hV, hrun⟩ := aeh (w := w) hv hs hag (κ := fun v => k (st.put o.dst v)) hk
 refine dV (v := v) (w' := w) ?_ (bV hg h hV hk)
 simp [execOp, hop, he, hiv, Instr.index, run_underlying ht, asIntOf, h0, h1, iK hs, hrun]
theorem acJ {t : TypeId} {x i : Operand} (hop : o.op = .index t x i) (h : RelL F L st a w) (hg : Goes F k r next) (ht : P.underlying t = some .string) {s : ByteArray} (hx : st.get x = .str s) {ik : IntKind} {n : Int} (hi : st.get i = .int ik n) (h0 : 0 ≤ n)
 {c : UInt8} (hc : s.data.toList[n.toNat]? = some c) (hk : k (st.put o.dst (.int .u8 c.toNat)) = some r) : o.wp P a w next Q := by
 have hv := h.get x
 rw [hx] at hv
 simp only [V] at hv
 have hiv := h.get i
 rw [hi] at hiv
 simp only [V] at hiv
 have hc' : s[n.toNat]? = some c := by
  have hlt : n.toNat < s.data.toList.length := (List.getElem?_eq_some_iff.1 hc).1
  have hsz : n.toNat < s.size := by simpa using hlt
  rw [getElem?_pos s n.toNat hsz]
  have e := List.getElem?_eq_getElem hlt
  rw [hc] at e
  rw [Option.some.inj e]
  rfl
 refine dV (v := .int .u8 c.toNat) (w' := w) ?_ (bV hg h (by simp [V]) hk)
 simp [execOp, hop, hv, hiv, Instr.index, run_underlying ht, asIntOf, h0, hc']
theorem ae5 {x : Operand} {i : Nat} (hop : o.op = .extract x i) (h : RelL F L st a w) (hg : Goes F k r next) {xs : List AV} (hx : st.get x = .tup xs) (hk : ((xs[i]?).bind fun v => k (st.put o.dst v)) = some r) : o.wp P a w next Q := by
 have hv := h.get x
 rw [hx] at hv
 simp only [V] at hv
 obtain ⟨arr, he, hv⟩ := hv
 rw [Option.bind_eq_some_iff] at hk
 obtain ⟨X, hX, hk⟩ := hk
 obtain ⟨v, hv', hV⟩ := gK _ hv hX
 have hv2 : arr[i]? = some v := by simpa using hv'
 exact dV (v := v) (w' := w) (by simp [execOp, hop, he, Instr.extract, hv2]) (bV hg h hV hk)
theorem adW {f : FuncId} {first caps : Array Operand} (hop : o.op = .makeFunc (.func f) first caps) (hfirst : first.toList = []) (h : RelL F L st a w) (hg : Goes F k r next)
 (hk : k (st.put o.dst (.fn f (caps.toList.map st.get))) = some r) : o.wp P a w next Q := by
 have e1 : first = #[] := by simpa using hfirst
 subst e1
 refine dV (v := .func (.func f) #[] (caps.map a.eval)) (w' := w) (by simp [execOp, hop, Instr.makeFunc]) (bV hg h ?_ hk)
 simp only [V]
 refine ⟨_, rfl, wW (by simp) fun j x hx => ?_⟩
 simp only [List.getElem?_map, Option.map_eq_some_iff] at hx
 obtain ⟨y, hy, rfl⟩ := hx
 refine ⟨a.eval y, ?_, h.get y⟩
 simp at hy
 simp [hy]
end
end Go.Ev
