/- The evaluator's operations held against the model's: values and slices built. -/
import Derived.Test.YthjehhoafmnmkaaEvOps7
import Derived.IntWalk
namespace Go.Ev
open Go.RowKit
variable {α : Type} {P : Program} {w : World} {F : Fix} {L : LM} {st : St} {a : Act} {o : Oper} {next : Act → World → Prop} {Q : Exit → Act → World → Prop}
variable {k : St → Option α} {r : α}
theorem abv (v : Value) : cellsOf (ny v) = [ny v] := by
 cases v with
 | pointer a => cases a <;> rfl
 | slice a l c =>
   cases a with
   | some a => rfl
   | none =>
     simp only [ny]
     cases (Nat.beq l 0 && Nat.beq c 0) <;> rfl
 | func fn first caps =>
   cases fn with
   | func f =>
     simp only [ny]
     split <;> rfl
   | _ => rfl
 | _ => rfl
theorem CZ {v : Value} : VAll L (cellsOf (mW v)) v.cells.toList := by
 have hV0 := zx L v
 cases v with
 | agg arr =>
   simp only [V, mW] at hV0
   obtain ⟨arr2, he, hV0⟩ := hV0
   cases he
   exact hV0
 | _ =>
   simp only [mW] at hV0 ⊢
   rw [abv]
   exact ⟨hV0, trivial⟩
theorem aaz {β : Type} (off : Nat) : ∀ (l : List β) (n : Nat) (cs : Array β), ((l.zipIdx n).foldl (fun cs (p : β × Nat) => cs.setIfInBounds (off + p.2) p.1) cs).toList = lq cs.toList (off + n) l
 | [], n, cs => rfl
 | v :: r, n, cs => by
   simp only [List.zipIdx_cons, List.foldl_cons, lq]
   rw [aaz off r (n + 1)]
   simp [Nat.add_assoc]
theorem af4 (off : Nat) (v : Array Value) (cs : Array Value) : (v.zipIdx.foldl (fun cs (c, j) => cs.setIfInBounds (off + j) c) cs).toList = lq cs.toList off v.toList := by
 rw [← Array.foldl_toList]
 have := aaz off v.toList 0 cs
 rw [Nat.add_zero] at this
 rw [← this]
 simp [Array.toList_zipIdx]
theorem adT {xs ys : List AV} {vs us : List Value} (h : VAll L xs vs) (hy : VAll L ys us) {i : Nat} (hfit : i + ys.length ≤ xs.length) : VAll L (lq xs i ys) (lq vs i us) := by
 have h1 := bz h
 have h2 := bz hy
 refine wW (by rw [uq, uq, h1]) fun j x hx => ?_
 rw [xJ _ _ _ _ hfit] at hx
 rw [xJ _ _ _ _ (by omega)]
 split at hx
 ·rename_i hj
  rw [if_pos (by omega)]
  exact gK _ hy hx
 ·rename_i hj
  rw [if_neg (by omega)]
  exact gK _ h hx
def PAll (L : LM) : List (Nat × AV) → List (Nat × Value) → Prop
 | [], [] => True
 | (i, x) :: r, (j, v) :: s => i = j ∧ V L x v ∧ PAll L r s
 | _, _ => False
theorem Oq {place : Nat → Option (Nat × Nat)} : ∀ {parts : List (Nat × AV)} {pv : List (Nat × Value)} {cells out : List AV} {cv : Array Value}, PAll L parts pv → VAll L cells cv.toList → OQ place cells parts = some out →
 ∃ ov, Instr.fill place cv pv = some ov ∧ VAll L out ov.toList
 | [], [], cells, out, cv, _, hc, h => by
   simp only [OQ, Option.some.injEq] at h
   subst h
   exact ⟨cv, rfl, hc⟩
 | (i, x) :: r, (j, v) :: s, cells, out, cv, hp, hc, h => by
   simp only [PAll] at hp
   obtain ⟨rfl, hV, hp⟩ := hp
   simp only [OQ, Option.bind_eq_some_iff] at h
   obtain ⟨⟨off, size⟩, hpl, h⟩ := h
   simp only at h
   cases hcond : (gZ (cellsOf x) && (Nat.beq (cellsOf x).length size && Nat.ble (off + size) cells.length)) with
   | false => simp [hcond] at h
   | true =>
     rw [hcond, cond_true] at h
     simp only [Bool.and_eq_true] at hcond
     obtain ⟨hac, hs, hle⟩ := hcond
     have hs := ay hs
     have hle := Nat.le_of_ble_eq_true hle
     obtain ⟨hvc, _⟩ := MQ hac hV
     have hl := bz hvc
     have hcl := bz hc
     have hvs : v.cells.size = size := by rw [← hs, hl]; simp
     obtain ⟨ov, h1, h2⟩ := Oq hp (cv := v.cells.zipIdx.foldl (fun cs (c, j) => cs.setIfInBounds (off + j) c) cv) (by
      rw [af4]
      exact adT hc hvc (by omega)) h
     refine ⟨ov, ?_, h2⟩
     simp only [Instr.fill, hpl]
     have hns : ¬ (off + v.cells.size > cv.size) := by rw [hvs]; simp at hcl; omega
     simp only [ne_eq, hvs, not_true_eq_false, decide_false, Bool.false_or, decide_eq_true_eq]
     rw [hvs] at hns
     rw [if_neg hns]
     exact h1
 | [], _ :: _, _, _, _, hp, _, _ => by simp [PAll] at hp
 | _ :: _, [], _, _, _, hp, _, _ => by simp [PAll] at hp
section
variable [Inhabited az]
theorem abw (h : RelL F L st a w) : ∀ (ps : List (Nat × Operand)), PAll L (ps.map fun (i, x) => (i, st.get x)) (ps.map fun (i, x) => (i, a.eval x))
 | [] => by simp [PAll]
 | (i, x) :: r => by simp only [List.map_cons, PAll]; exact ⟨by trivial, h.get x, abw h r⟩
end
theorem abo {fs : List Field} (hf : ∀ f ∈ fs, ∃ n, dX P f.type = some n) : (fs.mapM (fun f => Prod.mk f.offset <$> sizeOf f.type) : Sem (List (Nat × Nat))).run P w = .ok (fs.map fun f => (f.offset, (dX P f.type).getD 0)) w := by
 induction fs with
 | nil => simp
 | cons f r ih =>
   obtain ⟨n, hn⟩ := hf f (by simp)
   have ih := ih fun g hg => hf g (by simp [hg])
   simp [List.mapM_cons, iK hn, ih, hn]
theorem Px {p q : Nat → Option (Nat × Nat)} (hpq : ∀ i x, p i = some x → q i = some x) : ∀ {parts : List (Nat × Value)} {cells out : Array Value}, Instr.fill p cells parts = some out → Instr.fill q cells parts = some out
 | [], _, _, h => h
 | (i, v) :: r, cells, out, h => by
   simp only [Instr.fill] at h ⊢
   cases hp : p i with
   | none => rw [hp] at h; simp at h
   | some x =>
     rw [hp] at h
     rw [hpq i x hp]
     simp only at h ⊢
     split at h
     ·simp at h
     ·rename_i hn
      rw [if_neg hn]
      exact Px hpq h
theorem acW {fs : List Field} (h : Nz P fs = true) : ∀ f ∈ fs, ∃ n, dX P f.type = some n := by
 induction fs with
 | nil => simp
 | cons g r ih =>
   simp only [Nz, Bool.and_eq_true] at h
   intro f hf
   rcases List.mem_cons.1 hf with rfl | hf
   ·cases hs : dX P f.type with
    | some n => exact ⟨n, rfl⟩
    | none => simp [hs] at h
   ·exact ih h.2 f hf
section
variable [Inhabited az]
theorem ahp {t : TypeId} {parts : Array (Nat × Operand)} (hop : o.op = .build t parts) (h : RelL F L st a w) (hg : Goes F k r next) {X : AV} (hX : Xx P t (parts.toList.map fun (i, x) => (i, st.get x)) = some X) (hk : k (st.put o.dst X) = some r) : o.wp P a w next Q := by
 unfold Xx at hX
 rw [Option.bind_eq_some_iff] at hX
 obtain ⟨z, hz, hX⟩ := hX
 obtain ⟨i, v, hi, hv0, rfl⟩ := qV hz
 have hparts := abw h parts.toList
 have hV0 := zx L v
 split at hX
 ·rename_i fs hu
  cases hall : Nz P fs.toList with
  | false => simp [hall] at hX
  | true =>
  rw [hall, cond_true, Option.map_eq_some_iff] at hX
  obtain ⟨cs, hfill, rfl⟩ := hX
  have hz2 : VAll L (cellsOf (mW v)) v.cells.toList := CZ
  obtain ⟨ov, h1, h2⟩ := Oq hparts hz2 hfill
  have hrunp := abo (P := P) (w := w) (acW hall)
  have h1' : Instr.fill (fun x => Option.map (fun f => (f.offset, (dX P f.type).getD 0)) fs[x]?) v.cells (List.map (fun x => (x.fst, a.eval x.snd)) parts.toList) = some ov := by
   refine Px (fun j x hx => ?_) h1
   unfold Yk at hx
   simp only [Option.bind_eq_some_iff, Option.map_eq_some_iff] at hx
   obtain ⟨f, hf, n, hn, rfl⟩ := hx
   simp at hf
   simp [hf, hn]
  refine dV (v := .agg ov) (w' := w) ?_ (bV hg h (x := .agg cs) ?_ hk)
  ·have hm : (fs.mapM (fun f => Prod.mk f.offset <$> sizeOf f.type) : Sem (Array (Nat × Nat))).run P w = .ok (fs.map fun f => (f.offset, (dX P f.type).getD 0)) w := by
    rw [Array.mapM_eq_mapM_toList]
    simp [hrunp]
    apply Array.ext'
    simp
   simp [execOp, hop, Instr.build, ry hi hv0, run_underlying hu, hm, h1']
  ·simp only [V]; exact ⟨ov, rfl, h2⟩
 ·rename_i n e hu
  rw [Option.bind_eq_some_iff] at hX
  obtain ⟨s, hs, hX⟩ := hX
  rw [Option.map_eq_some_iff] at hX
  obtain ⟨cs, hfill, rfl⟩ := hX
  have hz2 : VAll L (cellsOf (mW v)) v.cells.toList := CZ
  obtain ⟨ov, h1, h2⟩ := Oq hparts hz2 hfill
  refine dV (v := .agg ov) (w' := w) ?_ (bV hg h (x := .agg cs) ?_ hk)
  ·simp [execOp, hop, Instr.build, ry hi hv0, run_underlying hu, iK hs, h1]
  ·simp only [V]; exact ⟨ov, rfl, h2⟩
 ·simp at hX
end
theorem Yq (z : List AV) : ∀ (n i : Nat), (yV z n)[i]? = if i < n * z.length then z[i % z.length]? else none
 | 0, i => by simp [yV]
 | n + 1, i => by
   simp only [yV]
   by_cases h : i < z.length
   ·rw [List.getElem?_append_left h, if_pos (by rw [Nat.add_mul]; omega), Nat.mod_eq_of_lt h]
   ·rw [List.getElem?_append_right (by omega), Yq z n]
    by_cases h2 : i - z.length < n * z.length
    ·rw [if_pos h2, if_pos (by rw [Nat.add_mul]; omega), ← Nat.mod_eq_sub_mod (by omega)]
    ·rw [if_neg h2, if_neg (by rw [Nat.add_mul]; omega)]
theorem abr (z : List AV) (n : Nat) : (yV z n).length = n * z.length := by
 induction n with
 | zero => simp [yV]
 | succ n ih => simp [yV, ih, Nat.add_mul, Nat.add_comm]
theorem Xw {z : List AV} {zc : Array Value} (h : VAll L z zc.toList) (n : Nat) : VAll L (yV z n) ((Array.range (n * z.length)).map (zc[· % zc.size]!)).toList := by
 have hl := bz h
 have hl' : z.length = zc.size := by simpa using hl
 refine wW (by simp [abr]) fun i x hx => ?_
 rw [Yq] at hx
 split at hx
 ·rename_i hi
  obtain ⟨v, hv, hV⟩ := gK _ h hx
  refine ⟨v, ?_, hV⟩
  have hi2 : i < (Array.range (n * z.length)).size := by simpa using hi
  have hv' : zc[i % zc.size]? = some v := by rw [← hl']; simpa using hv
  simp [hi]
  rw [getElem!_def, hv']
 ·simp at hx
theorem NW (t : Ty) : ∀ {n : Nat} {l : List AV} {xs : List t.den}, Hw t n l = some xs → xs.flatMap t.enc = l ∧ xs.length = n
 | 0, [], xs, h => by simp only [Hw, Option.some.injEq] at h; subst h; exact ⟨rfl, rfl⟩
 | 0, _ :: _, xs, h => by simp [Hw] at h
 | n + 1, l, xs, h => by
   simp only [Hw, Option.bind_eq_some_iff, Option.map_eq_some_iff] at h
   obtain ⟨x, hx, ys, hys, rfl⟩ := h
   obtain ⟨h1, h2⟩ := NW t hys
   refine ⟨?_, by simp [h2]⟩
   rw [List.flatMap_cons, Ez t _ x hx, h1, List.take_append_drop]
section
variable [Inhabited az]
theorem RelL.newSlice (h : RelL F L st a w) {id : Nat} (hid : F.low ≤ id) {blk : Blk} {arr : Array Value} (hv : VAll L blk.flat arr.toList) (h1 : ∀ u ∈ arr, u.oneCell' = true) (hn : AV.namesAll id blk.flat = false) (hm : blk.mode = 2) (hlen : blk.n ≤ maxLen) :
 ∃ L', RelL F L' (st.fresh id blk) a (w.alloc (.cells arr blk.e)) ∧ V L' (.sl id) (.slice (some ⟨w.heap.size, 0, none⟩) blk.n blk.n) := by
 refine ⟨_, h.new hid hv h1 hn hm, ?_⟩
 simp only [V]
 refine ⟨⟨w.heap.size, 0, blk.w, blk.n, 2, arr.size, true, undef⟩, by simp [LM.set], some ⟨w.heap.size, 0, none⟩, blk.n, rfl, ⟨Nat.le_refl _, fun _ => ⟨rfl, fun _ => ⟨?_, hlen⟩⟩, fun hb => by simp at hb⟩, fun h0 => by simp at h0⟩
 have h2 := bz hv
 rw [Oy] at h2
 simpa using h2
end
theorem SX {b : Blk} (hb : (∃ m e t l, b = .rows m e t l) ∨ gZ b.flat = true) {arr : Array Value} (hv : VAll L b.flat arr.toList) : ∀ u ∈ arr, u.oneCell' = true := by
 intro u hu
 have hmem : u ∈ arr.toList := by simpa using hu
 obtain ⟨i, hi⟩ := List.mem_iff_getElem?.1 hmem
 have hl := bz hv
 have hlt : i < b.flat.length := by rw [hl]; exact (List.getElem?_eq_some_iff.1 hi).1
 obtain ⟨v, hv', hV⟩ := gK i hv (List.getElem?_eq_getElem hlt)
 rw [hi] at hv'
 have := Option.some.inj hv'
 subst this
 rcases hb with ⟨m, e, t, l, rfl⟩ | hb
 ·obtain ⟨s, hs⟩ := Jq t l i _ (List.getElem?_eq_getElem hlt)
  rw [(sZ hs).1 hV]
  exact Dw hs
 ·exact (aaO (MV hb _ (List.getElem_mem hlt)) hV).1
section
variable [Inhabited az]
theorem acm {T : TypeId} {len : Nat} {parts : Array (Nat × Operand)} (hop : o.op = .buildSlice T len parts) (h : RelL F L st a w) (hg : Goes F k r next) {id : Nat} (hid : F.low ≤ id) {b : Blk} (hb : Fq P T len (parts.toList.map fun (i, x) => (i, st.get x)) = some b)
 (hn : AV.namesAll id b.flat = false) (hk : k ((st.fresh id b).put o.dst (.sl id)) = some r) : o.wp P a w next Q := by
 unfold Fq at hb
 split at hb
 ·rename_i e hu
  rw [Option.bind_eq_some_iff] at hb
  obtain ⟨s, hs, hb⟩ := hb
  cases hle : Nat.ble (len * s) 4096 with
  | false => simp [hle] at hb
  | true =>
    rw [hle, cond_true, Option.bind_eq_some_iff] at hb
    have hle := Nat.le_of_ble_eq_true hle
    obtain ⟨z, hz, hb⟩ := hb
    cases hzc : (gZ (cellsOf z) && Nat.beq (cellsOf z).length s) with
    | false => simp [hzc] at hb
    | true =>
      rw [hzc, cond_true, Option.bind_eq_some_iff] at hb
      simp only [Bool.and_eq_true] at hzc
      have hzs := ay hzc.2
      obtain ⟨cells, hfill, hb⟩ := hb
      obtain ⟨i, v, hi, hv0, rfl⟩ := qV hz
      have hcz := CZ (L := L) (v := v)
      have hparts := abw h parts.toList
      have hzv := Xw hcz len
      rw [hzs] at hzv
      obtain ⟨ov, h1, h2⟩ := Oq hparts hzv hfill
      have hexec : (execOp a.eval o).run P w = .ok (.value (.slice (some ⟨w.heap.size, 0, none⟩) len len)) (w.alloc (.cells ov e)) := by
       have hcond : ¬ len * s > 2 ^ 24 := by omega
       have hzl : v.cells.size = s := by
        have := bz hcz
        rw [hzs] at this
        simpa using this.symm
       by_cases h0 : len * s = 0
       ·have e1 : (Array.range (len * s)).map (v.cells[· % v.cells.size]!) = ((Array.range (len * s)).map ((#[] : Array Value)[· % (#[] : Array Value).size]!)) := by rw [h0]; simp
        rw [e1] at h1
        simp only [execOp, hop, Instr.buildSlice, Sem.run_bind, run_underlying hu, Result.andThen_ok, iK hs, if_neg hcond, if_pos h0, Sem.run_pure]
        rw [show (Array.map (fun x => (x.fst, a.eval x.snd)) parts).toList = parts.toList.map fun (i, x) => (i, a.eval x) by simp, h1]
        simp [newRow]
       ·simp only [execOp, hop, Instr.buildSlice, Sem.run_bind, run_underlying hu, Result.andThen_ok, iK hs, if_neg hcond, if_neg h0, Sem.run_pure, ry hi hv0]
        rw [show (Array.map (fun x => (x.fst, a.eval x.snd)) parts).toList = parts.toList.map fun (i, x) => (i, a.eval x) by simp, h1]
        simp [newRow]
      have hlen2 := bz h2
      unfold acO at hb
      split at hb
      ·rename_i t ht
       cases htw : Nat.beq t.w s with
       | false => simp [htw] at hb
       | true =>
         rw [htw, cond_true, Option.map_eq_some_iff] at hb
         obtain ⟨l, hl, rfl⟩ := hb
         obtain ⟨hf, hln⟩ := NW t hl
         have hv : VAll L (Blk.rows 2 e t l).flat ov.toList := by simp only [Blk.flat, hf]; exact h2
         have hcap : (Blk.rows 2 e t l).n ≤ maxLen := by
          have hws := ay htw
          have := DW t
          have : len ≤ len * s := Nat.le_mul_of_pos_right _ (by omega)
          simp only [Blk.n, hln, maxLen]
          omega
         obtain ⟨L', hrel, hsl⟩ := h.newSlice hid hv (SX (.inl ⟨_, _, _, _, rfl⟩) hv) hn rfl hcap
         have en : (Blk.rows 2 e t l).n = len := hln
         rw [en] at hsl
         exact dV hexec (bV hg hrel hsl hk)
      ·cases hcl : (gZ cells && (Nat.beq cells.length len && Nat.beq s 1)) with
       | false => simp [hcl] at hb
       | true =>
         rw [hcl, cond_true] at hb
         simp only [Bool.and_eq_true] at hcl
         obtain ⟨hac, hcl, hs1⟩ := hcl
         have hcl := ay hcl
         have hs1 := ay hs1
         simp at hb
         subst hb
         have hv : VAll L (Blk.mix 2 e cells).flat ov.toList := h2
         have hle2 : len ≤ 4096 := by rw [hs1, Nat.mul_one] at hle; exact hle
         obtain ⟨L', hrel, hsl⟩ := h.newSlice hid hv (SX (b := .mix 2 e cells) (.inr hac) hv) hn rfl (by simp only [Blk.n, hcl, maxLen]; omega)
         have en : (Blk.mix 2 e cells).n = len := hcl
         rw [en] at hsl
         exact dV hexec (bV hg hrel hsl hk)
 ·simp at hb
end
theorem SV (t : Ty) (x : t.den) (n : Nat) : (List.replicate n x).flatMap t.enc = yV (t.enc x) n := by
 induction n with
 | zero => rfl
 | succ n ih => rw [List.replicate_succ, List.flatMap_cons, ih]; rfl
theorem Yz {n : Int} (h0 : 0 ≤ n) (h1 : n ≤ 9223372036854775807) : IntKind.i64.wrap n = n := by
 exact IntWalk.i64_in n ⟨by omega, h1⟩
theorem adU {x y : Operand} (h : Vy x y = true) : a.eval x = a.eval y := by
 unfold Vy at h
 split at h
 ·rw [ay h]
 ·rw [ay h]
 ·simp at h
section
variable [Inhabited az]
theorem ads {T : TypeId} {x y : Operand} (hop : o.op = .makeSlice T x y) (h : RelL F L st a w) (hg : Goes F k r next) {e : TypeId} (hu : P.underlying T = some (.slice e)) {n : Int} (hx : st.get x = .int .i64 n) (hxy : Vy x y = true) {t : Ty} {z : AV} (hz : nY P e = some z)
 {d : t.den} (hd : t.dec (cellsOf z) = some d) (hs : dX P e = some t.w) (hby : rZ P e = true) (h0 : 0 ≤ n) (h1 : n ≤ (big : Int)) {id : Nat} (hid : F.low ≤ id)
 (hk : k ((st.fresh id (.rows 2 e t (List.replicate n.toNat d))).put o.dst (.sl id)) = some r) : o.wp P a w next Q := by
 have hv := h.get x
 rw [hx] at hv
 simp only [V] at hv
 have hv2 : a.eval y = .int .i64 n := by rw [← adU hxy, hv]
 obtain ⟨i, v, hi, hv0, rfl⟩ := qV hz
 have he := Ez t _ d hd
 have hcz := CZ (L := L) (v := v)
 rw [← he] at hcz
 have hbytes : i.bytes ≤ 128 := by
  unfold rZ at hby
  rw [hi] at hby
  exact Nat.le_of_ble_eq_true hby
 obtain ⟨i2, hi2, his⟩ := FV hs
 rw [hi] at hi2
 have := Option.some.inj hi2
 subst this
 unfold big at h1
 have hw := Yz h0 (by omega)
 have hprod : (i.bytes : Int) * n ≤ 281474976710656 := by
  have ha : (i.bytes : Int) * n ≤ 128 * n := Int.mul_le_mul_of_nonneg_right (by omega) h0
  omega
 have hzv := Xw hcz n.toNat
 rw [nK] at hzv
 have hlen : (Blk.rows 2 e t (List.replicate n.toNat d)).n = n.toNat := by simp [Blk.n]
 have hvv : VAll L (Blk.rows 2 e t (List.replicate n.toNat d)).flat ((Array.range (n.toNat * t.w)).map (v.cells[· % v.cells.size]!)).toList := by
  simp only [Blk.flat, SV]
  exact hzv
 obtain ⟨L', hrel, hsl⟩ := h.newSlice hid hvv (SX (.inl ⟨_, _, _, _, rfl⟩) hvv) (by simp only [Blk.flat]; exact aeP _ _ _) rfl (by rw [hlen]; simp only [maxLen]; omega)
 rw [hlen] at hsl
 refine dV (v := .slice (some ⟨w.heap.size, 0, none⟩) n.toNat n.toNat) (w' := w.alloc (.cells ((Array.range (n.toNat * t.w)).map (v.cells[· % v.cells.size]!)) e)) ?_ (bV hg hrel hsl hk)
 have hc1 : ¬ (n < 0) := by omega
 have hc2 : ¬ ((281474976710656 : Int) < (i.bytes : Int) * n) := by omega
 have hinfo : (typeInfo e).run P w = .ok i w := by simp [typeInfo, hi]
 by_cases hn0 : n.toNat * t.w = 0
 ·have e1 : (Array.range (n.toNat * t.w)).map (v.cells[· % v.cells.size]!) = ((Array.range (n.toNat * t.w)).map ((#[] : Array Value)[· % (#[] : Array Value).size]!)) := by rw [hn0]; simp
  rw [e1]
  simp [execOp, hop, Instr.makeSlice, run_underlying hu, hv, hv2, asInt, asIntOf, hinfo, hw, hc1, hc2, iK hs, hn0, newRow]
 ·simp [execOp, hop, Instr.makeSlice, run_underlying hu, hv, hv2, asInt, asIntOf, hinfo, hw, hc1, hc2, iK hs, hn0, newRow, ry hi hv0]
end
theorem aaf (T u ty e : TypeId) (i : TypeInfo) (z : Value) (ht : P.underlying T = some (.slice e)) {ik : IntKind} (hu : P.underlying u = some (.int ik)) (hi : P.info? e = some i) (hz : i.zero = some z) (ad : Option Addr) (n : Nat)
 (hn : 1 ≤ n) (hb : n ≤ big) (hby : i.bytes ≤ 128) (hsz : i.size ≠ 0) :
 (Builtin.append_ #[T, u] ty #[.slice ad 0 0, .int .i64 n]).run P w =
   .ok (.slice (some ⟨w.heap.size, 0, none⟩) n (grownCap w n 0 e)) (w.drew.alloc (.cells (Builtin.zeroCells z.cells n ++ Builtin.zeroCells z.cells (grownCap w n 0 e - n)) e)) := by
 unfold big at hb
 have hw := Yz (n := (n : Int)) (by omega) (by omega)
 have h1 : ¬ ((n : Int) < 0) := by omega
 have hp : (n : Int) * (i.bytes : Int) ≤ n * 128 := Int.mul_le_mul_of_nonneg_left (by omega) (by omega)
 have h2 : ¬ ((281474976710656 : Int) < n * i.bytes) := by omega
 have hne2 : n ≠ 0 := by omega
 have hns : ¬ (n * i.size = 0) := Nat.mul_ne_zero hne2 hsz
 have h63 : ¬ ((9223372036854775807 : Int) < (n : Int)) := by omega
 have hfit : Builtin.nextslicecap n 0 * i.bytes ≤ 281474976710656 := growslice_fits (by omega) (by
  have : n * i.bytes ≤ 1099511627776 * 128 := Nat.mul_le_mul hb hby
  omega)
 have h48 : ¬ (281474976710656 < Builtin.nextslicecap n 0 * i.bytes) := by omega
 have hf : ∀ w : World, (Builtin.firstCells i.size 0 (.slice ad 0 0)).run P w = .ok #[] w := fun w => by
  cases ad <;> simp [Builtin.firstCells, loadCells, loadCellsFrom]
 simp [Builtin.append_, run_underlying ht, run_underlying hu, sizeOf, typeInfo, zeroValue, hi, hz, asInt, asIntOf, hw, h1, h2, hne2, hns, h63, h48, Question.forced, hf, newRow, grownCap]
section
variable [Inhabited az]
theorem aaQ {c : Call} (hop : o.op = .call c) (hcal : c.callee = .builtin .append) {s x : Operand} (hargs : c.args.toList = [s, x]) {T u : TypeId} (htys : c.argTypes.toList = [T, u]) (h : RelL F L st a w) (hg : Goes F k r next)
 {e : TypeId} (ht : P.underlying T = some (.slice e)) {ik : IntKind} (hu : P.underlying u = some (.int ik)) {t : Ty} {z : AV} (hz : nY P e = some z) {d : t.den} (hd : t.dec (cellsOf z) = some d) (hby : rZ P e = true) (hsz : dX P e = some t.w)
 (hs : st.get s = .nilsl ∨ st.get s = .emp) {n : Int} (hx : st.get x = .int .i64 n) (h1 : 1 ≤ n) (h2 : n ≤ (big : Int)) {id : Nat} (hid : F.low ≤ id)
 (hk : k ((st.fresh id (.rows 2 e t (List.replicate n.toNat d))).put o.dst (.sl id)) = some r) : o.wp P a w next Q := by
 obtain ⟨N, rfl⟩ : ∃ N : Nat, n = (N : Int) := ⟨n.toNat, by omega⟩
 rw [Int.toNat_natCast] at hk
 have hN : N ≤ big := by omega
 have hvx := h.get x
 rw [hx] at hvx
 simp only [V] at hvx
 obtain ⟨i, v, hi, hv0, rfl⟩ := qV hz
 have he := Ez t _ d hd
 have hcz := CZ (L := L) (v := v)
 rw [← he] at hcz
 have hcw : v.cells.size = t.w := by
  have := bz hcz
  rw [nK] at this
  simpa using this.symm
 have hbytes : i.bytes ≤ 128 := by
  unfold rZ at hby
  rw [hi] at hby
  exact Nat.le_of_ble_eq_true hby
 obtain ⟨i2, hi2, his⟩ := FV hsz
 rw [hi] at hi2
 have := Option.some.inj hi2
 subst this
 have hwp := DW t
 have hv := h.get s
 obtain ⟨ad, hev⟩ : ∃ ad, a.eval s = .slice ad 0 0 := by
  rcases hs with hs | hs <;> rw [hs] at hv <;> simp only [V] at hv
  ·exact ⟨_, hv⟩
  ·exact hv
 have e1 : c.args = #[s, x] := by rw [← Array.toList_inj]; exact hargs
 have e2 : c.argTypes = #[T, u] := by rw [← Array.toList_inj]; exact htys
 have hrun := aaf (w := w) T u o.type e i v ht hu hi hv0 ad N (by omega) hN hbytes (by rw [his]; omega)
 have hge := grownCap_ge w N 0 e
 have hcm : grownCap w N 0 e ≤ maxLen := grownCap_le_maxLen w N 0 e (by simp only [maxLen]; unfold big at hN; omega)
 generalize hgc : grownCap w N 0 e = gc at hrun hge hcm
 have hzl : (Builtin.zeroCells v.cells N).toList.length = N * t.w := by simp [size_zeroCells, hcw]
 have harr := ab1 (zc := v.cells) (s := t.w) (need := N) (c := gc) hcw (Builtin.zeroCells v.cells N).toList hzl hge
 rw [Array.toArray_toList] at harr
 have hV : VAll L ((List.replicate N d).flatMap t.enc) (Builtin.zeroCells v.cells N).toList := by
  rw [SV]
  have := Xw hcz N
  rw [nK] at this
  unfold Builtin.zeroCells
  rw [hcw] at this ⊢
  exact this
 obtain ⟨hVA, hone⟩ := MK t (List.replicate N d) (L' := L) hV
 generalize harrdef : Builtin.zeroCells v.cells N ++ Builtin.zeroCells v.cells (gc - N) = arr at hrun harr
 have hfl : ((List.replicate N d).flatMap t.enc).length = N * t.w := by rw [fJ, List.length_replicate]
 let l' : Loc := ⟨w.heap.size, 0, t.w, N, 2, arr.size, true, undef⟩
 have hrel : RelL F (L.set id l') (st.fresh id (.rows 2 e t (List.replicate N d))) a (w.drew.alloc (.cells arr e)) := by
  have hstep : Step w (w.drew.alloc (.cells arr e)) (fun _ => False) := ⟨rfl, rfl, rfl, by simp, fun k hk _ => Below.heap_alloc w.drew _ k hk, fun _ => Nat.le_succ _⟩
  refine h.fresh (S := fun _ => False) hstep hid (fun _ _ _ _ _ _ _ _ h => h) (fun _ h => h.elim) ?_ ?_
  ·refine ⟨rfl, by simp [l', Blk.n], rfl, by simp [Blk.mode], fun _ j av hj => ?_, fun _ hm => by simp [Blk.mode] at hm, fun _ _ => ⟨rfl, arr, xx w.drew _, rfl, ?_⟩, fun _ hm => by simp [Blk.mode] at hm, fun _ _ => h.below.size, fun hb => by simp [l'] at hb⟩
   ·obtain ⟨v', hv', hVv⟩ := gK j (MK t (List.replicate N d) (L' := L.set id l') hV).1 hj
    refine ⟨v', ?_, hVv, hone v' (List.mem_of_getElem? hv')⟩
    show (w.drew.alloc (.cells arr e)).cell? ⟨w.drew.heap.size, 0 + j, none⟩ = some v'
    rw [Gv, Nat.zero_add, ← harrdef]
    have hj2 : j < (Builtin.zeroCells v.cells N).toList.length := (List.getElem?_eq_some_iff.1 hv').1
    rw [Array.getElem?_append_left (by simpa using hj2)]
    simpa using hv'
   ·show ((List.replicate N d).flatMap t.enc).length ≤ arr.size
    rw [hfl, harr]
    exact Nat.mul_le_mul_right _ hge
  ·intro _ _ j b l2 hj hlk hL2 hbk2 hm2
   obtain ⟨l3, hL3, hb3⟩ := h.heap j b hlk
   rw [hL2] at hL3
   have := Option.some.inj hL3
   subst this
   obtain ⟨_, cur2, hc2, _⟩ := hb3.own hbk2 (by rw [← hb3.hm]; exact hm2)
   have := tK hc2
   show l2.b ≠ w.heap.size
   omega
 refine dV (v := .slice (some ⟨w.heap.size, 0, none⟩) N gc) (w' := w.drew.alloc (.cells arr e)) ?_ (bV hg hrel (x := .sl id) ?_ hk)
 ·simp [execOp, hop, resolve, hcal, invoke, builtin, e1, e2, hev, hvx, hrun]
 ·simp only [V]
  exact ⟨l', by simp [LM.set], _, gc, rfl, ⟨hge, fun _ => ⟨rfl, fun _ => ⟨harr.symm, hcm⟩⟩, fun hb => by simp [l'] at hb⟩, fun h0 => by simp [l'] at h0⟩
end
end Go.Ev
