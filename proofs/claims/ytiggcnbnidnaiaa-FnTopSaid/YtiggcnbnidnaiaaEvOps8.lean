/- The evaluator's operations held against the model's: values and slices built. -/
import Derived.Test.YtiggcnbnidnaiaaEvOps7
import Derived.IntWalk
namespace Go.Ev
open Go.RowKit
variable {α : Type} {P : Program} {w : World} {F : Fix} {L : LM} {st : St} {a : Act} {o : Oper} {next : Act → World → Prop} {Q : Exit → Act → World → Prop}
variable {k : St → Option α} {r : α}
theorem ae3 (v : Value) : cellsOf (rV v) = [rV v] := by
 cases v with
 | pointer a => cases a <;> rfl
 | slice a l c =>
   cases a with
   | some a => rfl
   | none =>
     simp only [rV]
     cases (Nat.beq l 0 && Nat.beq c 0) <;> rfl
 | func fn first caps =>
   cases fn with
   | func f =>
     simp only [rV]
     split <;> rfl
   | _ => rfl
 | _ => rfl
theorem MZ {v : Value} : VAll L (cellsOf (pK v)) v.cells.toList := by
 have hV0 := KZ L v
 cases v with
 | agg arr =>
   simp only [V, pK] at hV0
   obtain ⟨arr2, he, hV0⟩ := hV0
   cases he
   exact hV0
 | _ =>
   simp only [pK] at hV0 ⊢
   rw [ae3]
   exact ⟨hV0, trivial⟩
theorem adW {β : Type} (off : Nat) : ∀ (l : List β) (n : Nat) (cs : Array β), ((l.zipIdx n).foldl (fun cs (p : β × Nat) => cs.setIfInBounds (off + p.2) p.1) cs).toList = ny cs.toList (off + n) l
 | [], n, cs => rfl
 | v :: r, n, cs => by
   simp only [List.zipIdx_cons, List.foldl_cons, ny]
   rw [adW off r (n + 1)]
   simp [Nat.add_assoc]
theorem akq (off : Nat) (v : Array Value) (cs : Array Value) : (v.zipIdx.foldl (fun cs (c, j) => cs.setIfInBounds (off + j) c) cs).toList = ny cs.toList off v.toList := by
 rw [← Array.foldl_toList]
 have := adW off v.toList 0 cs
 rw [Nat.add_zero] at this
 rw [← this]
 simp [Array.toList_zipIdx]
theorem ahx {xs ys : List AV} {vs us : List Value} (h : VAll L xs vs) (hy : VAll L ys us) {i : Nat} (hfit : i + ys.length ≤ xs.length) : VAll L (ny xs i ys) (ny vs i us) := by
 have h1 := bZ h
 have h2 := bZ hy
 refine DV (by rw [AY, AY, h1]) fun j x hx => ?_
 rw [EY _ _ _ _ hfit] at hx
 rw [EY _ _ _ _ (by omega)]
 split at hx
 ·rename_i hj
  rw [if_pos (by omega)]
  exact iK _ hy hx
 ·rename_i hj
  rw [if_neg (by omega)]
  exact iK _ h hx
def PAll (L : LM) : List (Nat × AV) → List (Nat × Value) → Prop
 | [], [] => True
 | (i, x) :: r, (j, v) :: s => i = j ∧ V L x v ∧ PAll L r s
 | _, _ => False
theorem aay {place : Nat → Option (Nat × Nat)} : ∀ {parts : List (Nat × AV)} {pv : List (Nat × Value)} {cells out : List AV} {cv : Array Value}, PAll L parts pv → VAll L cells cv.toList → aan place cells parts = some out →
 ∃ ov, Instr.fill place cv pv = some ov ∧ VAll L out ov.toList
 | [], [], cells, out, cv, _, hc, h => by
   simp only [aan, Option.some.injEq] at h
   subst h
   exact ⟨cv, rfl, hc⟩
 | (i, x) :: r, (j, v) :: s, cells, out, cv, hp, hc, h => by
   simp only [PAll] at hp
   obtain ⟨rfl, hV, hp⟩ := hp
   simp only [aan, Option.bind_eq_some_iff] at h
   obtain ⟨⟨off, size⟩, hpl, h⟩ := h
   simp only at h
   cases hcond : (gz (cellsOf x) && (Nat.beq (cellsOf x).length size && Nat.ble (off + size) cells.length)) with
   | false => simp [hcond] at h
   | true =>
     rw [hcond, cond_true] at h
     simp only [Bool.and_eq_true] at hcond
     obtain ⟨hac, hs, hle⟩ := hcond
     have hs := aJ hs
     have hle := Nat.le_of_ble_eq_true hle
     obtain ⟨hvc, _⟩ := ZJ hac hV
     have hl := bZ hvc
     have hcl := bZ hc
     have hvs : v.cells.size = size := by rw [← hs, hl]; simp
     obtain ⟨ov, h1, h2⟩ := aay hp (cv := v.cells.zipIdx.foldl (fun cs (c, j) => cs.setIfInBounds (off + j) c) cv) (by
      rw [akq]
      exact ahx hc hvc (by omega)) h
     refine ⟨ov, ?_, h2⟩
     simp only [Instr.fill, hpl]
     have hns : ¬ (off + v.cells.size > cv.size) := by rw [hvs]; simp at hcl; omega
     simp only [ne_eq, hvs, not_true_eq_false, decide_false, Bool.false_or, decide_eq_true_eq]
     rw [hvs] at hns
     rw [if_neg hns]
     exact h1
 | [], _ :: _, _, _, _, hp, _, _ => by simp [PAll] at hp
 | _ :: _, [], _, _, _, hp, _, _ => by simp [PAll] at hp
section
variable [Inhabited aQ]
theorem afb (h : RelL F L st a w) : ∀ (ps : List (Nat × Operand)), PAll L (ps.map fun (i, x) => (i, st.get x)) (ps.map fun (i, x) => (i, a.eval x))
 | [] => by simp [PAll]
 | (i, x) :: r => by simp only [List.map_cons, PAll]; exact ⟨by trivial, h.get x, afb h r⟩
end
theorem ae2 {fs : List Field} (hf : ∀ f ∈ fs, ∃ n, fV P f.type = some n) : (fs.mapM (fun f => Prod.mk f.offset <$> sizeOf f.type) : Sem (List (Nat × Nat))).run P w = .ok (fs.map fun f => (f.offset, (fV P f.type).getD 0)) w := by
 induction fs with
 | nil => simp
 | cons f r ih =>
   obtain ⟨n, hn⟩ := hf f (by simp)
   have ih := ih fun g hg => hf g (by simp [hg])
   simp [List.mapM_cons, kZ hn, ih, hn]
theorem aa2 {p q : Nat → Option (Nat × Nat)} (hpq : ∀ i x, p i = some x → q i = some x) : ∀ {parts : List (Nat × Value)} {cells out : Array Value}, Instr.fill p cells parts = some out → Instr.fill q cells parts = some out
 | [], _, _, h => h
 | (i, v) :: r, cells, out, h => by
   simp only [Instr.fill] at h ⊢
   cases hp : p i with
   | none => rw [hp] at h; simp at h
   | some x =>
     rw [hp] at h
     rw [hpq i x hp]
     simp only at h ⊢
     split at h
     ·simp at h
     ·rename_i hn
      rw [if_neg hn]
      exact aa2 hpq h
theorem agP {fs : List Field} (h : aaw P fs = true) : ∀ f ∈ fs, ∃ n, fV P f.type = some n := by
 induction fs with
 | nil => simp
 | cons g r ih =>
   simp only [aaw, Bool.and_eq_true] at h
   intro f hf
   rcases List.mem_cons.1 hf with rfl | hf
   ·cases hs : fV P f.type with
    | some n => exact ⟨n, rfl⟩
    | none => simp [hs] at h
   ·exact ih h.2 f hf
section
variable [Inhabited aQ]
theorem ak5 {t : TypeId} {parts : Array (Nat × Operand)} (hop : o.op = .build t parts) (h : RelL F L st a w) (hg : Goes F k r next) {X : AV} (hX : acZ P t (parts.toList.map fun (i, x) => (i, st.get x)) = some X) (hk : k (st.put o.dst X) = some r) : o.wp P a w next Q := by
 unfold acZ at hX
 rw [Option.bind_eq_some_iff] at hX
 obtain ⟨z, hz, hX⟩ := hX
 obtain ⟨i, v, hi, hv0, rfl⟩ := uq hz
 have hparts := afb h parts.toList
 have hV0 := KZ L v
 split at hX
 ·rename_i fs hu
  cases hall : aaw P fs.toList with
  | false => simp [hall] at hX
  | true =>
  rw [hall, cond_true, Option.map_eq_some_iff] at hX
  obtain ⟨cs, hfill, rfl⟩ := hX
  have hz2 : VAll L (cellsOf (pK v)) v.cells.toList := MZ
  obtain ⟨ov, h1, h2⟩ := aay hparts hz2 hfill
  have hrunp := ae2 (P := P) (w := w) (agP hall)
  have h1' : Instr.fill (fun x => Option.map (fun f => (f.offset, (fV P f.type).getD 0)) fs[x]?) v.cells (List.map (fun x => (x.fst, a.eval x.snd)) parts.toList) = some ov := by
   refine aa2 (fun j x hx => ?_) h1
   unfold adi at hx
   simp only [Option.bind_eq_some_iff, Option.map_eq_some_iff] at hx
   obtain ⟨f, hf, n, hn, rfl⟩ := hx
   simp at hf
   simp [hf, hn]
  refine eQ (v := .agg ov) (w' := w) ?_ (ak hg h (x := .agg cs) ?_ hk)
  ·have hm : (fs.mapM (fun f => Prod.mk f.offset <$> sizeOf f.type) : Sem (Array (Nat × Nat))).run P w = .ok (fs.map fun f => (f.offset, (fV P f.type).getD 0)) w := by
    rw [Array.mapM_eq_mapM_toList]
    simp [hrunp]
    apply Array.ext'
    simp
   simp [execOp, hop, Instr.build, ww hi hv0, run_underlying hu, hm, h1']
  ·simp only [V]; exact ⟨ov, rfl, h2⟩
 ·rename_i n e hu
  rw [Option.bind_eq_some_iff] at hX
  obtain ⟨s, hs, hX⟩ := hX
  rw [Option.map_eq_some_iff] at hX
  obtain ⟨cs, hfill, rfl⟩ := hX
  have hz2 : VAll L (cellsOf (pK v)) v.cells.toList := MZ
  obtain ⟨ov, h1, h2⟩ := aay hparts hz2 hfill
  refine eQ (v := .agg ov) (w' := w) ?_ (ak hg h (x := .agg cs) ?_ hk)
  ·simp [execOp, hop, Instr.build, ww hi hv0, run_underlying hu, kZ hs, h1]
  ·simp only [V]; exact ⟨ov, rfl, h2⟩
 ·simp at hX
end
theorem ada (z : List AV) : ∀ (n i : Nat), (Gx z n)[i]? = if i < n * z.length then z[i % z.length]? else none
 | 0, i => by simp [Gx]
 | n + 1, i => by
   simp only [Gx]
   by_cases h : i < z.length
   ·rw [List.getElem?_append_left h, if_pos (by rw [Nat.add_mul]; omega), Nat.mod_eq_of_lt h]
   ·rw [List.getElem?_append_right (by omega), ada z n]
    by_cases h2 : i - z.length < n * z.length
    ·rw [if_pos h2, if_pos (by rw [Nat.add_mul]; omega), ← Nat.mod_eq_sub_mod (by omega)]
    ·rw [if_neg h2, if_neg (by rw [Nat.add_mul]; omega)]
theorem aeO (z : List AV) (n : Nat) : (Gx z n).length = n * z.length := by
 induction n with
 | zero => simp [Gx]
 | succ n ih => simp [Gx, ih, Nat.add_mul, Nat.add_comm]
theorem acW {z : List AV} {zc : Array Value} (h : VAll L z zc.toList) (n : Nat) : VAll L (Gx z n) ((Array.range (n * z.length)).map (zc[· % zc.size]!)).toList := by
 have hl := bZ h
 have hl' : z.length = zc.size := by simpa using hl
 refine DV (by simp [aeO]) fun i x hx => ?_
 rw [ada] at hx
 split at hx
 ·rename_i hi
  obtain ⟨v, hv, hV⟩ := iK _ h hx
  refine ⟨v, ?_, hV⟩
  have hi2 : i < (Array.range (n * z.length)).size := by simpa using hi
  have hv' : zc[i % zc.size]? = some v := by rw [← hl']; simpa using hv
  simp [hi]
  rw [getElem!_def, hv']
 ·simp at hx
theorem Zw (t : Ty) : ∀ {n : Nat} {l : List AV} {xs : List t.den}, UV t n l = some xs → xs.flatMap t.enc = l ∧ xs.length = n
 | 0, [], xs, h => by simp only [UV, Option.some.injEq] at h; subst h; exact ⟨rfl, rfl⟩
 | 0, _ :: _, xs, h => by simp [UV] at h
 | n + 1, l, xs, h => by
   simp only [UV, Option.bind_eq_some_iff, Option.map_eq_some_iff] at h
   obtain ⟨x, hx, ys, hys, rfl⟩ := h
   obtain ⟨h1, h2⟩ := Zw t hys
   refine ⟨?_, by simp [h2]⟩
   rw [List.flatMap_cons, QK t _ x hx, h1, List.take_append_drop]
section
variable [Inhabited aQ]
theorem RelL.newSlice (h : RelL F L st a w) {id : Nat} (hid : F.low ≤ id) {blk : Blk} {arr : Array Value} (hv : VAll L blk.flat arr.toList) (h1 : ∀ u ∈ arr, u.oneCell' = true) (hn : AV.namesAll id blk.flat = false) (hm : blk.mode = 2) (hlen : blk.n ≤ maxLen) :
 ∃ L', RelL F L' (st.fresh id blk) a (w.alloc (.cells arr blk.e)) ∧ V L' (.sl id) (.slice (some ⟨w.heap.size, 0, none⟩) blk.n blk.n) := by
 refine ⟨_, h.new hid hv h1 hn hm, ?_⟩
 simp only [V]
 refine ⟨⟨w.heap.size, 0, blk.w, blk.n, 2, arr.size, true, undef⟩, by simp [LM.set], some ⟨w.heap.size, 0, none⟩, blk.n, rfl, ⟨Nat.le_refl _, fun _ => ⟨rfl, fun _ => ⟨?_, hlen⟩⟩, fun hb => by simp at hb⟩, fun h0 => by simp at h0⟩
 have h2 := bZ hv
 rw [aaJ] at h2
 simpa using h2
end
theorem abH {b : Blk} (hb : (∃ m e t l, b = .rows m e t l) ∨ gz b.flat = true) {arr : Array Value} (hv : VAll L b.flat arr.toList) : ∀ u ∈ arr, u.oneCell' = true := by
 intro u hu
 have hmem : u ∈ arr.toList := by simpa using hu
 obtain ⟨i, hi⟩ := List.mem_iff_getElem?.1 hmem
 have hl := bZ hv
 have hlt : i < b.flat.length := by rw [hl]; exact (List.getElem?_eq_some_iff.1 hi).1
 obtain ⟨v, hv', hV⟩ := iK i hv (List.getElem?_eq_getElem hlt)
 rw [hi] at hv'
 have := Option.some.inj hv'
 subst this
 rcases hb with ⟨m, e, t, l, rfl⟩ | hb
 ·obtain ⟨s, hs⟩ := WV t l i _ (List.getElem?_eq_getElem hlt)
  rw [(xq hs).1 hV]
  exact Pz hs
 ·exact (aej (aam hb _ (List.getElem_mem hlt)) hV).1
section
variable [Inhabited aQ]
theorem afS {T : TypeId} {len : Nat} {parts : Array (Nat × Operand)} (hop : o.op = .buildSlice T len parts) (h : RelL F L st a w) (hg : Goes F k r next) {id : Nat} (hid : F.low ≤ id) {b : Blk} (hb : RZ P T len (parts.toList.map fun (i, x) => (i, st.get x)) = some b)
 (hn : AV.namesAll id b.flat = false) (hk : k ((st.fresh id b).put o.dst (.sl id)) = some r) : o.wp P a w next Q := by
 unfold RZ at hb
 split at hb
 ·rename_i e hu
  rw [Option.bind_eq_some_iff] at hb
  obtain ⟨s, hs, hb⟩ := hb
  cases hle : Nat.ble (len * s) 4096 with
  | false => simp [hle] at hb
  | true =>
    rw [hle, cond_true, Option.bind_eq_some_iff] at hb
    have hle := Nat.le_of_ble_eq_true hle
    obtain ⟨z, hz, hb⟩ := hb
    cases hzc : (gz (cellsOf z) && Nat.beq (cellsOf z).length s) with
    | false => simp [hzc] at hb
    | true =>
      rw [hzc, cond_true, Option.bind_eq_some_iff] at hb
      simp only [Bool.and_eq_true] at hzc
      have hzs := aJ hzc.2
      obtain ⟨cells, hfill, hb⟩ := hb
      obtain ⟨i, v, hi, hv0, rfl⟩ := uq hz
      have hcz := MZ (L := L) (v := v)
      have hparts := afb h parts.toList
      have hzv := acW hcz len
      rw [hzs] at hzv
      obtain ⟨ov, h1, h2⟩ := aay hparts hzv hfill
      have hexec : (execOp a.eval o).run P w = .ok (.value (.slice (some ⟨w.heap.size, 0, none⟩) len len)) (w.alloc (.cells ov e)) := by
       have hcond : ¬ len * s > 2 ^ 24 := by omega
       have hzl : v.cells.size = s := by
        have := bZ hcz
        rw [hzs] at this
        simpa using this.symm
       by_cases h0 : len * s = 0
       ·have e1 : (Array.range (len * s)).map (v.cells[· % v.cells.size]!) = ((Array.range (len * s)).map ((#[] : Array Value)[· % (#[] : Array Value).size]!)) := by rw [h0]; simp
        rw [e1] at h1
        simp only [execOp, hop, Instr.buildSlice, Sem.run_bind, run_underlying hu, Result.andThen_ok, kZ hs, if_neg hcond, if_pos h0, Sem.run_pure]
        rw [show (Array.map (fun x => (x.fst, a.eval x.snd)) parts).toList = parts.toList.map fun (i, x) => (i, a.eval x) by simp, h1]
        simp [newRow]
       ·simp only [execOp, hop, Instr.buildSlice, Sem.run_bind, run_underlying hu, Result.andThen_ok, kZ hs, if_neg hcond, if_neg h0, Sem.run_pure, ww hi hv0]
        rw [show (Array.map (fun x => (x.fst, a.eval x.snd)) parts).toList = parts.toList.map fun (i, x) => (i, a.eval x) by simp, h1]
        simp [newRow]
      have hlen2 := bZ h2
      unfold agD at hb
      split at hb
      ·rename_i t ht
       cases htw : Nat.beq t.w s with
       | false => simp [htw] at hb
       | true =>
         rw [htw, cond_true, Option.map_eq_some_iff] at hb
         obtain ⟨l, hl, rfl⟩ := hb
         obtain ⟨hf, hln⟩ := Zw t hl
         have hv : VAll L (Blk.rows 2 e t l).flat ov.toList := by simp only [Blk.flat, hf]; exact h2
         have hcap : (Blk.rows 2 e t l).n ≤ maxLen := by
          have hws := aJ htw
          have := IW t
          have : len ≤ len * s := Nat.le_mul_of_pos_right _ (by omega)
          simp only [Blk.n, hln, maxLen]
          omega
         obtain ⟨L', hrel, hsl⟩ := h.newSlice hid hv (abH (.inl ⟨_, _, _, _, rfl⟩) hv) hn rfl hcap
         have en : (Blk.rows 2 e t l).n = len := hln
         rw [en] at hsl
         exact eQ hexec (ak hg hrel hsl hk)
      ·cases hcl : (gz cells && (Nat.beq cells.length len && Nat.beq s 1)) with
       | false => simp [hcl] at hb
       | true =>
         rw [hcl, cond_true] at hb
         simp only [Bool.and_eq_true] at hcl
         obtain ⟨hac, hcl, hs1⟩ := hcl
         have hcl := aJ hcl
         have hs1 := aJ hs1
         simp at hb
         subst hb
         have hv : VAll L (Blk.mix 2 e cells).flat ov.toList := h2
         have hle2 : len ≤ 4096 := by rw [hs1, Nat.mul_one] at hle; exact hle
         obtain ⟨L', hrel, hsl⟩ := h.newSlice hid hv (abH (b := .mix 2 e cells) (.inr hac) hv) hn rfl (by simp only [Blk.n, hcl, maxLen]; omega)
         have en : (Blk.mix 2 e cells).n = len := hcl
         rw [en] at hsl
         exact eQ hexec (ak hg hrel hsl hk)
 ·simp at hb
end
theorem abv (t : Ty) (x : t.den) (n : Nat) : (List.replicate n x).flatMap t.enc = Gx (t.enc x) n := by
 induction n with
 | zero => rfl
 | succ n ih => rw [List.replicate_succ, List.flatMap_cons, ih]; rfl
theorem ac9 {n : Int} (h0 : 0 ≤ n) (h1 : n ≤ 9223372036854775807) : IntKind.i64.wrap n = n := by
 exact IntWalk.i64_in n ⟨by omega, h1⟩
theorem ahB {x y : Operand} (h : acj x y = true) : a.eval x = a.eval y := by
 unfold acj at h
 split at h
 ·rw [aJ h]
 ·rw [aJ h]
 ·simp at h
section
variable [Inhabited aQ]
theorem agp {T : TypeId} {x y : Operand} (hop : o.op = .makeSlice T x y) (h : RelL F L st a w) (hg : Goes F k r next) {e : TypeId} (hu : P.underlying T = some (.slice e)) {n : Int} (hx : st.get x = .int .i64 n) (hxy : acj x y = true) {t : Ty} {z : AV} (hz : rQ P e = some z)
 {d : t.den} (hd : t.dec (cellsOf z) = some d) (hs : fV P e = some t.w) (hby : vk P e = true) (h0 : 0 ≤ n) (h1 : n ≤ (big : Int)) {id : Nat} (hid : F.low ≤ id)
 (hk : k ((st.fresh id (.rows 2 e t (List.replicate n.toNat d))).put o.dst (.sl id)) = some r) : o.wp P a w next Q := by
 have hv := h.get x
 rw [hx] at hv
 simp only [V] at hv
 have hv2 : a.eval y = .int .i64 n := by rw [← ahB hxy, hv]
 obtain ⟨i, v, hi, hv0, rfl⟩ := uq hz
 have he := QK t _ d hd
 have hcz := MZ (L := L) (v := v)
 rw [← he] at hcz
 have hbytes : i.bytes ≤ 128 := by
  unfold vk at hby
  rw [hi] at hby
  exact Nat.le_of_ble_eq_true hby
 obtain ⟨i2, hi2, his⟩ := RQ hs
 rw [hi] at hi2
 have := Option.some.inj hi2
 subst this
 unfold big at h1
 have hw := ac9 h0 (by omega)
 have hprod : (i.bytes : Int) * n ≤ 281474976710656 := by
  have ha : (i.bytes : Int) * n ≤ 128 * n := Int.mul_le_mul_of_nonneg_right (by omega) h0
  omega
 have hzv := acW hcz n.toNat
 rw [oJ] at hzv
 have hlen : (Blk.rows 2 e t (List.replicate n.toNat d)).n = n.toNat := by simp [Blk.n]
 have hvv : VAll L (Blk.rows 2 e t (List.replicate n.toNat d)).flat ((Array.range (n.toNat * t.w)).map (v.cells[· % v.cells.size]!)).toList := by
  simp only [Blk.flat, abv]
  exact hzv
 obtain ⟨L', hrel, hsl⟩ := h.newSlice hid hvv (abH (.inl ⟨_, _, _, _, rfl⟩) hvv) (by simp only [Blk.flat]; exact aiQ _ _ _) rfl (by rw [hlen]; simp only [maxLen]; omega)
 rw [hlen] at hsl
 refine eQ (v := .slice (some ⟨w.heap.size, 0, none⟩) n.toNat n.toNat) (w' := w.alloc (.cells ((Array.range (n.toNat * t.w)).map (v.cells[· % v.cells.size]!)) e)) ?_ (ak hg hrel hsl hk)
 have hc1 : ¬ (n < 0) := by omega
 have hc2 : ¬ ((281474976710656 : Int) < (i.bytes : Int) * n) := by omega
 have hinfo : (typeInfo e).run P w = .ok i w := by simp [typeInfo, hi]
 by_cases hn0 : n.toNat * t.w = 0
 ·have e1 : (Array.range (n.toNat * t.w)).map (v.cells[· % v.cells.size]!) = ((Array.range (n.toNat * t.w)).map ((#[] : Array Value)[· % (#[] : Array Value).size]!)) := by rw [hn0]; simp
  rw [e1]
  simp [execOp, hop, Instr.makeSlice, run_underlying hu, hv, hv2, asInt, asIntOf, hinfo, hw, hc1, hc2, kZ hs, hn0, newRow]
 ·simp [execOp, hop, Instr.makeSlice, run_underlying hu, hv, hv2, asInt, asIntOf, hinfo, hw, hc1, hc2, kZ hs, hn0, newRow, ww hi hv0]
end
theorem adO (T u ty e : TypeId) (i : TypeInfo) (z : Value) (ht : P.underlying T = some (.slice e)) {ik : IntKind} (hu : P.underlying u = some (.int ik)) (hi : P.info? e = some i) (hz : i.zero = some z) (ad : Option Addr) (n : Nat)
 (hn : 1 ≤ n) (hb : n ≤ big) (hby : i.bytes ≤ 128) (hsz : i.size ≠ 0) :
 (Builtin.append_ #[T, u] ty #[.slice ad 0 0, .int .i64 n]).run P w =
   .ok (.slice (some ⟨w.heap.size, 0, none⟩) n (grownCap w n 0 e)) (w.drew.alloc (.cells (Builtin.zeroCells z.cells n ++ Builtin.zeroCells z.cells (grownCap w n 0 e - n)) e)) := by
 unfold big at hb
 have hw := ac9 (n := (n : Int)) (by omega) (by omega)
 have h1 : ¬ ((n : Int) < 0) := by omega
 have hp : (n : Int) * (i.bytes : Int) ≤ n * 128 := Int.mul_le_mul_of_nonneg_left (by omega) (by omega)
 have h2 : ¬ ((281474976710656 : Int) < n * i.bytes) := by omega
 have hne2 : n ≠ 0 := by omega
 have hns : ¬ (n * i.size = 0) := Nat.mul_ne_zero hne2 hsz
 have h63 : ¬ ((9223372036854775807 : Int) < (n : Int)) := by omega
 have hfit : Builtin.nextslicecap n 0 * i.bytes ≤ 281474976710656 := growslice_fits (by omega) (by
  have : n * i.bytes ≤ 1099511627776 * 128 := Nat.mul_le_mul hb hby
  omega)
 have h48 : ¬ (281474976710656 < Builtin.nextslicecap n 0 * i.bytes) := by omega
 have hf : ∀ w : World, (Builtin.firstCells i.size 0 (.slice ad 0 0)).run P w = .ok #[] w := fun w => by
  cases ad <;> simp [Builtin.firstCells, loadCells, loadCellsFrom]
 simp [Builtin.append_, run_underlying ht, run_underlying hu, sizeOf, typeInfo, zeroValue, hi, hz, asInt, asIntOf, hw, h1, h2, hne2, hns, h63, h48, Question.forced, hf, newRow, grownCap]
section
variable [Inhabited aQ]
theorem ad8 {c : Call} (hop : o.op = .call c) (hcal : c.callee = .builtin .append) {s x : Operand} (hargs : c.args.toList = [s, x]) {T u : TypeId} (htys : c.argTypes.toList = [T, u]) (h : RelL F L st a w) (hg : Goes F k r next)
 {e : TypeId} (ht : P.underlying T = some (.slice e)) {ik : IntKind} (hu : P.underlying u = some (.int ik)) {t : Ty} {z : AV} (hz : rQ P e = some z) {d : t.den} (hd : t.dec (cellsOf z) = some d) (hby : vk P e = true) (hsz : fV P e = some t.w)
 (hs : st.get s = .nilsl ∨ st.get s = .emp) {n : Int} (hx : st.get x = .int .i64 n) (h1 : 1 ≤ n) (h2 : n ≤ (big : Int)) {id : Nat} (hid : F.low ≤ id)
 (hk : k ((st.fresh id (.rows 2 e t (List.replicate n.toNat d))).put o.dst (.sl id)) = some r) : o.wp P a w next Q := by
 obtain ⟨N, rfl⟩ : ∃ N : Nat, n = (N : Int) := ⟨n.toNat, by omega⟩
 rw [Int.toNat_natCast] at hk
 have hN : N ≤ big := by omega
 have hvx := h.get x
 rw [hx] at hvx
 simp only [V] at hvx
 obtain ⟨i, v, hi, hv0, rfl⟩ := uq hz
 have he := QK t _ d hd
 have hcz := MZ (L := L) (v := v)
 rw [← he] at hcz
 have hcw : v.cells.size = t.w := by
  have := bZ hcz
  rw [oJ] at this
  simpa using this.symm
 have hbytes : i.bytes ≤ 128 := by
  unfold vk at hby
  rw [hi] at hby
  exact Nat.le_of_ble_eq_true hby
 obtain ⟨i2, hi2, his⟩ := RQ hsz
 rw [hi] at hi2
 have := Option.some.inj hi2
 subst this
 have hwp := IW t
 have hv := h.get s
 obtain ⟨ad, hev⟩ : ∃ ad, a.eval s = .slice ad 0 0 := by
  rcases hs with hs | hs <;> rw [hs] at hv <;> simp only [V] at hv
  ·exact ⟨_, hv⟩
  ·exact hv
 have e1 : c.args = #[s, x] := by rw [← Array.toList_inj]; exact hargs
 have e2 : c.argTypes = #[T, u] := by rw [← Array.toList_inj]; exact htys
 have hrun := adO (w := w) T u o.type e i v ht hu hi hv0 ad N (by omega) hN hbytes (by rw [his]; omega)
 have hge := grownCap_ge w N 0 e
 have hcm : grownCap w N 0 e ≤ maxLen := grownCap_le_maxLen w N 0 e (by simp only [maxLen]; unfold big at hN; omega)
 generalize hgc : grownCap w N 0 e = gc at hrun hge hcm
 have hzl : (Builtin.zeroCells v.cells N).toList.length = N * t.w := by simp [size_zeroCells, hcw]
 have harr := afz (zc := v.cells) (s := t.w) (need := N) (c := gc) hcw (Builtin.zeroCells v.cells N).toList hzl hge
 rw [Array.toArray_toList] at harr
 have hV : VAll L ((List.replicate N d).flatMap t.enc) (Builtin.zeroCells v.cells N).toList := by
  rw [abv]
  have := acW hcz N
  rw [oJ] at this
  unfold Builtin.zeroCells
  rw [hcw] at this ⊢
  exact this
 obtain ⟨hVA, hone⟩ := ZX t (List.replicate N d) (L' := L) hV
 generalize harrdef : Builtin.zeroCells v.cells N ++ Builtin.zeroCells v.cells (gc - N) = arr at hrun harr
 have hfl : ((List.replicate N d).flatMap t.enc).length = N * t.w := by rw [gZ, List.length_replicate]
 let l' : Loc := ⟨w.heap.size, 0, t.w, N, 2, arr.size, true, undef⟩
 have hrel : RelL F (L.set id l') (st.fresh id (.rows 2 e t (List.replicate N d))) a (w.drew.alloc (.cells arr e)) := by
  have hstep : Step w (w.drew.alloc (.cells arr e)) (fun _ => False) := ⟨rfl, rfl, rfl, by simp, fun k hk _ => Below.heap_alloc w.drew _ k hk, fun _ => Nat.le_succ _⟩
  refine h.fresh (S := fun _ => False) hstep hid (fun _ _ _ _ _ _ _ _ h => h) (fun _ h => h.elim) ?_ ?_
  ·refine ⟨rfl, by simp [l', Blk.n], rfl, by simp [Blk.mode], fun _ j av hj => ?_, fun _ hm => by simp [Blk.mode] at hm, fun _ _ => ⟨rfl, arr, GV w.drew _, rfl, ?_⟩, fun _ hm => by simp [Blk.mode] at hm, fun _ _ => h.below.size, fun hb => by simp [l'] at hb⟩
   ·obtain ⟨v', hv', hVv⟩ := iK j (ZX t (List.replicate N d) (L' := L.set id l') hV).1 hj
    refine ⟨v', ?_, hVv, hone v' (List.mem_of_getElem? hv')⟩
    show (w.drew.alloc (.cells arr e)).cell? ⟨w.drew.heap.size, 0 + j, none⟩ = some v'
    rw [UY, Nat.zero_add, ← harrdef]
    have hj2 : j < (Builtin.zeroCells v.cells N).toList.length := (List.getElem?_eq_some_iff.1 hv').1
    rw [Array.getElem?_append_left (by simpa using hj2)]
    simpa using hv'
   ·show ((List.replicate N d).flatMap t.enc).length ≤ arr.size
    rw [hfl, harr]
    exact Nat.mul_le_mul_right _ hge
  ·intro _ _ j b l2 hj hlk hL2 hbk2 hm2
   obtain ⟨l3, hL3, hb3⟩ := h.heap j b hlk
   rw [hL2] at hL3
   have := Option.some.inj hL3
   subst this
   obtain ⟨_, cur2, hc2, _⟩ := hb3.own hbk2 (by rw [← hb3.hm]; exact hm2)
   have := yz hc2
   show l2.b ≠ w.heap.size
   omega
 refine eQ (v := .slice (some ⟨w.heap.size, 0, none⟩) N gc) (w' := w.drew.alloc (.cells arr e)) ?_ (ak hg hrel (x := .sl id) ?_ hk)
 ·simp [execOp, hop, resolve, hcal, invoke, builtin, e1, e2, hev, hvx, hrun]
 ·simp only [V]
  exact ⟨l', by simp [LM.set], _, gc, rfl, ⟨hge, fun _ => ⟨rfl, fun _ => ⟨harr.symm, hcm⟩⟩, fun hb => by simp [l'] at hb⟩, fun h0 => by simp [l'] at h0⟩
end
end Go.Ev
