/- The evaluator's operations held against the model's: memory. -/
import Derived.Test.YthjehhoafmnmkaaEvRel2
namespace Go.Ev
open Go.RowKit
variable {P : Program} {w : World} {F : Fix} {L : LM} {st : St} {a : Act}
theorem ab8 {t : TypeId} {b : Bool} (h : aggT P t = some b) : (isAgg t).run P w = .ok b w := by
 unfold aggT at h
 cases hu : P.underlying t with
 | none => simp [hu] at h
 | some d =>
   rw [hu] at h
   unfold isAgg
   simp only [Sem.run_bind, run_underlying hu, Result.andThen_ok]
   cases d <;> simp at h <;> subst h <;> simp
theorem FV {t : TypeId} {n : Nat} (h : dX P t = some n) : ∃ i, P.info? t = some i ∧ i.size = n := by
 unfold dX at h
 simpa using h
theorem iK {t : TypeId} {n : Nat} (h : dX P t = some n) : (sizeOf t).run P w = .ok n w := by
 obtain ⟨i, hi, rfl⟩ := FV h
 simp [sizeOf, typeInfo, hi]
theorem qV {t : TypeId} {z : AV} (h : nY P t = some z) : ∃ i v, P.info? t = some i ∧ i.zero = some v ∧ mW v = z := by
 unfold nY at h
 simp only [Option.bind_eq_some_iff, Option.map_eq_some_iff] at h
 obtain ⟨i, hi, v, hv, e⟩ := h
 exact ⟨i, v, hi, hv, e⟩
theorem ry {t : TypeId} {i : TypeInfo} {v : Value} (hi : P.info? t = some i) (hz : i.zero = some v) : (zeroValue t).run P w = .ok v w := by
 simp [zeroValue, typeInfo, hi, hz]
theorem aaO {x : AV} {v : Value} (hx : xy x = true) (h : V L x v) : v.oneCell' = true ∧ v.cells = #[v] := by
 cases x <;> simp [xy] at hx <;> simp only [V] at h
 all_goals first
  | (subst h; exact ⟨rfl, rfl⟩)
  | (obtain ⟨_, rfl⟩ := h; exact ⟨rfl, rfl⟩)
  | (obtain ⟨_, _, rfl⟩ := h; exact ⟨rfl, rfl⟩)
  | (obtain ⟨_, rfl, _⟩ := h; exact ⟨rfl, rfl⟩)
  | (obtain ⟨_, _, _, _, rfl, _⟩ := h; exact ⟨rfl, rfl⟩)
  | (obtain ⟨_, _, _, _, _, rfl, _⟩ := h; exact ⟨rfl, rfl⟩)
theorem MV {l : List AV} (h : gZ l = true) : ∀ x ∈ l, xy x = true := by
 induction l with
 | nil => simp
 | cons y r ih =>
   simp only [gZ, Bool.and_eq_true] at h
   intro x hx
   rcases List.mem_cons.1 hx with rfl | hx
   ·exact h.1
   ·exact ih h.2 x hx
theorem MQ {x : AV} {v : Value} (hx : gZ (cellsOf x) = true) (h : V L x v) : VAll L (cellsOf x) v.cells.toList ∧ ∀ u ∈ v.cells, u.oneCell' = true := by
 by_cases hg : ∃ l, x = .agg l
 ·obtain ⟨l, rfl⟩ := hg
  simp only [V] at h
  obtain ⟨arr, rfl, h⟩ := h
  refine ⟨h, fun u hu => ?_⟩
  obtain ⟨i, hi, rfl⟩ := Array.mem_iff_getElem.1 hu
  have hl := bz h
  have hil : i < (cellsOf (AV.agg l)).length := by rw [show cellsOf (AV.agg l) = l from rfl, hl]; simpa [Value.cells] using hi
  obtain ⟨y, hy⟩ : ∃ y, (cellsOf (AV.agg l))[i]? = some y := ⟨_, List.getElem?_eq_getElem hil⟩
  obtain ⟨u, hu, hv⟩ := gK i h hy
  have hcell := MV hx y (List.mem_of_getElem? hy)
  have := (aaO hcell hv).1
  have e : arr[i]? = some u := by simpa using hu
  have e2 : arr[i]? = some ((Value.agg arr).cells[i]) := Array.getElem?_eq_getElem hi
  rw [e] at e2
  exact (Option.some.inj e2) ▸ this
 ·have e : cellsOf x = [x] := by
   cases x <;> first | rfl | exact absurd ⟨_, rfl⟩ hg
  rw [e] at hx ⊢
  have hc : xy x = true := by simpa [gZ] using hx
  obtain ⟨h1, h2⟩ := aaO hc h
  rw [h2]
  exact ⟨by simp [VAll, h], fun u hu => by simp at hu; exact hu ▸ h1⟩
theorem ae2 {k : IntKind} {l : List AV} {ns : List Int} (h : QX k l = some ns) : l = ns.map (AV.int k) := by
 induction l generalizing ns with
 | nil => simp [QX] at h; subst h; rfl
 | cons x r ih =>
   match x, h with
   | .int k' n, h =>
     simp only [QX] at h
     split at h
     ·rename_i e
      subst e
      simp only [Option.map_eq_some_iff] at h
      obtain ⟨m, hm, rfl⟩ := h
      simp [ih hm]
     ·simp at h
theorem afv (k : IntKind) (ns : List Int) : (ns.flatMap (Ty.int k).enc) = ns.map (AV.int k) := by
 induction ns with
 | nil => rfl
 | cons n r ih => rw [List.flatMap_cons, ih]; rfl
theorem uX (m : Nat) (e : TypeId) (l : List AV) : (kZ m e l).flat = l ∧ (kZ m e l).w = 1 ∧ (kZ m e l).n = l.length ∧ (kZ m e l).mode = m ∧ (kZ m e l).e = e := by
 unfold kZ
 split
 ·rename_i k n r
  split
  ·rename_i ns hns
   have := ae2 hns
   subst this
   refine ⟨?_, rfl, by simp [Blk.n], rfl, rfl⟩
   exact afv k (n :: ns)
  ·exact ⟨rfl, rfl, rfl, rfl, rfl⟩
 ·exact ⟨rfl, rfl, rfl, rfl, rfl⟩
theorem xx (w : World) (o : Obj) : (w.alloc o).heap[w.heap.size]? = some o := by
 show (w.heap.push o)[w.heap.size]? = _
 simp
theorem Gv (w : World) (arr : Array Value) (e : TypeId) (i : Nat) : (w.alloc (.cells arr e)).cell? ⟨w.heap.size, i, none⟩ = arr[i]? := by
 simp only [World.cell?, xx]
 simp
theorem ace {id : Nat} {l : Loc} {xs : List AV} {vs : List Value} (hn : AV.namesAll id xs = false) (h : VAll L xs vs) : VAll (L.set id l) xs vs := aaP.go xs vs hn h
section
variable [Inhabited az]
theorem RelL.new (h : RelL F L st a w) {id : Nat} (hid : F.low ≤ id) {blk : Blk} {arr : Array Value} (hv : VAll L blk.flat arr.toList) (h1 : ∀ u ∈ arr, u.oneCell' = true)
 (hn : AV.namesAll id blk.flat = false) (hm : blk.mode = 2) :
 RelL F (L.set id ⟨w.heap.size, 0, blk.w, blk.n, 2, arr.size, true, undef⟩) (st.fresh id blk) a (w.alloc (.cells arr blk.e)) := by
 refine h.fresh (S := fun _ => False) (Step.alloc w _ _) hid (fun _ _ _ _ _ _ _ _ h => h) (fun _ h => h.elim) ?_ (fun _ _ j b l hj hlook hl hb hm => ?_) (hnm := by cases blk <;> first | rfl | (simp [Blk.mode] at hm))
 ·have hlen := bz hv
  refine ⟨rfl, rfl, hm.symm, by omega, fun _ i av hi => ?_, fun _ hm0 => by omega, fun _ _ => ⟨rfl, arr, xx _ _, rfl, by rw [hlen]; simp⟩, fun _ hm1 => by omega, fun _ _ => h.below.size, fun hb => by simp at hb⟩
  obtain ⟨v, hv', hV⟩ := gK i (ace (l := ⟨w.heap.size, 0, blk.w, blk.n, 2, arr.size, true, undef⟩) hn hv) hi
  refine ⟨v, ?_, hV, ?_⟩
  ·rw [Nat.zero_add, Gv]
   simpa using hv'
  ·have : v ∈ arr.toList := List.mem_of_getElem? hv'
   exact h1 v (by simpa using this)
 ·obtain ⟨l2, hl2, hbl⟩ := h.heap j b hlook
  rw [hl] at hl2
  have e := Option.some.inj hl2
  subst e
  obtain ⟨_, cur, hc, _⟩ := hbl.own hb (by rw [← hbl.hm]; exact hm)
  have := tK hc
  show l.b ≠ w.heap.size
  omega
end
end Go.Ev
