/- The evaluator's operations held against the model's: memory. -/
import Derived.Test.YtbopdbpjmlmngaaGreatEvRel2
namespace Go.Ev
open Go.RowKit
variable {P : Program} {w : World} {F : Fix} {L : LM} {st : St} {a : Act}
theorem anm {t : TypeId} {b : Bool} (h : aggT P t = some b) : (isAgg t).run P w = .ok b w := by
 unfold aggT at h
 cases hu : P.underlying t with
 | none => simp [hu] at h
 | some d =>
   rw [hu] at h
   unfold isAgg
   simp only [Sem.run_bind, run_underlying hu, Result.andThen_ok]
   cases d <;> simp at h <;> subst h <;> simp
theorem adA {t : TypeId} {n : Nat} (h : lK P t = some n) : ∃ i, P.info? t = some i ∧ i.size = n := by
 unfold lK at h
 simpa using h
theorem xZ {t : TypeId} {n : Nat} (h : lK P t = some n) : (sizeOf t).run P w = .ok n w := by
 obtain ⟨i, hi, rfl⟩ := adA h
 simp [sizeOf, typeInfo, hi]
theorem Rk {t : TypeId} {z : AV} (h : Kv P t = some z) : ∃ i v, P.info? t = some i ∧ i.zero = some v ∧ Fv v = z := by
 unfold Kv at h
 simp only [Option.bind_eq_some_iff, Option.map_eq_some_iff] at h
 obtain ⟨i, hi, v, hv, e⟩ := h
 exact ⟨i, v, hi, hv, e⟩
theorem VX {t : TypeId} {i : TypeInfo} {v : Value} (hi : P.info? t = some i) (hz : i.zero = some v) : (zeroValue t).run P w = .ok v w := by
 simp [zeroValue, typeInfo, hi, hz]
theorem alm {x : AV} {v : Value} (hx : aaP x = true) (h : V L x v) : v.oneCell' = true ∧ v.cells = #[v] := by
 cases x <;> simp [aaP] at hx <;> simp only [V] at h
 all_goals first
  | (subst h; exact ⟨rfl, rfl⟩)
  | (obtain ⟨_, rfl⟩ := h; exact ⟨rfl, rfl⟩)
  | (obtain ⟨_, _, rfl⟩ := h; exact ⟨rfl, rfl⟩)
  | (obtain ⟨_, rfl, _⟩ := h; exact ⟨rfl, rfl⟩)
  | (obtain ⟨_, _, _, _, rfl, _⟩ := h; exact ⟨rfl, rfl⟩)
  | (obtain ⟨_, _, _, _, _, rfl, _⟩ := h; exact ⟨rfl, rfl⟩)
theorem agu {l : List AV} (h : rQ l = true) : ∀ x ∈ l, aaP x = true := by
 induction l with
 | nil => simp
 | cons y r ih =>
   simp only [rQ, Bool.and_eq_true] at h
   intro x hx
   rcases List.mem_cons.1 hx with rfl | hx
   ·exact h.1
   ·exact ih h.2 x hx
theorem ajC {x : AV} {v : Value} (hx : rQ (cellsOf x) = true) (h : V L x v) : VAll L (cellsOf x) v.cells.toList ∧ ∀ u ∈ v.cells, u.oneCell' = true := by
 by_cases hg : ∃ l, x = .agg l
 ·obtain ⟨l, rfl⟩ := hg
  simp only [V] at h
  obtain ⟨arr, rfl, h⟩ := h
  refine ⟨h, fun u hu => ?_⟩
  obtain ⟨i, hi, rfl⟩ := Array.mem_iff_getElem.1 hu
  have hl := jW h
  have hil : i < (cellsOf (AV.agg l)).length := by rw [show cellsOf (AV.agg l) = l from rfl, hl]; simpa [Value.cells] using hi
  obtain ⟨y, hy⟩ : ∃ y, (cellsOf (AV.agg l))[i]? = some y := ⟨_, List.getElem?_eq_getElem hil⟩
  obtain ⟨u, hu, hv⟩ := rJ i h hy
  have hcell := agu hx y (List.mem_of_getElem? hy)
  have := (alm hcell hv).1
  have e : arr[i]? = some u := by simpa using hu
  have e2 : arr[i]? = some ((Value.agg arr).cells[i]) := Array.getElem?_eq_getElem hi
  rw [e] at e2
  exact (Option.some.inj e2) ▸ this
 ·have e : cellsOf x = [x] := by
   cases x <;> first | rfl | exact absurd ⟨_, rfl⟩ hg
  rw [e] at hx ⊢
  have hc : aaP x = true := by simpa [rQ] using hx
  obtain ⟨h1, h2⟩ := alm hc h
  rw [h2]
  exact ⟨by simp [VAll, h], fun u hu => by simp at hu; exact hu ▸ h1⟩
theorem arY {k : IntKind} {l : List AV} {ns : List Int} (h : ag8 k l = some ns) : l = ns.map (AV.int k) := by
 induction l generalizing ns with
 | nil => simp [ag8] at h; subst h; rfl
 | cons x r ih =>
   match x, h with
   | .int k' n, h =>
     simp only [ag8] at h
     split at h
     ·rename_i e
      subst e
      simp only [Option.map_eq_some_iff] at h
      obtain ⟨m, hm, rfl⟩ := h
      simp [ih hm]
     ·simp at h
theorem aui (k : IntKind) (ns : List Int) : (ns.flatMap (Ty.int k).enc) = ns.map (AV.int k) := by
 induction ns with
 | nil => rfl
 | cons n r ih => rw [List.flatMap_cons, ih]; rfl
theorem TV (m : Nat) (e : TypeId) (l : List AV) : (zW m e l).flat = l ∧ (zW m e l).w = 1 ∧ (zW m e l).n = l.length ∧ (zW m e l).mode = m ∧ (zW m e l).e = e := by
 unfold zW
 split
 ·rename_i k n r
  split
  ·rename_i ns hns
   have := arY hns
   subst this
   refine ⟨?_, rfl, by simp [Blk.n], rfl, rfl⟩
   exact aui k (n :: ns)
  ·exact ⟨rfl, rfl, rfl, rfl, rfl⟩
 ·exact ⟨rfl, rfl, rfl, rfl, rfl⟩
theorem acD (w : World) (o : Obj) : (w.alloc o).heap[w.heap.size]? = some o := by
 show (w.heap.push o)[w.heap.size]? = _
 simp
theorem ad3 (w : World) (arr : Array Value) (e : TypeId) (i : Nat) : (w.alloc (.cells arr e)).cell? ⟨w.heap.size, i, none⟩ = arr[i]? := by
 simp only [World.cell?, acD]
 simp
theorem ams {id : Nat} {l : Loc} {xs : List AV} {vs : List Value} (hn : AV.namesAll id xs = false) (h : VAll L xs vs) : VAll (L.set id l) xs vs := akY.go xs vs hn h
theorem RelL.new (h : RelL F L st a w) {id : Nat} (hid : F.low ≤ id) {blk : Blk} {arr : Array Value} (hv : VAll L blk.flat arr.toList) (h1 : ∀ u ∈ arr, u.oneCell' = true)
 (hn : AV.namesAll id blk.flat = false) (hm : blk.mode = 2) :
 RelL F (L.set id ⟨w.heap.size, 0, blk.w, blk.n, 2, arr.size, true, undef⟩) (st.fresh id blk) a (w.alloc (.cells arr blk.e)) := by
 refine h.fresh (S := fun _ => False) (Step.alloc w _ _) hid (fun _ _ _ _ _ _ _ _ h => h) (fun _ h => h.elim) ?_ (fun _ _ j b l hj hlook hl hb hm => ?_) (hnm := by cases blk <;> first | rfl | (simp [Blk.mode] at hm))
 ·have hlen := jW hv
  refine ⟨rfl, rfl, hm.symm, by omega, fun _ i av hi => ?_, fun _ hm0 => by omega, fun _ _ => ⟨rfl, arr, acD _ _, rfl, by rw [hlen]; simp⟩, fun _ hm1 => by omega, fun _ _ => h.below.size, fun hb => by simp at hb⟩
  obtain ⟨v, hv', hV⟩ := rJ i (ams (l := ⟨w.heap.size, 0, blk.w, blk.n, 2, arr.size, true, undef⟩) hn hv) hi
  refine ⟨v, ?_, hV, ?_⟩
  ·rw [Nat.zero_add, ad3]
   simpa using hv'
  ·have : v ∈ arr.toList := List.mem_of_getElem? hv'
   exact h1 v (by simpa using this)
 ·obtain ⟨l2, hl2, hbl⟩ := h.heap j b hlook
  rw [hl] at hl2
  have e := Option.some.inj hl2
  subst e
  obtain ⟨_, cur, hc, _⟩ := hbl.own hb (by rw [← hbl.hm]; exact hm)
  have := aaT hc
  show l.b ≠ w.heap.size
  omega
end Go.Ev
