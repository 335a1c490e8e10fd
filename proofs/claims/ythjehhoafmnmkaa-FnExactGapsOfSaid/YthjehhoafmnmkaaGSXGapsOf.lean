import Derived.Test.YthjehhoafmnmkaaGPXGapsOf
import Derived.Shelf.SlSortCmp.NoneTotal
import Derived.Shelf.SlLaysF
import Derived.Test.YthjehhoafmnmkaaEvSort2
import Derived.Shelf.SlSortCmp.NoneTotal
namespace Go.Proofs.Ythjehhoafmnmkaa
open Go Go.RowKit Go.Shelf Go.Ev Go.Sh Go.Maps Go.Sort
def aea : Go.Shelf.Ren := ⟨fun | 6 => 18 | 15 => 31 | 14 => 30 | 28 => 43 | 29 => 44 | 20 => 35 | 21 => 36 | 22 => 37 | 23 => 38 | 24 => 39 | 25 => 40 | 26 => 41 | 27 => 42 | 46 => 47 | 47 => 48 | 48 => 49 | 49 => 50 | 50 => 51 | 57 => 53 | n => n, fun | 22 => 22 | 24 => 28 | 25 => 35 | 3 => 3 | 39 => 43 | 0 => 0 | 53 => 54 | 55 => 56 | 4 => 4 | 46 => 47 | 45 => 46 | 50 => 51 | 5 => 5 | 9 => 9 | 66 => 59 | 70 => 63 | 76 => 65 | 77 => 66 | n => n, fun | n => n⟩
theorem aiY : Go.Proofs.SlLaysF.n6 Try.prog aea := {
 mixed := by kernel_rfl,
 f6 := ⟨Try.f18.name, by decide, Try.func18.trans (congrArg some (by kernel_rfl))⟩,
 f14 := ⟨Try.f30.name, by decide, Try.func30.trans (congrArg some (by kernel_rfl))⟩,
 f15 := Try.func31.trans (congrArg some (by kernel_rfl)),
 f20 := ⟨Try.f35.name, by decide, Try.func35.trans (congrArg some (by kernel_rfl))⟩,
 f21 := ⟨Try.f36.name, by decide, Try.func36.trans (congrArg some (by kernel_rfl))⟩,
 f22 := ⟨Try.f37.name, by decide, Try.func37.trans (congrArg some (by kernel_rfl))⟩,
 f23 := ⟨Try.f38.name, by decide, Try.func38.trans (congrArg some (by kernel_rfl))⟩,
 f24 := ⟨Try.f39.name, by decide, Try.func39.trans (congrArg some (by kernel_rfl))⟩,
 f25 := ⟨Try.f40.name, by decide, Try.func40.trans (congrArg some (by kernel_rfl))⟩,
 f26 := ⟨Try.f41.name, by decide, Try.func41.trans (congrArg some (by kernel_rfl))⟩,
 f27 := ⟨Try.f42.name, by decide, Try.func42.trans (congrArg some (by kernel_rfl))⟩,
 f28 := Try.func43.trans (congrArg some (by kernel_rfl)),
 f29 := Try.func44.trans (congrArg some (by kernel_rfl)),
 f46 := ⟨Try.f47.name, by decide, Try.func47.trans (congrArg some (by kernel_rfl))⟩,
 f47 := Try.func48.trans (congrArg some (by kernel_rfl)),
 f48 := Try.func49.trans (congrArg some (by kernel_rfl)),
 f49 := ⟨Try.f50.name, by decide, Try.func50.trans (congrArg some (by kernel_rfl))⟩,
 f50 := ⟨Try.f51.name, by decide, Try.func51.trans (congrArg some (by kernel_rfl))⟩,
 f57 := ⟨Try.f53.name, by decide, Try.func53.trans (congrArg some (by kernel_rfl))⟩,
 t0 := Try.underlying0,
 a0 := Try.isAgg0,
 z0 := Try.sizeOf0,
 v0 := Try.zeroValue0,
 t3 := Try.underlying3,
 a3 := Try.isAgg3,
 z3 := Try.sizeOf3,
 v3 := Try.zeroValue3,
 t4 := Try.underlying4,
 a4 := Try.isAgg4,
 z4 := Try.sizeOf4,
 v4 := Try.zeroValue4,
 t5 := Try.underlying5,
 a5 := Try.isAgg5,
 z5 := Try.sizeOf5,
 v5 := Try.zeroValue5,
 t9 := Try.underlying9,
 a9 := Try.isAgg9,
 z9 := Try.sizeOf9,
 v9 := Try.zeroValue9,
 t22 := Try.underlying22,
 a22 := Try.isAgg22,
 z22 := Try.sizeOf22,
 v22 := Try.zeroValue22,
 a24 := Try.isAgg28,
 z24 := Try.sizeOf28,
 t25 := Try.underlying35,
 a25 := Try.isAgg35,
 z25 := Try.sizeOf35,
 v25 := Try.zeroValue35,
 t39 := Try.underlying43,
 a39 := Try.isAgg43,
 z39 := Try.sizeOf43,
 v39 := Try.zeroValue43,
 t45 := Try.underlying46,
 a45 := Try.isAgg46,
 z45 := Try.sizeOf46,
 v45 := Try.zeroValue46,
 t46 := Try.underlying47,
 a46 := Try.isAgg47,
 z46 := Try.sizeOf47,
 v46 := Try.zeroValue47,
 t50 := Try.underlying51,
 a50 := Try.isAgg51,
 z50 := Try.sizeOf51,
 v50 := Try.zeroValue51,
 t53 := Try.underlying54,
 a53 := Try.isAgg54,
 z53 := Try.sizeOf54,
 v53 := Try.zeroValue54,
 t55 := Try.underlying56,
 a55 := Try.isAgg56,
 z55 := Try.sizeOf56,
 v55 := Try.zeroValue56,
 t66 := Try.underlying59,
 a66 := Try.isAgg59,
 z66 := Try.sizeOf59,
 v66 := Try.zeroValue59,
 t70 := Try.underlying63,
 a70 := Try.isAgg63,
 z70 := Try.sizeOf63,
 v70 := Try.zeroValue63,
 t76 := Try.underlying65,
 a76 := Try.isAgg65,
 z76 := Try.sizeOf65,
 v76 := Try.zeroValue65,
 t77 := Try.underlying66,
 a77 := Try.isAgg66,
 z77 := Try.sizeOf66,
 v77 := Try.zeroValue66 }
theorem zX {a b c d : Int} : cmp2 a b c d < 0 ↔ a < c ∨ (a = c ∧ b < d) := by
 unfold cmp2
 split
 ·omega
 ·split
  ·omega
  ·split
   ·omega
   ·split <;> omega
theorem aiT {β : Type} (f : β → Int × Int) : SWO (ltOf fun x y : β => cmp2 (f x).1 (f x).2 (f y).1 (f y).2) := by
 refine ⟨fun x => ?_, fun x y z h1 h2 => ?_, fun x y z h1 h2 => ?_⟩
 ·unfold ltOf; rw [decide_eq_false_iff_not, zX]; omega
 ·unfold ltOf at *; rw [decide_eq_true_iff, zX] at *; omega
 ·unfold ltOf at *; rw [decide_eq_false_iff_not, zX] at *; omega
/-- A comparison under draws. -/
theorem aka {w : World} {c d : Nat} {x y x' y' : Int} (h1 : In2 w c x y) (h2 : In2 w d x' y') (z z' : Int × Int) :
 Calls Try.prog 19 #[enc2 (c, z), enc2 (d, z')] w fun e w' => e = .returned (.int .i64 (cmp2 x y x' y')) ∧ ∃ q os, w' = grow (w.drewN q) os := by
 letI := qT
 obtain ⟨k, hk⟩ : ∃ k, 10 < k := ⟨11, by decide⟩
 have hs : eQ S8.sh (gX S8 jK k) [.sl 2 (.int .i64) [x, y], .sl 2 (.int .i64) [x', y']] (some : Res → Option Res) = some ⟨[.int .i64 (cmp2 x y x' y')], []⟩ := by
  rw [by8 jK]
  exact ahM k hk _ _ _ _ _
 refine (xq (acG k) hs (w := w) (vs := #[enc2 (c, z), enc2 (d, z')]) (μ := []) ⟨h1.dIn (by simp) z, h2.dIn (by simp) z', trivial⟩ List.nodup_nil).mono fun e w' ⟨v, res, he, hk, hp⟩ => ⟨?_, ac0 trivial hp.frame⟩
 have hres := Option.some.inj hk
 subst hres
 obtain ⟨vals, ν, hv, hd, _, hν⟩ := hp.rs
 match vals, hd with
 | [u], ⟨ν1, ν2, hνν, ⟨_, h1'⟩, h2'⟩ =>
   have hvu : v = u := hv
   subst hvu
   rw [he]
   have e1 : v = .int .i64 (cmp2 x y x' y') := (Option.some.inj h1').symm
   rw [e1]
theorem agC {β : Type} [Inhabited β] (enc : β → Value) (w : World) (g m : Nat) (d : Array β) (os : Array Obj) {j : Nat} (hj : j < w.heap.size) (hne : j ≠ g) : (sortWorld enc w g 0 m d os).heap[j]? = w.heap[j]? := by
 unfold sortWorld
 rw [heap_grow_old _ os (by rw [Go.Sort.size_putRow]; exact hj)]
 unfold putRow mapBlock
 show (w.heap.modify g _)[j]? = _
 rw [Array.getElem?_modify, if_neg (fun e => hne e.symm)]
theorem ajt {β : Type} [Inhabited β] (enc : β → Value) (w : World) (g m : Nat) (d : Array β) (os : Array Obj) (hg : g < w.heap.size) {cur : Array Value} {t : TypeId} {fr : Nat × Nat} (h : w.heap[g]? = some (.cells cur t fr)) : (sortWorld enc w g 0 m d os).heap[g]? = some (.cells (putCells enc 0 d cur) t fr) := by
 unfold sortWorld
 rw [heap_grow_old _ os (by rw [Go.Sort.size_putRow]; exact hg)]
 unfold putRow mapBlock
 show (w.heap.modify g _)[g]? = _
 rw [Array.getElem?_modify, if_pos rfl, h]
 rfl
theorem aiR {β : Type} [Inhabited β] (enc : β → Value) (w : World) (g m : Nat) (d : Array β) (os : Array Obj) : w.heap.size ≤ (sortWorld enc w g 0 m d os).heap.size := by
 unfold sortWorld grow
 simp [Go.Sort.size_putRow]
theorem acj {β : Type} [Inhabited β] (enc : β → Value) (d : Array β) (cur : Array Value) (h : d.size ≤ cur.size) : (putCells enc 0 d cur).toList.take d.size = d.toList.map enc := by
 apply List.ext_getElem?
 intro i
 rcases Nat.lt_or_ge i d.size with hi | hi
 ·rw [List.getElem?_take_of_lt hi, Array.getElem?_toList, List.getElem?_map, Array.getElem?_toList]
  unfold putCells
  rw [Array.getElem?_mapIdx, Array.getElem?_eq_getElem (by omega : i < cur.size), Array.getElem?_eq_getElem hi]
  simp [hi]
 ·rw [List.getElem?_eq_none (by simp; omega), List.getElem?_eq_none (by simp; omega)]
theorem agu {l : List (Nat × Int × Int)} (h : (l.map fun x => x.2.1).Nodup) {x y : Nat × Int × Int} (hx : x ∈ l) (hy : y ∈ l) (e : x.2.1 = y.2.1) : x = y := by
 induction l with
 | nil => cases hx
 | cons a l ih =>
   rw [List.map_cons, List.nodup_cons] at h
   rcases List.mem_cons.1 hx with ex | hx <;> rcases List.mem_cons.1 hy with ey | hy
   ·rw [ex, ey]
   ·exact absurd (List.mem_map.2 ⟨y, hy, by rw [← e, ex]⟩) h.1
   ·exact absurd (List.mem_map.2 ⟨x, hx, by rw [e, ey]⟩) h.1
   ·exact ih h.2 hx hy
theorem ajo {lo : Nat} {v : Value} {l : List (Nat × Int × Int)} {w : World} (hlo : lo ≤ w.heap.size) (hR : RR w lo v l) (hl : l.length ≤ 1000) (hd : (l.map fun x => x.2.1).Nodup) (h0 : l ≠ []) :
 Calls Try.prog 18 #[v, .func (.func 19) #[] #[]] w fun e w' => e = .returned (.tuple #[]) ∧ ∃ l', l'.Perm l ∧ (l'.map Prod.snd).Pairwise (fun a b => a.1 < b.1) ∧ RR w' lo v l' ∧ Below lo w w' := by
 obtain ⟨x0, hx0⟩ := List.exists_mem_of_ne_nil l h0
 letI : Inhabited {x // x ∈ l} := ⟨⟨x0, hx0⟩⟩
 rcases hR.row.2 with ⟨_, e2⟩ | ⟨g, cap, cur, rfl, h1, h2, h3, h4, h5, h6⟩
 ·exact absurd (List.length_eq_zero_iff.1 e2) h0
 ·have hg : g < w.heap.size := (Array.getElem?_eq_some_iff.1 h2).1
  have hcur : l.length ≤ cur.size := by omega
  have hcell : ∀ j, j < l.length → cur[j]? = (l[j]?).map enc2 := fun j hj => by
   have : (cur.toList.take (l.length * 1))[j]? = (l.map enc2)[j]? := by rw [h6]
   rwa [List.getElem?_take_of_lt (by omega), List.getElem?_map, Array.getElem?_toList] at this
  have hH : Holds (fun (x : {x // x ∈ l}) => enc2 x.1) w g 0 l.attach.toArray := by
   intro j hj
   have hj' : j < l.length := by simpa using hj
   have hc := hcell j hj'
   rw [List.getElem?_eq_getElem hj'] at hc
   constructor
   ·rw [getElem!_pos _ j hj]
    simp [World.cell?, h2, hc]
   ·simp [World.frozen?, h2]
  have hin : ∀ x : {x // x ∈ l}, ∀ (m : Nat) (os : Array Obj) (dk : Array {x // x ∈ l}), In2 (sortWorld (fun (x : {x // x ∈ l}) => enc2 x.1) w g 0 m dk os) x.1.1 x.1.2.1 x.1.2.2 := fun x m os dk => by
   unfold In2
   rw [agC _ w g m dk os (hR.lt x.2) (fun e => hR.own x.1 x.2 (by rw [e]; rfl))]
   exact (hR.inn x.1 x.2).2
  have hcmp : CmpLays1 Try.prog 19 #[] (fun (x : {x // x ∈ l}) => enc2 x.1) (fun x y => cmp2 x.1.2.1 x.1.2.2 y.1.2.1 y.1.2.2) g 0 l.attach.toArray.size w := by
   intro m os dk _ x y
   rw [Array.append_empty]
   exact aka (hin x m os dk) (hin y m os dk) x.1.2 y.1.2
  have hT : ∀ x y : {x // x ∈ l}, ltOf (fun (x y : {x // x ∈ l}) => cmp2 x.1.2.1 x.1.2.2 y.1.2.1 y.1.2.2) x y = false → ltOf (fun (x y : {x // x ∈ l}) => cmp2 x.1.2.1 x.1.2.2 y.1.2.1 y.1.2.2) y x = false → x = y := by
   intro x y hxy hyx
   unfold ltOf at hxy hyx
   rw [decide_eq_false_iff_not, zX] at hxy hyx
   have e : x.1.2.1 = y.1.2.1 := by omega
   exact Subtype.ext (agu hd x.2 y.2 e)
  have hc := Any.slices_SortFunc_total (α := {x // x ∈ l}) aiY (fun x => enc2 x.1) (fun _ => rfl) (fun x y => cmp2 x.1.2.1 x.1.2.2 y.1.2.1 y.1.2.2) (aiT fun x : {x // x ∈ l} => x.1.2) 19 #[] g 0 cap l.attach.toArray w (@iw.enters qT _ _ _ _ (@acG qT Res 0)) hcmp hH hg (by simp; omega) hT
  have hsz : l.attach.toArray.size = l.length := by simp
  rw [hsz] at hc
  refine hc.mono fun e' w' ⟨he, n, os, hw⟩ => ⟨he, ?_⟩
  obtain ⟨L, hL⟩ : ∃ L, (l.attach.toArray.toList.mergeSort fun x y => !(ltOf fun (x y : {x // x ∈ l}) => cmp2 x.1.2.1 x.1.2.2 y.1.2.1 y.1.2.2) y x) = L := ⟨_, rfl⟩
  have hperm : L.Perm l.attach := by rw [← hL]; exact List.mergeSort_perm _ _
  have hLl : (L.map (fun x => x.1)).Perm l := by
   have := hperm.map (fun x => x.1)
   rwa [List.attach_map_subtype_val] at this
  have hLen : L.length = l.length := by rw [hperm.length_eq, List.length_attach]
  have hsorted : L.Pairwise fun x y => (!(ltOf fun (x y : {x // x ∈ l}) => cmp2 x.1.2.1 x.1.2.2 y.1.2.1 y.1.2.2) y x) = true := by
   rw [← hL]
   refine List.pairwise_mergeSort (le := fun x y => !(ltOf fun (x y : {x // x ∈ l}) => cmp2 x.1.2.1 x.1.2.2 y.1.2.1 y.1.2.2) y x) (fun a b c h1 h2 => ?_) (fun a b => ?_) _
   ·unfold ltOf at *
    rw [Bool.not_eq_true', decide_eq_false_iff_not, zX] at *
    omega
   ·unfold ltOf
    rw [Bool.or_eq_true, Bool.not_eq_true', Bool.not_eq_true', decide_eq_false_iff_not, decide_eq_false_iff_not, zX, zX]
    omega
  have hnd : (L.map (fun x => x.1.2.1)).Nodup := by
   have h1 : ((L.map (fun x => x.1)).map fun x => x.2.1).Nodup := (hLl.map _).nodup_iff.2 hd
   rwa [List.map_map] at h1
  rw [hL] at hw
  have hLs : L.toArray.size = l.length := by simp [hLen]
  refine ⟨L.map (fun x => x.1), hLl, ?_, ?_, ?_⟩
  ·rw [List.map_map, List.pairwise_map]
   have h2 : L.Pairwise fun x y => x.1.2.1 ≠ y.1.2.1 := by
    have := hnd
    unfold List.Nodup at this
    rwa [List.pairwise_map] at this
   refine (hsorted.and h2).imp fun {a b} ⟨h3, h4⟩ => ?_
   unfold ltOf at h3
   rw [Bool.not_eq_true', decide_eq_false_iff_not, zX] at h3
   show a.1.2.1 < b.1.2.1
   omega
  ·refine ⟨⟨by simp, .inr ⟨g, cap, putCells (fun (x : {x // x ∈ l}) => enc2 x.1) 0 L.toArray cur, by rw [List.length_map, hLen], h1, ?_, by rw [List.length_map]; omega, h4, by rw [← h5]; simp [putCells], ?_⟩⟩, fun x hx => ⟨(hR.inn x (hLl.mem_iff.1 hx)).1, ?_⟩, (hLl.map _).nodup_iff.2 hR.nd, fun x hx => hR.own x (hLl.mem_iff.1 hx)⟩
   ·rw [hw]
    exact ajt _ w g n L.toArray os hg h2
   ·have := acj (fun (x : {x // x ∈ l}) => enc2 x.1) L.toArray cur (by omega)
    rw [hLs] at this
    rw [List.length_map, hLen, Nat.mul_one, this, List.map_map]
    simp
   ·rw [hw]
    exact hin ⟨x, hLl.mem_iff.1 hx⟩ n os L.toArray
  ·rw [hw]
   exact ⟨rfl, rfl, rfl, aiR _ w g n L.toArray os, fun k hk => agC _ w g n L.toArray os (by omega) (by omega)⟩
end Go.Proofs.Ythjehhoafmnmkaa
