/- Sorting: slices.SortFunc at rows of structs, out of the kit's shelf. -/
import Derived.Test.YthihpeofphdfmaaGreatDoorEvSig
import Derived.Shelf.SlSortCmp.NoneTotal
namespace Go.Ev
open Go.RowKit Go.Proofs Go.Sort Go.Shelf
variable {α : Type} {P : Program}
def apG : (t : Ty) → t.den
 | .int _ => (0 : Int)
 | .bool => false
 | .str => ByteArray.empty
 | .pt => ((0, 0) : Int × Int)
 | .tr => ((0, 0, 0) : Int × Int × Int)
 | .qd => ((0, 0, 0, 0) : Int × Int × Int × Int)
 | .hx => ((0, 0, 0, 0, 0, 0) : Int × Int × Int × Int × Int × Int)
instance (t : Ty) : Inhabited t.den := ⟨apG t⟩
def Oj : Ty → Bool
 | .pt | .tr | .qd | .hx => true
 | _ => false
def afB (a : AV) : Value := (scal a).getD (.int .i64 0)
def encV (t : Ty) (x : t.den) : List Value := (t.enc x).map afB
theorem ah2 (t : Ty) (x : t.den) : (encV t x).length = t.w := by rw [encV, List.length_map, oq]
theorem ag7 {t : Ty} (ht : Oj t = true) (x : t.den) : ∀ a ∈ t.enc x, ∃ v, scal a = some v := by
 cases t <;> simp [Oj] at ht <;> simp [Ty.enc, scal]
theorem anD {t : Ty} (ht : Oj t = true) (x : t.den) : ∀ v ∈ encV t x, v.oneCell' = true := by
 intro v hv
 obtain ⟨a, ha, rfl⟩ := List.mem_map.1 hv
 obtain ⟨u, hu⟩ := ag7 ht x a ha
 have : afB a = u := by unfold afB; rw [hu]; rfl
 rw [this]
 exact TK hu
theorem ajh {t : Ty} (ht : Oj t = true) : 0 < t.w := by cases t <;> simp [Oj] at ht <;> simp [Ty.w]
theorem aeR {β γ : Type} (f : β → List γ) {k : Nat} (hk : 0 < k) (hf : ∀ x, (f x).length = k) : ∀ (l : List β) (j : Nat), (l.flatMap f)[j]? = (l[j / k]?).bind fun x => (f x)[j % k]?
 | [], j => by simp
 | x :: r, j => by
   rw [List.flatMap_cons, List.getElem?_append, hf]
   by_cases h : j < k
   ·rw [if_pos h, Nat.div_eq_of_lt h, Nat.mod_eq_of_lt h]
    rfl
   ·rw [if_neg h, aeR f hk hf r]
    obtain ⟨i, rfl⟩ : ∃ i, j = i + k := ⟨j - k, by omega⟩
    rw [Nat.add_sub_cancel, Nat.add_div_right _ hk, Nat.add_mod_right]
    rfl
theorem ag3 {t : Ty} (ht : Oj t = true) {l : List t.den} {j : Nat} (hj : j < l.length * t.w) : ∃ a v, (l.flatMap t.enc)[j]? = some a ∧ scal a = some v ∧ (flatK (encV t) t.w l.toArray)[j]! = v := by
 have hw := ajh ht
 have hd : j / t.w < l.length := (Nat.div_lt_iff_lt_mul hw).2 hj
 have hm : j % t.w < t.w := Nat.mod_lt _ hw
 have hx : l[j / t.w]? = some l[j / t.w] := List.getElem?_eq_getElem hd
 have hlen : j % t.w < (t.enc l[j / t.w]).length := by rw [oq]; exact hm
 have ha : (l.flatMap t.enc)[j]? = some (t.enc l[j / t.w])[j % t.w] := by
  rw [aeR t.enc hw (oq t), hx, Option.bind_some, List.getElem?_eq_getElem hlen]
 obtain ⟨v, hv⟩ := ag7 ht l[j / t.w] _ (List.getElem_mem hlen)
 refine ⟨_, v, ha, hv, ?_⟩
 rw [get_flatK _ _ _ j (by simpa using hj)]
 have e1 : l.toArray[j / t.w]! = l[j / t.w] := by simp [hd]
 rw [e1]
 have hlen2 : j % t.w < (encV t l[j / t.w]).length := by rw [ah2]; exact hm
 rw [getElem!_pos (encV t l[j / t.w]) (j % t.w) hlen2]
 simp only [encV, List.getElem_map, afB, hv, Option.getD_some]
theorem acQ {t : Ty} (ht : Oj t = true) {w : World} {g : Nat} {l : List t.den} {cur : Array Value} {e : TypeId} (hh : w.heap[g]? = some (.cells cur e (0, 0))) (hc : QJ w g 0 (l.flatMap t.enc)) : HoldsK (encV t) t.w w g 0 l.toArray := by
 intro j hj
 rw [size_flatK] at hj
 obtain ⟨a, v, h1, h2, h3⟩ := ag3 ht (l := l) (j := j) (by simpa using hj)
 obtain ⟨v', hv', hcell⟩ := hc j a h1
 rw [h2] at hv'
 have := Option.some.inj hv'
 subst this
 refine ⟨by rw [h3]; exact hcell, ?_⟩
 simp [World.frozen?, hh]
theorem ag0 {t : Ty} (ht : Oj t = true) {w : World} {g : Nat} {l : List t.den} (h : HoldsK (encV t) t.w w g 0 l.toArray) : QJ w g 0 (l.flatMap t.enc) := by
 intro i av hi
 have hlt : i < l.length * t.w := by
  have := (List.getElem?_eq_some_iff.1 hi).1
  rwa [jV] at this
 obtain ⟨a, v, h1, h2, h3⟩ := ag3 ht (l := l) (j := i) hlt
 rw [hi] at h1
 have := Option.some.inj h1
 subst this
 refine ⟨v, h2, ?_⟩
 have := (h i (by rw [size_flatK]; simpa using hlt)).1
 rw [h3] at this
 exact this
def cfOf {β : Type} (F : β → β → (Int → Option Int) → Option Int) (x y : β) : Int := (F x y some).getD 0
structure au9 {β : Type} (F : β → β → (Int → Option Int) → Option Int) : Prop where
 tells : ∀ x y, ∃ c, F x y some = some c
 swo : SWO (ltOf (cfOf F))
 tot : ∀ x y, ltOf (cfOf F) x y = false → ltOf (cfOf F) y x = false → x = y
def abK {β : Type} (cf : β → β → Int) (l : List β) : List β := l.mergeSort fun x y => !(ltOf cf) y x
open Classical in
def dRow : (t : Ty) → t.den → D
 | .pt, x => .agg [.int .i64 x.1, .int .i64 x.2]
 | .tr, x => .agg [.int .i64 x.1, .int .i64 x.2.1, .int .i64 x.2.2]
 | .qd, x => .agg [.int .i64 x.1, .int .i64 x.2.1, .int .i64 x.2.2.1, .int .i64 x.2.2.2]
 | .hx, x => .agg [.int .i64 x.1, .int .i64 x.2.1, .int .i64 x.2.2.1, .int .i64 x.2.2.2.1, .int .i64 x.2.2.2.2.1, .int .i64 x.2.2.2.2.2]
 | _, _ => .nilsl
def kI : Res → Option Int
 | ⟨[.int .i64 c], []⟩ => some c
 | _ => none
theorem ap0 {res : Res} {c : Int} (h : kI res = some c) : res = ⟨[.int .i64 c], []⟩ := by
 unfold kI at h
 split at h
 ·rw [Option.some.inj h]
 ·cases h
theorem akp {t : Ty} (ht : Oj t = true) (w : World) (bad : Nat → Prop) (x : t.den) : DIn w bad (dRow t x) (.agg (encV t x).toArray) := by
 cases t <;> simp [Oj] at ht <;> exact ⟨_, rfl, by simp [encV, Ty.enc, afB, scal, DAll, DIn]⟩
theorem aeU {t : Ty} (ht : Oj t = true) {w : World} {bad : Nat → Prop} {x : t.den} {ds : List D} {v : Value} {vs : List Value} {μ : List Nat} (h : DIn w bad (dRow t x) v ∧ jK w bad ds vs μ) : jK w bad (dRow t x :: ds) (v :: vs) μ := by
 cases t <;> simp [Oj] at ht <;> exact h
abbrev qT : Inhabited aX := ⟨⟨True⟩⟩
section
variable [iq : Inhabited aX]
theorem aiL {w w' : World} (hq : Qt) (h : Step w w' (· ∈ ([] : List Nat))) : ∃ q os, w' = grow (w.drewN q) os := by
 refine ⟨w'.drawn - w.drawn, w'.heap.extract w.heap.size w'.heap.size, ?_⟩
 have e1 : w.drawn + (w'.drawn - w.drawn) = w'.drawn := by have := h.drawn hq; omega
 have e2 : w.heap ++ w'.heap.extract w.heap.size w'.heap.size = w'.heap := by
  apply Array.ext_getElem?
  intro k
  rw [Array.getElem?_append]
  by_cases hk : k < w.heap.size
  ·rw [if_pos hk, h.block k hk (by simp)]
  ·rw [if_neg hk, Array.getElem?_extract]
   have hs := h.size
   by_cases hk2 : k < w'.heap.size
   ·rw [if_pos (by omega), show w.heap.size + (k - w.heap.size) = k by omega]
   ·rw [if_neg (by omega), Array.getElem?_eq_none (by omega)]
 have h1 := h.os
 have h2 := h.tape
 have h3 := h.output
 cases w'
 simp only [grow, World.drewN] at *
 rw [e1, e2, h1, h2, h3]
theorem amu {β : Type} [Inhabited β] (enc : β → List Value) (k : Nat) (w : World) (g n : Nat) (d : Array β) (os : Array Obj) (hg : g < w.heap.size) : Step w (sortWorldK enc k w g 0 n d os) (· ∈ [g]) ∧ Kept w (sortWorldK enc k w g 0 n d os) g := by
 refine ⟨⟨rfl, rfl, rfl, size_sortWorldK_c enc k w g 0 n d os, fun j hj hn => ?_, fun _ => Nat.le_add_right _ _⟩, fun cur e h => ?_⟩
 ·have hne : ¬ g = j := fun e => hn (by rw [e]; exact List.mem_singleton.2 rfl)
  unfold sortWorldK
  rw [heap_grow_old _ os (by show j < (putRowK enc k _ g 0 d).heap.size; unfold putRowK; rw [Go.Sort.size_putRow]; exact hj)]
  unfold putRowK putRow mapBlock
  show (w.heap.modify g _)[j]? = _
  rw [Array.getElem?_modify, if_neg hne]
 ·refine ⟨putCells id 0 (flatK enc k d) cur, ?_, by simp [putCells]⟩
  unfold sortWorldK
  rw [heap_grow_old _ os (by show g < (putRowK enc k _ g 0 d).heap.size; unfold putRowK; rw [Go.Sort.size_putRow]; exact hg)]
  unfold putRowK putRow mapBlock
  show (w.heap.modify g _)[g]? = _
  rw [Array.getElem?_modify, if_pos rfl, h]
  rfl
end
end Go.Ev
