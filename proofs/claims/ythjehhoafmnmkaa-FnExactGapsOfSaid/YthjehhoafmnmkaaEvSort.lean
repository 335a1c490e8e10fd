/- Sorting: slices.SortFunc at rows of structs, out of the kit's shelf. -/
import Derived.Test.YthjehhoafmnmkaaEvSig
import Derived.Shelf.SlSortCmp.NoneTotal
namespace Go.Ev
open Go.RowKit Go.Proofs Go.Sort Go.Shelf
variable {α : Type} {P : Program}
def aja : (t : Ty) → t.den
 | .int _ => (0 : Int)
 | .bool => false
 | .str => ByteArray.empty
 | .pt => ((0, 0) : Int × Int)
 | .tr => ((0, 0, 0) : Int × Int × Int)
 | .qd => ((0, 0, 0, 0) : Int × Int × Int × Int)
 | .hx => ((0, 0, 0, 0, 0, 0) : Int × Int × Int × Int × Int × Int)
instance (t : Ty) : Inhabited t.den := ⟨aja t⟩
def cfOf {β : Type} (F : β → β → (Int → Option Int) → Option Int) (x y : β) : Int := (F x y some).getD 0
structure akz {β : Type} (F : β → β → (Int → Option Int) → Option Int) : Prop where
 tells : ∀ x y, ∃ c, F x y some = some c
 swo : SWO (ltOf (cfOf F))
 tot : ∀ x y, ltOf (cfOf F) x y = false → ltOf (cfOf F) y x = false → x = y
open Classical in
abbrev qT : Inhabited az := ⟨⟨True⟩⟩
section
variable [iq : Inhabited az]
theorem ac0 {w w' : World} (hq : Qt) (h : Step w w' (· ∈ ([] : List Nat))) : ∃ q os, w' = grow (w.drewN q) os := by
 refine ⟨w'.drawn - w.drawn, w'.heap.extract w.heap.size w'.heap.size, ?_⟩
 have e1 : w.drawn + (w'.drawn - w.drawn) = w'.drawn := by have := h.drawn hq; omega
 have e2 : w.heap ++ w'.heap.extract w.heap.size w'.heap.size = w'.heap := by
  apply Array.ext_getElem?
  intro k
  rw [Array.getElem?_append]
  by_cases hk : k < w.heap.size
  ·rw [if_pos hk, h.block k hk (by simp)]
  ·rw [if_neg hk, Array.getElem?_extract]
   have hs := h.size
   by_cases hk2 : k < w'.heap.size
   ·rw [if_pos (by omega), show w.heap.size + (k - w.heap.size) = k by omega]
   ·rw [if_neg (by omega), Array.getElem?_eq_none (by omega)]
 have h1 := h.os
 have h2 := h.tape
 have h3 := h.output
 cases w'
 simp only [grow, World.drewN] at *
 rw [e1, e2, h1, h2, h3]
end
end Go.Ev
