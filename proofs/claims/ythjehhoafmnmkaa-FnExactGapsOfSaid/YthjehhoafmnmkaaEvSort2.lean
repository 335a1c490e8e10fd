/- Sorting by an order that is whole on the list's own elements alone. -/
import Derived.Test.YthjehhoafmnmkaaEvSort
namespace Go.Ev
open Go.RowKit Go.Proofs Go.Sort Go.Shelf
variable {α : Type} {P : Program}
structure aky {β : Type} (F : β → β → (Int → Option Int) → Option Int) (l : List β) : Prop where
 tells : ∀ x ∈ l, ∀ y ∈ l, ∃ c, F x y some = some c
 swo : SWO (ltOf fun (x y : {x // x ∈ l}) => cfOf F x.1 y.1)
 tot : ∀ x ∈ l, ∀ y ∈ l, ltOf (cfOf F) x y = false → ltOf (cfOf F) y x = false → x = y
open Classical in
section
variable [iq : Inhabited az]
end
end Go.Ev
