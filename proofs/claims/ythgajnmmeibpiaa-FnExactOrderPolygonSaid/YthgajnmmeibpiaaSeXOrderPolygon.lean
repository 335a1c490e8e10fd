/- What is compared cell by cell: printed by a program of ours. -/
import Derived.Test.YthgajnmmeibpiaaEvEq
import Derived.Test.YthgajnmmeibpiaaShXOrderPolygon
import Derived.Test.YthgajnmmeibpiaaProg
namespace Go.Proofs.Ythgajnmmeibpiaa
open Go Go.Ev Go.Sh Go.Proofs

/-! types, by short names -/
abbrev T0 (α : Type) : Type := Nat → (List (Int × Int)) → Int → (Int → Option α) → Option α
abbrev T1 (α : Type) : Type := Nat → Int → Int → (Int → Int → Option α) → Option α
abbrev T2 (α : Type) : Type := Nat → (List (Int × Int)) → ((List (Int × Int)) → Option α) → Option α
abbrev T3 (α : Type) : Type := Nat → Int → Int → Int → (Bool → Option α) → Option α
abbrev T4 (α : Type) : Type := Nat → Int → (Bool → Option α) → Option α
abbrev T5 (α : Type) : Type := Nat → Int → Int → (Bool → Option α) → Option α
abbrev T6 (α : Type) : Type := Nat → Int → Int → Int → Int → Int → (Int → Int → Option α) → Option α
abbrev T7 (α : Type) : Type := Nat → Int → Int → Int → Int → (Int → Option α) → Option α
abbrev T8 (α : Type) : Type := Nat → Int → Int → Int → Int → Int → Int → (Int → Option α) → Option α
abbrev T9 (α : Type) : Type := Nat → Int → Int → (Int → Option α) → Option α
abbrev T10 (α : Type) : Type := Nat → (List (Int × Int)) → (Bool → Option α) → Option α
abbrev T11 (α : Type) : Type := Nat → (List (Int × Int)) → (Int → Option α) → Option α
abbrev T12 (α : Type) : Type := Nat → Int → Int → Int → Int → (Bool → Option α) → Option α
abbrev T13 (α : Type) : Type := Nat → (List (Int × Int)) → (Int → Option α) → ((List (Int × Int)) → Int → Option α) → Option α
abbrev T14 (α : Type) : Type := Nat → (List (Int × Int)) → Int → (Int → Int → Option α) → Option α
abbrev T15 (α : Type) : Type := Nat → Int → Int → Int → Int → (Int → Int → Option α) → Option α
abbrev T16 (α : Type) : Type := Nat → List Int → (Int → Option α) → Option α
abbrev T17 (α : Type) : Type := Nat → (List (Int × Int)) → (Int → Int → Option α) → Option α
abbrev T18 (α : Type) : Type := Nat → (List (Int × Int)) → Int → Int → (Int → Option α) → Option α
abbrev T19 (α : Type) : Type := Nat → Int → ((List (Int × Int)) → Option α) → (Option α) → Option α
abbrev T20 (α : Type) : Type := Nat → (List (Int × Int)) → (List (Int × Int)) → ((List (Int × Int)) → Option α) → Option α
abbrev T21 (α : Type) : Type := Nat → (Bool → Option α) → Option α
abbrev T22 (α : Type) : Type := Nat → (List (Int × Int)) → (List (Int × Int)) → (Bool → Option α) → Option α
abbrev T23 (α : Type) : Type := Nat → (List (Int × Int)) → Int → (Int → (List (Int × Int)) → Option α) → Option α
abbrev T24 (α : Type) : Type := Nat → Int → (Int → Option α) → Option α

def eqs : TypeId → Nat → Bool := eqTab [(34, 2)]
theorem eqs_ok : EqOK Try.prog eqs := eqTab_ok (by kernel_rfl)

end Go.Proofs.Ythgajnmmeibpiaa
