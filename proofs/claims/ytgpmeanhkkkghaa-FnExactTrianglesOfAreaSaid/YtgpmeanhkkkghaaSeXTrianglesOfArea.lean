/- What is compared cell by cell: printed by a program of ours. -/
import Derived.Test.YtgpmeanhkkkghaaEvSort
import Derived.Test.YtgpmeanhkkkghaaShXTrianglesOfArea
import Derived.Test.YtgpmeanhkkkghaaProg
namespace Go.Proofs.Ytgpmeanhkkkghaa
open Go Go.Ev Go.Sh Go.Proofs

/-! types and signatures, by short names -/
abbrev T0 (α : Type) : Type := Nat → Int → Int → (Int → Int → Option α) → (Int → Option α) → Option α
abbrev T1 (α : Type) : Type := Nat → Int → Int → (Int → Option α) → Option α
abbrev T2 (α : Type) : Type := Nat → Int → Int → Int → Int → Int → (Int → Int → Option α) → Option α
abbrev T3 (α : Type) : Type := Nat → Int → Int → Int → Int → (Int → Option α) → Option α
abbrev T4 (α : Type) : Type := Nat → Int → Int → Int → Int → Int → Int → (Int → Option α) → Option α
abbrev T5 (α : Type) : Type := Nat → Int → Int → Int → Int → Int → Int → Int → Int → Int → (Int → Int → Int → Int → Int → Int → Int → Int → Int → Option α) → (Int → Int → Option α) → Option α
abbrev T6 (α : Type) : Type := Nat → Int → Int → (Int → Int → Option α) → Option α
abbrev T7 (α : Type) : Type := Nat → Int → Int → Int → Int → Int → Int → Int → Int → (Int → Int → Int → Option α) → Option α
abbrev T8 (α : Type) : Type := Nat → Int → Int → Int → Int → Int → Int → (Bool → Option α) → Option α
abbrev T9 (α : Type) : Type := Nat → Int → Int → Int → Int → Int → Int → Int → Int → Int → Int → Int → Int → Int → (Int → Int → Int → Int → Int → Int → Int → Int → Int → Int → Int → Int → Int → Option α) → (Int → Int → Int → Option α) → Option α
abbrev T10 (α : Type) : Type := Nat → Int → Int → Int → (Bool → Option α) → Option α
abbrev T11 (α : Type) : Type := Nat → Int → Int → Int → (Int → Int → Int → Int → Int → Int → Option α) → Option α
abbrev T12 (α : Type) : Type := Nat → Int → Int → Int → Int → Int → Int → (Int → Int → Int → Option α) → Option α
abbrev T13 (α : Type) : Type := Nat → Int → Int → Int → (List (Int × Int × Int)) → (Int → Int → Int → (List (Int × Int × Int)) → Option α) → (Int → Option α) → ((List (Int × Int × Int)) → Int → Option α) → Option α
abbrev T14 (α : Type) : Type := Nat → Int → Int → (List (Int × Int × Int)) → (Int → Int → (List (Int × Int × Int)) → Option α) → (Int → Option α) → ((List (Int × Int × Int)) → Int → Option α) → Option α
abbrev T15 (α : Type) : Type := Nat → Int → Int → Int → Int → (Int → Int → Option α) → Option α
abbrev T16 (α : Type) : Type := Nat → Int → (Int → Option α) → Option α
abbrev T17 (α : Type) : Type := Nat → Int → Int → Int → Int → Int → (Int → Int → Int → Int → Int → Option α) → (Int → Option α) → Option α
abbrev T18 (α : Type) : Type := Nat → Int → Int → Int → Int → Int → Int → Int → Int → (Int → Int → Option α) → Option α
abbrev T19 (α : Type) : Type := Nat → Int → (Bool → Option α) → Option α
abbrev T20 (α : Type) : Type := Nat → Int → Int → Int → List Int → (Int → Int → Int → List Int → Option α) → (Int → Option α) → Option α
abbrev T21 (α : Type) : Type := Nat → List Int → (Int → Option α) → Option α
abbrev T22 (α : Type) : Type := Nat → Int → Nat → Nat → Int → (List (Int × Int × Int)) → (Int → Nat → Nat → Int → (List (Int × Int × Int)) → Option α) → ((List (Int × Int × Int)) → Option α) → Option α
abbrev T23 (α : Type) : Type := Nat → Int → (List (Int × Int × Int)) → (Int → (List (Int × Int × Int)) → Option α) → ((List (Int × Int × Int)) → Option α) → Option α
abbrev T24 (α : Type) : Type := Nat → (List (Int × Int × Int)) → ((List (Int × Int × Int)) → Option α) → Option α
abbrev T25 (α : Type) : Type := Nat → Int → Int → Int → Int → (List (Int × Int × Int)) → (Int → Int → Int → Int → (List (Int × Int × Int)) → Option α) → (Int → Option α) → ((List (Int × Int × Int)) → Int → Option α) → Option α
abbrev T26 (α : Type) : Type := Nat → Int → (List (Int × Int × Int)) → (Int → (List (Int × Int × Int)) → Option α) → (Bool → Option α) → Option α
abbrev T27 (α : Type) : Type := Nat → Int → Int → (List (Int × Int × Int)) → (Int → Int → (List (Int × Int × Int)) → Option α) → (Int → (List (Int × Int × Int)) → Option α) → Option α
abbrev T28 (α : Type) : Type := Nat → Int → Int → (List (Int × Int × Int)) → (Int → Int → (List (Int × Int × Int)) → Option α) → (Int → Option α) → Option α
abbrev T29 (α : Type) : Type := Nat → Int → (List (Int × Int × Int)) → (List (Int × Int × Int)) → (Int → (List (Int × Int × Int)) → (List (Int × Int × Int)) → Option α) → (Bool → Option α) → Option α
abbrev T30 (α : Type) : Type := Nat → Int → (Int → Option α) → ((List (Int × Int × Int)) → Int → Option α) → Option α
abbrev T31 (α : Type) : Type := Nat → (Bool → Option α) → Option α
abbrev T32 (α : Type) : Type := Nat → (List (Int × Int × Int)) → (Bool → Option α) → Option α
abbrev T33 (α : Type) : Type := Nat → (List (Int × Int × Int)) → Int → (Int → (List (Int × Int × Int)) → Option α) → Option α
abbrev T34 (α : Type) : Type := Nat → (List (Int × Int × Int)) → Int → (Int → Option α) → Option α
abbrev T35 (α : Type) : Type := Nat → (List (Int × Int × Int)) → (List (Int × Int × Int)) → (Bool → Option α) → Option α
def R0 : List RetS := [⟨[.bool], [.bool], []⟩]
def R1 : List RetS := [⟨[.int, .int, .int, .int, .int, .int], [.agg [.int .i64, .int .i64, .int .i64, .int .i64, .int .i64, .int .i64]], []⟩]
def R2 : List RetS := [⟨[.int, .int], [.agg [.int .i64, .int .i64]], []⟩]
def R3 : List RetS := [⟨[.int], [.int .i64], []⟩]
def R4 : List RetS := [⟨[.int, .int, .int], [.agg [.int .i64, .int .i64, .int .i64]], []⟩]
def R5 : List RetS := [⟨[.int], [.nilsl, .int .i64], []⟩, ⟨[.rows .tr, .int], [.sl 30 .tr, .int .i64], []⟩]
def R6 : List RetS := [⟨[.rows .tr], [], [.sl 30 .tr]⟩]
def R7 : List RetS := [⟨[.rows .tr], [.sl 30 .tr], [.nilsl]⟩]
def R8 : List RetS := [⟨[.int, .rows .tr], [.int .i64], [.sl 30 .tr]⟩]
def S0 : Sig := ⟨[.int .i64, .int .i64, .int .i64], [.int, .int, .int], R0⟩
def S1 : Sig := ⟨[.agg [.int .i64, .int .i64, .int .i64]], [.int, .int, .int], R1⟩
def S2 : Sig := ⟨[.agg [.int .i64, .int .i64], .agg [.int .i64, .int .i64], .int .i64], [.int, .int, .int, .int, .int], R2⟩
def S3 : Sig := ⟨[.int .i64, .int .i64], [.int, .int], R3⟩
def S4 : Sig := ⟨[.agg [.int .i64, .int .i64]], [.int, .int], R2⟩
def S5 : Sig := ⟨[.agg [.int .i64, .int .i64], .agg [.int .i64, .int .i64]], [.int, .int, .int, .int], R3⟩
def S6 : Sig := ⟨[.agg [.int .i64, .int .i64], .agg [.int .i64, .int .i64], .agg [.int .i64, .int .i64]], [.int, .int, .int, .int, .int, .int], R3⟩
def S7 : Sig := ⟨[.agg [.int .i64, .int .i64, .int .i64, .int .i64, .int .i64, .int .i64]], [.int, .int, .int, .int, .int, .int], R3⟩
def S8 : Sig := ⟨[.agg [.int .i64, .int .i64, .int .i64, .int .i64, .int .i64, .int .i64], .int .i64, .int .i64], [.int, .int, .int, .int, .int, .int, .int, .int], R4⟩
def S9 : Sig := ⟨[.agg [.int .i64, .int .i64, .int .i64], .agg [.int .i64, .int .i64, .int .i64]], [.int, .int, .int, .int, .int, .int], R0⟩
def S10 : Sig := ⟨[.agg [.int .i64, .int .i64, .int .i64, .int .i64, .int .i64, .int .i64]], [.int, .int, .int, .int, .int, .int], R4⟩
def S11 : Sig := ⟨[.int .i64], [.int], R5⟩
def S12 : Sig := ⟨[.agg [.int .i64, .int .i64], .agg [.int .i64, .int .i64]], [.int, .int, .int, .int], R2⟩
def S13 : Sig := ⟨[.agg [.int .i64, .int .i64, .int .i64, .int .i64, .int .i64, .int .i64], .int .i64, .int .i64], [.int, .int, .int, .int, .int, .int, .int, .int], R2⟩
def S14 : Sig := ⟨[.int .i64], [.int], R3⟩
def S15 : Sig := ⟨[.agg [.int .i64, .int .i64]], [.int, .int], R3⟩
def S16 : Sig := ⟨[.int .i64], [.int], R0⟩
def S17 : Sig := ⟨[.sl 3 (.int .i64)], [.rows (.int .i64)], R3⟩
def S18 : Sig := ⟨[.agg [.int .i64, .int .i64, .int .i64], .agg [.int .i64, .int .i64, .int .i64]], [.int, .int, .int, .int, .int, .int], R3⟩
def S19 : Sig := ⟨[.msl 30 .tr, .fn 16 []], [.rows .tr], R6⟩
def S20 : Sig := ⟨[.msl 30 .tr], [.rows .tr], R7⟩
def S21 : Sig := ⟨[.nilsl, .nilsl], [], R0⟩
def S22 : Sig := ⟨[.nilsl, .int .i64], [.int], R3⟩
def S23 : Sig := ⟨[.sl 30 .tr, .nilsl], [.rows .tr], R0⟩
def S24 : Sig := ⟨[.msl 30 .tr, .int .i64], [.rows .tr, .int], R8⟩
def S25 : Sig := ⟨[.sl 30 .tr, .int .i64], [.rows .tr, .int], R3⟩
def S26 : Sig := ⟨[.nilsl, .sl 30 .tr], [.rows .tr], R0⟩
def S27 : Sig := ⟨[.sl 30 .tr, .sl 30 .tr], [.rows .tr, .rows .tr], R0⟩
def M : FuncId → List Nat := tabM [(7, [1]), (15, [1]), (17, [1])]
def jt0 : Nat → Option Tpl := jtOf []

def eqs : TypeId → Nat → Bool := eqTab [(30, 3)]
theorem eqs_ok : EqOK Try.prog eqs := eqTab_ok (by kernel_rfl)

end Go.Proofs.Ytgpmeanhkkkghaa
