/- What is compared cell by cell: printed by a program of ours. -/
import Derived.Test.YtoejoijickfgaaaEvSig
import Derived.Test.YtoejoijickfgaaaShXClassNumber
import Derived.Test.YtoejoijickfgaaaProg
namespace Go.Proofs.Ytoejoijickfgaaa
open Go Go.Ev Go.Sh Go.Proofs

/-! types and signatures, by short names -/
abbrev T0 (α : Type) : Type := Nat → Int → Int → (Int → Int → Option α) → (Int → Option α) → Option α
abbrev T1 (α : Type) : Type := Nat → Int → Int → Int → (Bool → Option α) → Option α
abbrev T2 (α : Type) : Type := Nat → Int → (Int → Option α) → Option α
abbrev T3 (α : Type) : Type := Nat → Int → Int → Int → Int → (Bool → Option α) → Option α
abbrev T4 (α : Type) : Type := Nat → Int → Int → Int → Int → (List (Int × Int × Int)) → (Int → Int → Int → Int → (List (Int × Int × Int)) → Option α) → (Int → Option α) → ((List (Int × Int × Int)) → Int → Option α) → Option α
abbrev T5 (α : Type) : Type := Nat → Int → Int → Int → (List (Int × Int × Int)) → (Int → Int → Int → (List (Int × Int × Int)) → Option α) → (Int → Option α) → ((List (Int × Int × Int)) → Int → Option α) → Option α
abbrev T6 (α : Type) : Type := Nat → Int → (List (Int × Int × Int)) → Int → Int → Int → (Int → (List (Int × Int × Int)) → Int → Int → Int → Option α) → (Bool → Option α) → Option α
abbrev T7 (α : Type) : Type := Nat → Int → Int → (Int → Option α) → Option α
abbrev T8 (α : Type) : Type := Nat → Int → Int → Int → (Int → Option α) → Option α
abbrev T9 (α : Type) : Type := Nat → Int → Int → Int → Int → Int → (Int → Int → Int → Option α) → Option α
abbrev T10 (α : Type) : Type := Nat → Int → Int → Int → Int → Int → (Int → Int → Int → Int → Int → Option α) → ((List (Int × Int × Int)) → Option α) → Option α
abbrev T11 (α : Type) : Type := Nat → Int → Int → Int → Int → Int → (List (Int × Int × Int)) → Int → Int → Int → (Int → Int → Int → Int → Int → (List (Int × Int × Int)) → Int → Int → Int → Option α) → ((List (Int × Int × Int)) → Option α) → Option α
abbrev T12 (α : Type) : Type := Nat → Int → (Int → Option α) → ((List (Int × Int × Int)) → Int → Option α) → Option α
abbrev T13 (α : Type) : Type := Nat → (List (Int × Int × Int)) → Int → Int → Int → (Bool → Option α) → Option α
abbrev T14 (α : Type) : Type := Nat → Int → Int → Int → ((List (Int × Int × Int)) → Option α) → Option α
abbrev T15 (α : Type) : Type := Nat → Int → Int → (List (Int × Int × Int)) → (List (Int × Int × Int)) → (Int → Int → (List (Int × Int × Int)) → (List (Int × Int × Int)) → Option α) → (Int → Int → Option α) → Option α
abbrev T16 (α : Type) : Type := Nat → Int → (Bool → Option α) → Option α
abbrev T17 (α : Type) : Type := Nat → Int → Int → Int → Int → (List (Int × Int × Int)) → (Int → Int → Int → Int → (List (Int × Int × Int)) → Option α) → ((List (Int × Int × Int)) → Option α) → Option α
abbrev T18 (α : Type) : Type := Nat → Int → Int → Int → (List (Int × Int × Int)) → (Int → Int → Int → (List (Int × Int × Int)) → Option α) → ((List (Int × Int × Int)) → Option α) → Option α
abbrev T19 (α : Type) : Type := Nat → Int → Int → Int → (Int → Int → Int → Option α) → Option α
abbrev T20 (α : Type) : Type := Nat → Int → Int → Int → (Int → Int → Int → Option α) → ((List (Int × Int × Int)) → Option α) → Option α
abbrev T21 (α : Type) : Type := Nat → Int → Int → Int → (List (Int × Int × Int)) → Int → Int → Int → (Int → Int → Int → (List (Int × Int × Int)) → Int → Int → Int → Option α) → ((List (Int × Int × Int)) → Option α) → Option α
abbrev T22 (α : Type) : Type := Nat → Int → ((List (Int × Int × Int)) → Option α) → Option α
abbrev T23 (α : Type) : Type := Nat → Int → Int → Int → Int → Int → (List (Int × Int × Int)) → List Bool → (List (Int × Int × Int)) → (List (Int × Int × Int)) → (Int → Int → Int → Int → Int → (List (Int × Int × Int)) → List Bool → (List (Int × Int × Int)) → (List (Int × Int × Int)) → Option α) → (Int → Int → Option α) → Option α
abbrev T24 (α : Type) : Type := Nat → Int → Int → Int → (List (Int × Int × Int)) → List Bool → (List (Int × Int × Int)) → (Int → Int → Int → (List (Int × Int × Int)) → List Bool → (List (Int × Int × Int)) → Option α) → (Int → Int → Option α) → Option α
abbrev T25 (α : Type) : Type := Nat → Int → (Int → Int → Option α) → Option α
def R0 : List RetS := [⟨[.bool], [.bool], []⟩]
def R1 : List RetS := [⟨[.int], [.int .i64], []⟩]
def R2 : List RetS := [⟨[.int], [.nilsl, .int .i64], []⟩, ⟨[.rows .tr, .int], [.sl 30 .tr, .int .i64], []⟩]
def R3 : List RetS := [⟨[.int, .int, .int], [.agg [.int .i64, .int .i64, .int .i64]], []⟩]
def R4 : List RetS := [⟨[.rows .tr], [.sl 30 .tr], []⟩]
def R5 : List RetS := [⟨[.int, .int], [.int .i64, .int .i64], []⟩]
def S0 : Sig := ⟨[.int .i64, .int .i64, .int .i64], [.int, .int, .int], R0⟩
def S1 : Sig := ⟨[.int .i64], [.int], R1⟩
def S2 : Sig := ⟨[.agg [.int .i64, .int .i64, .int .i64], .int .i64], [.int, .int, .int, .int], R0⟩
def S3 : Sig := ⟨[.int .i64], [.int], R2⟩
def S4 : Sig := ⟨[.sl 30 .tr, .agg [.int .i64, .int .i64, .int .i64]], [.rows .tr, .int, .int, .int], R0⟩
def S5 : Sig := ⟨[.agg [.int .i64, .int .i64, .int .i64]], [.int, .int, .int], R1⟩
def S6 : Sig := ⟨[.int .i64, .int .i64], [.int, .int], R1⟩
def S7 : Sig := ⟨[.agg [.int .i64, .int .i64, .int .i64], .int .i64, .int .i64], [.int, .int, .int, .int, .int], R3⟩
def S8 : Sig := ⟨[.agg [.int .i64, .int .i64, .int .i64]], [.int, .int, .int], R4⟩
def S9 : Sig := ⟨[.int .i64], [.int], R5⟩
def S10 : Sig := ⟨[.int .i64], [.int], R0⟩
def S11 : Sig := ⟨[.agg [.int .i64, .int .i64, .int .i64]], [.int, .int, .int], R0⟩
def S12 : Sig := ⟨[.int .i64], [.int], R4⟩
def S13 : Sig := ⟨[.agg [.int .i64, .int .i64, .int .i64]], [.int, .int, .int], R3⟩
def M : FuncId → List Nat := tabM []
def jt0 : Nat → Option Tpl := jtOf []

def eqs : TypeId → Nat → Bool := eqTab [(30, 3)]
theorem eqs_ok : EqOK Try.prog eqs := eqTab_ok (by kernel_rfl)

end Go.Proofs.Ytoejoijickfgaaa
