/- What is compared cell by cell: printed by a program of ours. -/
import Derived.Test.YtfoblndfgolncaaEvSort
import Derived.Test.YtfoblndfgolncaaShXHullOf
import Derived.Test.YtfoblndfgolncaaProg
namespace Go.Proofs.Ytfoblndfgolncaa
open Go Go.Ev Go.Sh Go.Proofs

/-! types and signatures, by short names -/
abbrev T0 (α : Type) : Type := Nat → Int → Int → (Int → Int → Option α) → Option α
abbrev T1 (α : Type) : Type := Nat → Int → (List (Int × Int)) → (List (Int × Int)) → (Int → (List (Int × Int)) → (List (Int × Int)) → Option α) → ((List (Int × Int)) → Option α) → Option α
abbrev T2 (α : Type) : Type := Nat → Int → Int → Int → (Bool → Option α) → Option α
abbrev T3 (α : Type) : Type := Nat → Int → (Bool → Option α) → Option α
abbrev T4 (α : Type) : Type := Nat → Int → Int → (Bool → Option α) → Option α
abbrev T5 (α : Type) : Type := Nat → Int → (List (Int × Int)) → (Int → (List (Int × Int)) → Option α) → (Int → Option α) → Option α
abbrev T6 (α : Type) : Type := Nat → (List (Int × Int)) → (Int → Option α) → Option α
abbrev T7 (α : Type) : Type := Nat → Int → Int → Int → Int → (Bool → Option α) → Option α
abbrev T8 (α : Type) : Type := Nat → Int → Int → Int → Int → Int → (Int → Int → Option α) → Option α
abbrev T9 (α : Type) : Type := Nat → Int → Int → Int → Int → (Int → Option α) → Option α
abbrev T10 (α : Type) : Type := Nat → Int → (List (Int × Int)) → Int → Int → (Int → (List (Int × Int)) → Int → Int → Option α) → ((List (Int × Int)) → Option α) → Option α
abbrev T11 (α : Type) : Type := Nat → Bool → Int → (List (Int × Int)) → Int → Int → (List (Int × Int)) → Int → Int → Int → Int → (Bool → Int → (List (Int × Int)) → Int → Int → (List (Int × Int)) → Int → Int → Int → Int → Option α) → ((List (Int × Int)) → Option α) → Option α
abbrev T12 (α : Type) : Type := Nat → (List (Int × Int)) → Int → Int → (List (Int × Int)) → ((List (Int × Int)) → Option α) → Option α
abbrev T13 (α : Type) : Type := Nat → Int → Int → Int → Int → Int → Int → (Int → Option α) → Option α
abbrev T14 (α : Type) : Type := Nat → Int → Int → (Int → Option α) → Option α
abbrev T15 (α : Type) : Type := Nat → Int → Int → Int → (List (Int × Int)) → (Int → Int → Int → (List (Int × Int)) → Option α) → (Bool → Option α) → Option α
abbrev T16 (α : Type) : Type := Nat → (List (Int × Int)) → ((List (Int × Int)) → Option α) → Option α
abbrev T17 (α : Type) : Type := Nat → (List (Int × Int)) → (Bool → Option α) → Option α
abbrev T18 (α : Type) : Type := Nat → (List (Int × Int)) → (Int → Option α) → ((List (Int × Int)) → Int → Option α) → Option α
abbrev T19 (α : Type) : Type := Nat → Int → Int → (List (Int × Int)) → (Int → Int → (List (Int × Int)) → Option α) → (Int → Option α) → Option α
abbrev T20 (α : Type) : Type := Nat → Int → Int → Int → List Int → (Int → Int → Int → List Int → Option α) → (Int → Option α) → Option α
abbrev T21 (α : Type) : Type := Nat → List Int → (Int → Option α) → Option α
abbrev T22 (α : Type) : Type := Nat → Int → ((List (Int × Int)) → Option α) → (Option α) → Option α
abbrev T23 (α : Type) : Type := Nat → Int → Int → Int → Int → (Int → Int → Option α) → Option α
abbrev T24 (α : Type) : Type := Nat → (List (Int × Int)) → Int → (Int → Int → Option α) → Option α
abbrev T25 (α : Type) : Type := Nat → Int → Int → Int → Int → Int → (List (Int × Int)) → Int → Int → Int → Int → (Int → Int → Int → Int → Int → (List (Int × Int)) → Int → Int → Int → Int → Option α) → (Bool → Option α) → Option α
abbrev T26 (α : Type) : Type := Nat → Int → Int → (List (Int × Int)) → (Int → Int → (List (Int × Int)) → Option α) → (Bool → Option α) → Option α
abbrev T27 (α : Type) : Type := Nat → Int → Nat → Nat → Int → (List (Int × Int)) → (Int → Nat → Nat → Int → (List (Int × Int)) → Option α) → ((List (Int × Int)) → Option α) → Option α
abbrev T28 (α : Type) : Type := Nat → Int → (List (Int × Int)) → (Int → (List (Int × Int)) → Option α) → ((List (Int × Int)) → Option α) → Option α
abbrev T29 (α : Type) : Type := Nat → Int → Int → (List (Int × Int)) → Int → Int → (List (Int × Int)) → (Int → Int → (List (Int × Int)) → Int → Int → (List (Int × Int)) → Option α) → ((List (Int × Int)) → Option α) → Option α
abbrev T30 (α : Type) : Type := Nat → Int → Int → (List (Int × Int)) → (List (Int × Int)) → (Int → Int → (List (Int × Int)) → (List (Int × Int)) → Option α) → ((List (Int × Int)) → Option α) → Option α
abbrev T31 (α : Type) : Type := Nat → Int → Int → (List (Int × Int)) → (Int → Int → (List (Int × Int)) → Option α) → ((List (Int × Int)) → Option α) → Option α
abbrev T32 (α : Type) : Type := Nat → (List (Int × Int)) → (Option α) → ((List (Int × Int)) → Option α) → Option α
abbrev T33 (α : Type) : Type := Nat → (Option α) → Option α
abbrev T34 (α : Type) : Type := Nat → ((List (Int × Int)) → Option α) → Option α
abbrev T35 (α : Type) : Type := Nat → (List (Int × Int)) → (List (Int × Int)) → ((List (Int × Int)) → Option α) → Option α
abbrev T36 (α : Type) : Type := Nat → Int → (List (Int × Int)) → (List (Int × Int)) → (Int → (List (Int × Int)) → (List (Int × Int)) → Option α) → (Bool → Option α) → Option α
abbrev T37 (α : Type) : Type := Nat → Int → Int → (List (Int × Int)) → (Int → Int → (List (Int × Int)) → Option α) → (Int → (List (Int × Int)) → Option α) → Option α
abbrev T38 (α : Type) : Type := Nat → Int → (List (Int × Int)) → (Int → (List (Int × Int)) → Option α) → (Bool → Option α) → Option α
abbrev T39 (α : Type) : Type := Nat → (List (Int × Int)) → Int → (Int → Option α) → Option α
abbrev T40 (α : Type) : Type := Nat → (Bool → Option α) → Option α
abbrev T41 (α : Type) : Type := Nat → (List (Int × Int)) → (List (Int × Int)) → (Bool → Option α) → Option α
abbrev T42 (α : Type) : Type := Nat → (List (Int × Int)) → Int → (Int → (List (Int × Int)) → Option α) → Option α
abbrev T43 (α : Type) : Type := Nat → Int → (Int → Option α) → Option α
def R0 : List RetS := [⟨[.int], [.int .i64], []⟩]
def R1 : List RetS := [⟨[.int, .int], [.agg [.int .i64, .int .i64]], []⟩]
def R2 : List RetS := [⟨[.rows .pt], [.sl 33 .pt], []⟩]
def R3 : List RetS := [⟨[.bool], [.bool], []⟩]
def R4 : List RetS := [⟨[.int], [.nilsl, .int .i64], []⟩, ⟨[.rows .pt, .int], [.sl 33 .pt, .int .i64], []⟩]
def R5 : List RetS := [⟨[], [.nilsl], []⟩, ⟨[.rows .pt], [.sl 33 .pt], []⟩]
def R6 : List RetS := [⟨[], [], []⟩]
def R7 : List RetS := [⟨[], [.nilsl], []⟩]
def R8 : List RetS := [⟨[.rows .pt], [.sl 33 .pt], []⟩, ⟨[], [.nilsl], []⟩]
def R9 : List RetS := [⟨[.rows .pt], [], [.sl 33 .pt]⟩]
def R10 : List RetS := [⟨[.rows .pt], [.sl 33 .pt], [.nilsl]⟩]
def R11 : List RetS := [⟨[.int, .rows .pt], [.int .i64], [.sl 33 .pt]⟩]
def S0 : Sig := ⟨[.sl 32 .pt, .int .i64], [.rows .pt, .int], R0⟩
def S1 : Sig := ⟨[.agg [.int .i64, .int .i64]], [.int, .int], R1⟩
def S2 : Sig := ⟨[.sl 32 .pt], [.rows .pt], R2⟩
def S3 : Sig := ⟨[.int .i64, .int .i64, .int .i64], [.int, .int, .int], R3⟩
def S4 : Sig := ⟨[.int .i64], [.int], R3⟩
def S5 : Sig := ⟨[.agg [.int .i64, .int .i64]], [.int, .int], R3⟩
def S6 : Sig := ⟨[.sl 33 .pt], [.rows .pt], R0⟩
def S7 : Sig := ⟨[.agg [.int .i64, .int .i64], .agg [.int .i64, .int .i64]], [.int, .int, .int, .int], R3⟩
def S8 : Sig := ⟨[.agg [.int .i64, .int .i64], .agg [.int .i64, .int .i64], .int .i64], [.int, .int, .int, .int, .int], R1⟩
def S9 : Sig := ⟨[.agg [.int .i64, .int .i64], .agg [.int .i64, .int .i64]], [.int, .int, .int, .int], R0⟩
def S10 : Sig := ⟨[.sl 33 .pt], [.rows .pt], R2⟩
def S11 : Sig := ⟨[.agg [.int .i64, .int .i64], .agg [.int .i64, .int .i64], .agg [.int .i64, .int .i64]], [.int, .int, .int, .int, .int, .int], R0⟩
def S12 : Sig := ⟨[.agg [.int .i64, .int .i64]], [.int, .int], R0⟩
def S13 : Sig := ⟨[.sl 33 .pt], [.rows .pt], R3⟩
def S14 : Sig := ⟨[.sl 33 .pt], [.rows .pt], R4⟩
def S15 : Sig := ⟨[.sl 33 .pt, .fn 21 []], [.rows .pt], R0⟩
def S16 : Sig := ⟨[.sl 33 .pt, .fn 21 []], [.rows .pt], R3⟩
def S17 : Sig := ⟨[.sl 33 .pt], [.rows .pt], R5⟩
def S18 : Sig := ⟨[.int .i64, .int .i64], [.int, .int], R0⟩
def S19 : Sig := ⟨[.sl 3 (.int .i64)], [.rows (.int .i64)], R0⟩
def S20 : Sig := ⟨[.nilsl, .fn 25 []], [], R6⟩
def S21 : Sig := ⟨[.nilsl], [], R7⟩
def S22 : Sig := ⟨[.nilsl], [], R2⟩
def S23 : Sig := ⟨[.nilsl], [], R6⟩
def S24 : Sig := ⟨[.nilsl, .int .i64], [.int], R8⟩
def S25 : Sig := ⟨[.slm 24 [.sl 33 .pt, .sl 33 .pt]], [.rows .pt, .rows .pt], R2⟩
def S26 : Sig := ⟨[.sl 33 .pt, .fn 48 []], [.rows .pt], R0⟩
def S27 : Sig := ⟨[.sl 33 .pt, .fn 48 []], [.rows .pt], R3⟩
def S28 : Sig := ⟨[.sl 33 .pt, .int .i64], [.rows .pt, .int], R1⟩
def S29 : Sig := ⟨[.agg [.int .i64, .int .i64], .agg [.int .i64, .int .i64]], [.int, .int, .int, .int], R1⟩
def S30 : Sig := ⟨[.msl 33 .pt, .fn 25 []], [.rows .pt], R9⟩
def S31 : Sig := ⟨[.msl 33 .pt], [.rows .pt], R10⟩
def S32 : Sig := ⟨[.msl 33 .pt], [.rows .pt], R9⟩
def S33 : Sig := ⟨[.nilsl, .nilsl], [], R3⟩
def S34 : Sig := ⟨[.sl 33 .pt, .sl 33 .pt], [.rows .pt, .rows .pt], R3⟩
def S35 : Sig := ⟨[.msl 33 .pt, .int .i64], [.rows .pt, .int], R11⟩
def S36 : Sig := ⟨[.nilsl, .int .i64], [.int], R0⟩
def S37 : Sig := ⟨[.sl 33 .pt, .nilsl], [.rows .pt], R3⟩
def S38 : Sig := ⟨[.sl 33 .pt, .int .i64], [.rows .pt, .int], R0⟩
def S39 : Sig := ⟨[.nilsl, .sl 33 .pt], [.rows .pt], R3⟩
def S40 : Sig := ⟨[.sl 32 .pt], [.rows .pt], R3⟩
def M : FuncId → List Nat := tabM [(9, [1]), (24, [1]), (26, [1]), (28, [1])]
def jt0 : Nat → Option Tpl := jtOf []

def eqs : TypeId → Nat → Bool := eqTab [(33, 2)]
theorem eqs_ok : EqOK Try.prog eqs := eqTab_ok (by kernel_rfl)

end Go.Proofs.Ytfoblndfgolncaa
