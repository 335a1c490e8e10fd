/- What is compared cell by cell: printed by a program of ours. -/
import Derived.Test.YtamgbocajdfbhaaEvSig
import Derived.Test.YtamgbocajdfbhaaShXAreLikePolygons
import Derived.Test.YtamgbocajdfbhaaProg
namespace Go.Proofs.Ytamgbocajdfbhaa
open Go Go.Ev Go.Sh Go.Proofs

/-! types and signatures, by short names -/
abbrev T0 (α : Type) : Type := Nat → Int → Int → (Int → Int → Option α) → Option α
abbrev T1 (α : Type) : Type := Nat → Int → (List (Int × Int)) → (List (Int × Int)) → (Int → (List (Int × Int)) → (List (Int × Int)) → Option α) → ((List (Int × Int)) → Option α) → Option α
abbrev T2 (α : Type) : Type := Nat → Int → Int → Int → (Bool → Option α) → Option α
abbrev T3 (α : Type) : Type := Nat → Int → (Bool → Option α) → Option α
abbrev T4 (α : Type) : Type := Nat → Int → Int → Int → Int → Int → (Int → Int → Option α) → Option α
abbrev T5 (α : Type) : Type := Nat → Int → Int → Int → Int → (Int → Option α) → Option α
abbrev T6 (α : Type) : Type := Nat → Int → Int → (Bool → Option α) → Option α
abbrev T7 (α : Type) : Type := Nat → Int → Int → Int → Int → Int → Int → (Int → Option α) → Option α
abbrev T8 (α : Type) : Type := Nat → Int → Int → (Int → Option α) → Option α
abbrev T9 (α : Type) : Type := Nat → Int → Int → Int → (List (Int × Int)) → (Int → Int → Int → (List (Int × Int)) → Option α) → (Bool → Option α) → Option α
abbrev T10 (α : Type) : Type := Nat → (List (Int × Int)) → (Bool → Option α) → Option α
abbrev T11 (α : Type) : Type := Nat → Int → Int → (Int → Int → Option α) → (Int → Option α) → Option α
abbrev T12 (α : Type) : Type := Nat → Int → Int → Int → Int → Int → Int → Int → Int → Int → (Int → Int → Int → Int → Int → Int → Int → Int → Int → Option α) → (Int → Int → Option α) → Option α
abbrev T13 (α : Type) : Type := Nat → Int → Int → Int → Int → Int → Int → (Int → Int → Option α) → Option α
abbrev T14 (α : Type) : Type := Nat → Int → Int → Int → Int → Int → Int → Int → Int → (Int → Int → Int → Int → Option α) → Option α
abbrev T15 (α : Type) : Type := Nat → Int → (List (Int × Int)) → Int → Int → Int → Int → Int → Int → (List (Int × Int)) → (Int → (List (Int × Int)) → Int → Int → Int → Int → Int → Int → (List (Int × Int)) → Option α) → ((List (Int × Int)) → Option α) → Option α
abbrev T16 (α : Type) : Type := Nat → Int → Int → Int → Int → (Bool → Option α) → Option α
abbrev T17 (α : Type) : Type := Nat → Int → (List (Int × Int)) → (List (Int × Int)) → (Int → (List (Int × Int)) → (List (Int × Int)) → Option α) → (Bool → Option α) → Option α
abbrev T18 (α : Type) : Type := Nat → Int → (List (Int × Int)) → (Int → (List (Int × Int)) → Option α) → (Int → Option α) → Option α
abbrev T19 (α : Type) : Type := Nat → (List (Int × Int)) → ((List (Int × Int)) → Option α) → Option α
abbrev T20 (α : Type) : Type := Nat → (List (Int × Int)) → (List (Int × Int)) → (Bool → Option α) → Option α
abbrev T21 (α : Type) : Type := Nat → (List (Int × Int)) → (Int → Option α) → Option α
abbrev T22 (α : Type) : Type := Nat → Int → Int → Int → Int → (List (Int × Int)) → (List (Int × Int)) → (List (Int × Int)) → (Int → Int → Int → Int → (List (Int × Int)) → (List (Int × Int)) → (List (Int × Int)) → Option α) → ((List (Int × Int)) → Bool → Option α) → Option α
abbrev T23 (α : Type) : Type := Nat → Int → Int → Int → (List (Int × Int)) → (List (Int × Int)) → (Int → Int → Int → (List (Int × Int)) → (List (Int × Int)) → Option α) → ((List (Int × Int)) → Bool → Option α) → Option α
abbrev T24 (α : Type) : Type := Nat → Int → Int → (List (Int × Int)) → (List (Int × Int)) → (Int → Int → (List (Int × Int)) → (List (Int × Int)) → Option α) → ((List (Int × Int)) → Bool → Option α) → Option α
abbrev T25 (α : Type) : Type := Nat → (List (Int × Int)) → (List (Int × Int)) → (Int → Option α) → Option α
abbrev T26 (α : Type) : Type := Nat → (List (Int × Int)) → ((List (Int × Int)) → Bool → Option α) → Option α
abbrev T27 (α : Type) : Type := Nat → Bool → Int → (List (Int × Int)) → (List (Int × Int)) → (Bool → Int → (List (Int × Int)) → (List (Int × Int)) → Option α) → (Bool → Int → Option α) → Option α
abbrev T28 (α : Type) : Type := Nat → Int → Int → (List (Int × Int)) → (Int → Int → (List (Int × Int)) → Option α) → (Int → Option α) → Option α
abbrev T29 (α : Type) : Type := Nat → Int → Int → Int → Int → (Int → Int → Option α) → Option α
abbrev T30 (α : Type) : Type := Nat → (List (Int × Int)) → Int → (Int → Int → Option α) → Option α
abbrev T31 (α : Type) : Type := Nat → Int → Int → Int → Int → Int → (List (Int × Int)) → Int → Int → Int → Int → (Int → Int → Int → Int → Int → (List (Int × Int)) → Int → Int → Int → Int → Option α) → (Bool → Option α) → Option α
abbrev T32 (α : Type) : Type := Nat → Int → Int → (List (Int × Int)) → (Int → Int → (List (Int × Int)) → Option α) → (Bool → Option α) → Option α
abbrev T33 (α : Type) : Type := Nat → Int → ((List (Int × Int)) → Option α) → (Option α) → Option α
abbrev T34 (α : Type) : Type := Nat → Int → (Int → Option α) → Option α
abbrev T35 (α : Type) : Type := Nat → Int → Int → Int → Int → Int → (Int → Int → Int → Int → Int → Option α) → (Int → Option α) → Option α
abbrev T36 (α : Type) : Type := Nat → Int → Int → (List (Int × Int)) → Int → Int → Int → Int → (Int → Int → Option α) → Option α
abbrev T37 (α : Type) : Type := Nat → Int → Int → Int → Int → Int → Int → Int → Int → (List (Int × Int)) → (List (Int × Int)) → (Int → Int → Int → Int → Int → Int → Int → Int → (List (Int × Int)) → (List (Int × Int)) → Option α) → ((List (Int × Int)) → Option α) → Option α
abbrev T38 (α : Type) : Type := Nat → Int → Int → Int → List Int → (Int → Int → Int → List Int → Option α) → (Int → Option α) → Option α
abbrev T39 (α : Type) : Type := Nat → List Int → (Int → Option α) → Option α
abbrev T40 (α : Type) : Type := Nat → Int → Int → (List (Int × Int)) → (List (Int × Int)) → (Int → Int → (List (Int × Int)) → (List (Int × Int)) → Option α) → (Int → Option α) → Option α
abbrev T41 (α : Type) : Type := Nat → Int → Int → (List (Int × Int)) → (Int → Int → (List (Int × Int)) → Option α) → ((List (Int × Int)) → Option α) → Option α
abbrev T42 (α : Type) : Type := Nat → (Int → Option α) → Option α
abbrev T43 (α : Type) : Type := Nat → (Bool → Option α) → Option α
abbrev T44 (α : Type) : Type := Nat → (List (Int × Int)) → (List (Int × Int)) → ((List (Int × Int)) → Option α) → Option α
abbrev T45 (α : Type) : Type := Nat → Int → Int → (List (Int × Int)) → (List (Int × Int)) → (Int → Int → (List (Int × Int)) → (List (Int × Int)) → Option α) → (Int → Option α) → ((List (Int × Int)) → Int → Option α) → Option α
abbrev T46 (α : Type) : Type := Nat → Int → Int → (List (Int × Int)) → (List (Int × Int)) → (Int → Int → (List (Int × Int)) → (List (Int × Int)) → Option α) → (Bool → Option α) → Option α
abbrev T47 (α : Type) : Type := Nat → (List (Int × Int)) → (Int → Option α) → ((List (Int × Int)) → Int → Option α) → Option α
abbrev T48 (α : Type) : Type := Nat → (List (Int × Int)) → Int → (Int → Option α) → Option α
abbrev T49 (α : Type) : Type := Nat → (List (Int × Int)) → (List (Int × Int)) → (Bool → Int → Option α) → Option α
def R0 : List RetS := [⟨[.int], [.int .i64], []⟩]
def R1 : List RetS := [⟨[.int, .int], [.agg [.int .i64, .int .i64]], []⟩]
def R2 : List RetS := [⟨[.rows .pt], [.sl 34 .pt], []⟩]
def R3 : List RetS := [⟨[.bool], [.bool], []⟩]
def R4 : List RetS := [⟨[.int, .int, .int, .int], [.agg [.int .i64, .int .i64, .int .i64, .int .i64]], []⟩]
def R5 : List RetS := [⟨[.rows .pt, .bool], [.sl 34 .pt, .bool], []⟩]
def R6 : List RetS := [⟨[.bool, .int], [.bool, .int .i64], []⟩]
def R7 : List RetS := [⟨[.rows .pt], [.sl 34 .pt], []⟩, ⟨[], [.nilsl], []⟩]
def R8 : List RetS := [⟨[.int, .int], [.int .i64, .int .i64], []⟩]
def R9 : List RetS := [⟨[.rows .pt], [], [.sl 34 .pt]⟩]
def R10 : List RetS := [⟨[.int], [.nilsl, .int .i64], []⟩, ⟨[.rows .pt, .int], [.sl 34 .pt, .int .i64], []⟩]
def S0 : Sig := ⟨[.sl 33 .pt, .int .i64], [.rows .pt, .int], R0⟩
def S1 : Sig := ⟨[.agg [.int .i64, .int .i64]], [.int, .int], R1⟩
def S2 : Sig := ⟨[.sl 33 .pt], [.rows .pt], R2⟩
def S3 : Sig := ⟨[.int .i64, .int .i64, .int .i64], [.int, .int, .int], R3⟩
def S4 : Sig := ⟨[.int .i64], [.int], R3⟩
def S5 : Sig := ⟨[.agg [.int .i64, .int .i64]], [.int, .int], R3⟩
def S6 : Sig := ⟨[.agg [.int .i64, .int .i64], .agg [.int .i64, .int .i64], .int .i64], [.int, .int, .int, .int, .int], R1⟩
def S7 : Sig := ⟨[.agg [.int .i64, .int .i64], .agg [.int .i64, .int .i64]], [.int, .int, .int, .int], R0⟩
def S8 : Sig := ⟨[.agg [.int .i64, .int .i64], .agg [.int .i64, .int .i64], .agg [.int .i64, .int .i64]], [.int, .int, .int, .int, .int, .int], R0⟩
def S9 : Sig := ⟨[.agg [.int .i64, .int .i64]], [.int, .int], R0⟩
def S10 : Sig := ⟨[.sl 34 .pt], [.rows .pt], R3⟩
def S11 : Sig := ⟨[.slm 26 [.sl 34 .pt, .sl 34 .pt]], [.rows .pt, .rows .pt], R0⟩
def S12 : Sig := ⟨[.int .i64, .int .i64], [.int, .int], R0⟩
def S13 : Sig := ⟨[.agg [.int .i64, .int .i64, .int .i64, .int .i64], .agg [.int .i64, .int .i64]], [.int, .int, .int, .int, .int, .int], R1⟩
def S14 : Sig := ⟨[.agg [.int .i64, .int .i64, .int .i64, .int .i64], .agg [.int .i64, .int .i64, .int .i64, .int .i64]], [.int, .int, .int, .int, .int, .int, .int, .int], R4⟩
def S15 : Sig := ⟨[.sl 34 .pt], [.rows .pt], R2⟩
def S16 : Sig := ⟨[.agg [.int .i64, .int .i64], .agg [.int .i64, .int .i64]], [.int, .int, .int, .int], R3⟩
def S17 : Sig := ⟨[.sl 34 .pt, .sl 34 .pt], [.rows .pt, .rows .pt], R3⟩
def S18 : Sig := ⟨[.sl 34 .pt], [.rows .pt], R0⟩
def S19 : Sig := ⟨[.sl 34 .pt], [.rows .pt], R5⟩
def S20 : Sig := ⟨[.sl 34 .pt, .sl 34 .pt], [.rows .pt, .rows .pt], R6⟩
def S21 : Sig := ⟨[.sl 34 .pt, .fn 22 []], [.rows .pt], R0⟩
def S22 : Sig := ⟨[.sl 34 .pt, .fn 22 []], [.rows .pt], R3⟩
def S23 : Sig := ⟨[.sl 34 .pt, .int .i64], [.rows .pt, .int], R1⟩
def S24 : Sig := ⟨[.agg [.int .i64, .int .i64], .agg [.int .i64, .int .i64]], [.int, .int, .int, .int], R1⟩
def S25 : Sig := ⟨[.nilsl, .int .i64], [.int], R7⟩
def S26 : Sig := ⟨[.slm 38 [.sl 34 .pt, .sl 34 .pt]], [.rows .pt, .rows .pt], R2⟩
def S27 : Sig := ⟨[.int .i64], [.int], R0⟩
def S28 : Sig := ⟨[.agg [.int .i64, .int .i64], .ptr 26 [.sl 34 .pt], .ptr 34 [.int .i64, .int .i64], .ptr 34 [.int .i64, .int .i64]], [.int, .int, .rows .pt, .int, .int, .int, .int], R8⟩
def S29 : Sig := ⟨[.sl 3 (.int .i64)], [.rows (.int .i64)], R0⟩
def S30 : Sig := ⟨[.sl 34 .pt, .sl 34 .pt, .fn 28 []], [.rows .pt, .rows .pt], R0⟩
def S31 : Sig := ⟨[.msl 34 .pt], [.rows .pt], R9⟩
def S32 : Sig := ⟨[.sl 34 .pt, .fn 57 []], [.rows .pt], R0⟩
def S33 : Sig := ⟨[.sl 34 .pt, .fn 57 []], [.rows .pt], R3⟩
def S34 : Sig := ⟨[.nilsl, .fn 57 []], [], R0⟩
def S35 : Sig := ⟨[.nilsl, .fn 57 []], [], R3⟩
def S36 : Sig := ⟨[.nilsl], [], R3⟩
def S37 : Sig := ⟨[.sl 34 .pt], [.rows .pt], R10⟩
def S38 : Sig := ⟨[.nilsl, .nilsl], [], R3⟩
def S39 : Sig := ⟨[.nilsl, .sl 34 .pt], [.rows .pt], R3⟩
def S40 : Sig := ⟨[.sl 34 .pt, .nilsl], [.rows .pt], R3⟩
def S41 : Sig := ⟨[.sl 33 .pt, .sl 33 .pt], [.rows .pt, .rows .pt], R3⟩
def M : FuncId → List Nat := tabM [(30, [1])]
def jt0 : Nat → Option Tpl := jtOf []

def eqs : TypeId → Nat → Bool := eqTab [(34, 2)]
theorem eqs_ok : EqOK Try.prog eqs := eqTab_ok (by kernel_rfl)

end Go.Proofs.Ytamgbocajdfbhaa
