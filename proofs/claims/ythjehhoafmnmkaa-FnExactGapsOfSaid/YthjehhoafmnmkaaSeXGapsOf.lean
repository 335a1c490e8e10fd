/- What is compared cell by cell: printed by a program of ours. -/
import Derived.Test.YthjehhoafmnmkaaEvSig
import Derived.Test.YthjehhoafmnmkaaShXGapsOf
import Derived.Test.YthjehhoafmnmkaaProg
namespace Go.Proofs.Ythjehhoafmnmkaa
open Go Go.Ev Go.Sh Go.Proofs
abbrev T0 (α : Type) : Type := Nat → Int → Int → (Int → Option α) → Option α
abbrev T1 (α : Type) : Type := Nat → Int → (Bool → Option α) → Option α
abbrev T2 (α : Type) : Type := Nat → Int → Int → Int → Int → (Int → Option α) → Option α
abbrev T3 (α : Type) : Type := Nat → Int → Int → Int → Int → List Int → Int → Int → (Int → Int → Int → Int → List Int → Int → Int → Option α) → (List Int → Option α) → Option α
abbrev T4 (α : Type) : Type := Nat → Int → Int → Int → List Int → Int → Int → (Int → Int → Int → List Int → Int → Int → Option α) → (List Int → Option α) → Option α
abbrev T5 (α : Type) : Type := Nat → Int → Int → Int → Int → List Int → (Int → Int → Int → Int → List Int → Option α) → (List Int → Option α) → Option α
abbrev T6 (α : Type) : Type := Nat → List Int → Int → Int → Int → Int → Int → (List Int → Option α) → Option α
abbrev T7 (α : Type) : Type := Nat → Int → Int → List Int → (Int → Int → List Int → Option α) → (List Int → Option α) → Option α
abbrev T8 (α : Type) : Type := Nat → Int → Int → Int → Int → Int → Int → Int → Int → List Int → Int → Int → (Int → Int → Int → Int → Int → Int → Int → Int → List Int → Int → Int → Option α) → (List Int → Option α) → Option α
abbrev T9 (α : Type) : Type := Nat → List Int → Int → Int → Int → Int → (List Int → Option α) → Option α
abbrev T10 (α : Type) : Type := Nat → Int → Int → List Int → Int → Int → (Int → Int → List Int → Int → Int → Option α) → (List Int → Option α) → Option α
abbrev T11 (α : Type) : Type := Nat → List Int → Int → Int → Int → (List Int → Option α) → Option α
abbrev T12 (α : Type) : Type := Nat → List Int → Int → Int → (List Int → Option α) → Option α
abbrev T13 (α : Type) : Type := Nat → Int → Int → List Int → List Int → (Int → Int → List Int → List Int → Option α) → (Int → Option α) → Option α
abbrev T14 (α : Type) : Type := Nat → Int → List Int → List Int → (Int → List Int → List Int → Option α) → (Bool → Option α) → Option α
abbrev T15 (α : Type) : Type := Nat → Int → Int → List Int → (Int → Int → List Int → Option α) → (Int → Option α) → Option α
abbrev T16 (α : Type) : Type := Nat → Int → Nat → Nat → Int → List Int → (Int → Nat → Nat → Int → List Int → Option α) → (List Int → Option α) → Option α
abbrev T17 (α : Type) : Type := Nat → Int → List Int → (Int → List Int → Option α) → (List Int → Option α) → Option α
abbrev T18 (α : Type) : Type := Nat → Int → Int → List Int → (Int → Int → List Int → Option α) → (Int → List Int → Option α) → Option α
abbrev T20 (α : Type) : Type := Nat → List Int → (List Int → Option α) → Option α
abbrev T21 (α : Type) : Type := Nat → Int → Int → Int → Int → Int → Int → List Int → (Int → Int → Int → Int → Int → Int → List Int → Option α) → (List Int → Option α) → Option α
def R0 : List RetS := [⟨[.int], [.int .i64], []⟩]
def R1 : List RetS := [⟨[.bool], [.bool], []⟩]
def R2 : List RetS := [⟨[.rows (.int .i64)], [], [.sl 2 (.int .i64)]⟩]
def R3 : List RetS := [⟨[.rows (.int .i64)], [.sl 2 (.int .i64)], []⟩]
def R4 : List RetS := [⟨[.rows (.int .i64)], [.sl 2 (.int .i64)], [.nilsl]⟩]
def R5 : List RetS := [⟨[.int, .rows (.int .i64)], [.int .i64], [.sl 2 (.int .i64)]⟩]
def S0 : Sig := ⟨[.int .i64, .int .i64], [.int, .int], R0⟩
def S1 : Sig := ⟨[.int .i64], [.int], R1⟩
def S2 : Sig := ⟨[.int .i64, .int .i64, .ptr 2 [.int .i64], .ptr 2 [.int .i64]], [.int, .int, .int, .int], R0⟩
def S3 : Sig := ⟨[.msl 2 (.int .i64), .int .i64, .int .i64, .fn 27 [.ptr 2 [.int .i64], .ptr 2 [.int .i64]]], [.rows (.int .i64), .int, .int, .int, .int], R2⟩
def S4 : Sig := ⟨[.msl 2 (.int .i64), .int .i64, .int .i64, .int .i64, .fn 27 [.ptr 2 [.int .i64], .ptr 2 [.int .i64]]], [.rows (.int .i64), .int, .int, .int, .int, .int], R2⟩
def S5 : Sig := ⟨[.msl 2 (.int .i64), .int .i64, .fn 27 [.ptr 2 [.int .i64], .ptr 2 [.int .i64]]], [.rows (.int .i64), .int, .int, .int], R2⟩
def S6 : Sig := ⟨[.msl 2 (.int .i64), .fn 27 [.ptr 2 [.int .i64], .ptr 2 [.int .i64]]], [.rows (.int .i64), .int, .int], R2⟩
def S7 : Sig := ⟨[.int .i64, .int .i64, .int .i64], [.int, .int, .int], R3⟩
def S8 : Sig := ⟨[.sl 2 (.int .i64), .sl 2 (.int .i64)], [.rows (.int .i64), .rows (.int .i64)], R0⟩
def S9 : Sig := ⟨[.sl 2 (.int .i64), .sl 2 (.int .i64)], [.rows (.int .i64), .rows (.int .i64)], R1⟩
def S10 : Sig := ⟨[.sl 2 (.int .i64), .int .i64], [.rows (.int .i64), .int], R0⟩
def S11 : Sig := ⟨[.msl 2 (.int .i64)], [.rows (.int .i64)], R4⟩
def S12 : Sig := ⟨[.msl 2 (.int .i64), .int .i64], [.rows (.int .i64), .int], R5⟩
def S14 : Sig := ⟨[.sl 2 (.int .i64)], [.rows (.int .i64)], R3⟩
def M : FuncId → List Nat := tabM [(18, [1]), (26, [1]), (33, [1]), (45, [1]), (46, [1]), (52, [1]), (54, [1])]
def jt0 : Nat → Option Tpl := jtOf []
def eqs : TypeId → Nat → Bool := acz []
theorem oJ : EqOK Try.prog eqs := ahF (by kernel_rfl)
end Go.Proofs.Ythjehhoafmnmkaa
