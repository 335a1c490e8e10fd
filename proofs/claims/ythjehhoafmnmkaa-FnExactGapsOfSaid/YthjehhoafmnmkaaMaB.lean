/- Plain facts of numbers: no program in sight. -/
import Derived.Test.YthjehhoafmnmkaaEvDefs
import Derived.WalkKit
namespace Go.Sh
open Go Go.Ev
abbrev w64 (n : Int) : Int := IntKind.i64.wrap n
def bs (l : List Nat) : ByteArray := ⟨(l.map UInt8.ofNat).toArray⟩
theorem lJ {n : Int} (h0 : -9223372036854775808 ≤ n) (h1 : n ≤ 9223372036854775807) : w64 n = n := IntWalk.i64_in n ⟨h0, h1⟩
theorem Oj {a b A B : Int} (ha : -A ≤ a) (ha2 : a ≤ A) (hb : -B ≤ b) (hb2 : b ≤ B) : -(A * B) ≤ a * b ∧ a * b ≤ A * B := by
 have hA : 0 ≤ A := by omega
 have hB : 0 ≤ B := by omega
 have h : (a * b).natAbs ≤ (A * B).natAbs := by
  rw [Int.natAbs_mul, Int.natAbs_mul]
  exact Nat.mul_le_mul (by omega) (by omega)
 have := Int.mul_nonneg hA hB
 omega
theorem cZ {a b : Int} (h : a < b) : decide (a < b) = true := decide_eq_true h
theorem iZ {a b : Int} (h : b ≤ a) : decide (a < b) = false := decide_eq_false (by omega)
theorem gQ {a b : Int} (h : a ≤ b) : decide (a ≤ b) = true := decide_eq_true h
theorem adA {a b : Int} (h : b < a) : decide (a ≤ b) = false := decide_eq_false (by omega)
theorem adm {a b : Int} (h : a ≠ b) : decide (a = b) = false := decide_eq_false h
theorem OW {a b : Nat} (h : a ≤ b) : decide (a ≤ b) = true := decide_eq_true h
theorem YZ : big = 1099511627776 := rfl
theorem Uy {β : Type} {s : List β} {i : Nat} {e : β} {rest : List β} (h : s.drop i = e :: rest) : s[i]? = some e ∧ s.drop (i + 1) = rest ∧ i < s.length := by
 have hi : i < s.length := by
  rcases Nat.lt_or_ge i s.length with h1 | h1
  ·exact h1
  ·rw [List.drop_eq_nil_of_le h1] at h; cases h
 rw [List.drop_eq_getElem_cons hi] at h
 injection h with h1 h2
 exact ⟨by rw [List.getElem?_eq_getElem hi, h1], h2, hi⟩
theorem aab {β : Type} {s : List β} {i : Nat} (h : s.drop i = []) : s.length ≤ i := List.drop_eq_nil_iff.1 h
theorem tdiv_floor (a b : Int) (hb : 0 < b) : (bif (!decide (Int.tmod a b = 0)) then bif (!(decide (a < 0) == decide (b < 0))) then Int.tdiv a b - 1 else Int.tdiv a b else Int.tdiv a b) = a / b := by
 have hb0 : decide (b < 0) = false := by simp; omega
 have h3 := Int.tmod_add_mul_tdiv a b
 have h4 := Int.lt_tmod_of_pos a hb
 have h5 := Int.tmod_lt_of_pos a hb
 have key : ∀ q t : Int, t + b * q = a → 0 ≤ t → t < b → a / b = q := fun q t e1 e2 e3 => ((Int.ediv_emod_unique hb).2 ⟨e1, e2, e3⟩).1
 rw [hb0]
 by_cases ht : Int.tmod a b = 0
 ·rw [key _ _ h3 (by omega) h5]
  simp [ht]
 ·by_cases hn : a < 0
  ·have hneg : Int.tmod a b ≤ 0 := by
    have := Int.tmod_nonneg b (a := -a) (by omega)
    rw [Int.neg_tmod] at this
    omega
   rw [key (Int.tdiv a b - 1) (Int.tmod a b + b) (by rw [Int.mul_sub]; omega) (by omega) (by omega)]
   simp [ht, hn]
  ·have hpos : 0 ≤ Int.tmod a b := Int.tmod_nonneg b (by omega)
   rw [key _ _ h3 hpos h5]
   simp [ht, hn]
theorem tdiv_abs (a b : Int) : -(a.natAbs : Int) ≤ Int.tdiv a b ∧ Int.tdiv a b ≤ a.natAbs := by
 have := Int.natAbs_tdiv_le_natAbs a b
 omega
theorem rest_eq {x n : Int} (hn : 0 < n) : Int.tmod (Int.tmod x n + n) n = x % n := by
 have h1 : -n < Int.tmod x n := Int.lt_tmod_of_pos x hn
 rw [Int.tmod_eq_emod_of_nonneg (by omega), Int.add_emod_right]
 have := Int.tmod_add_mul_tdiv x n
 have e : Int.tmod x n = x - n * Int.tdiv x n := by omega
 rw [e, Int.sub_mul_emod_self_left]
end Go.Sh
