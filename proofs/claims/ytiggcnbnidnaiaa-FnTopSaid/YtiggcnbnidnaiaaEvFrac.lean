/- What FractionOf tells of a list of numbers: a plain function. -/
import Derived.Test.YtiggcnbnidnaiaaEvSig
import Derived.RowKit
namespace Go.Ev
open Go.RowKit
variable {α : Type}
def inBb (n low high : Int) : Bool := decide (low ≤ n) && decide (n ≤ high)
def gof : List Int → Int → Int → Option (Int × Int)
 | [], p, q => some (p, q)
 | a :: r, p, q => if inBb (wrap64 (wrap64 (a * p) + q)) (-1000000) 1000000 && inBb p (-1000000) 1000000 then gof r (wrap64 (wrap64 (a * p) + q)) p else none
def okF : List Int → Nat → Bool
 | [], _ => true
 | a :: r, i => inBb a (-1000000) 1000000 && (i == 0 || decide (1 ≤ a)) && okF r (i + 1)
def uy (l : List Int) : Int × Int × Int :=
 bif inBb (l.length : Int) 1 60 && okF l 0 then match gof l.reverse 1 0 with | some x => (x.1, x.2, 0) | none => (0, 0, 3) else (0, 0, 2)
def aeJ (l : List Int) (r : Int → Int → Int → Option α) : Option α := if l.length ≤ 4611686018427387904 then r (uy l).1 (uy l).2.1 (uy l).2.2 else none
theorem aeU : ∀ (l m : List Int) (p q : Int), gof (l ++ m) p q = (gof l p q).bind fun x => gof m x.1 x.2
 | [], _, _, _ => rfl
 | a :: l, m, p, q => by
   simp only [List.cons_append, gof]
   split
   ·exact aeU l m _ _
   ·rfl
theorem aif : ∀ (l : List Int) (a : Int) (i : Nat), okF (l ++ [a]) i = (okF l i && (inBb a (-1000000) 1000000 && (i + l.length == 0 || decide (1 ≤ a))))
 | [], a, i => by simp [okF]
 | x :: l, a, i => by
   simp only [List.cons_append, okF]
   rw [aif l a (i + 1), List.length_cons, show i + 1 + l.length = i + (l.length + 1) by omega, Bool.and_assoc (inBb x (-1000000) 1000000 && _)]
theorem adu {l : List Int} {k : Nat} (hk : k < l.length) : okF (l.take (k + 1)) 0 = (okF (l.take k) 0 && (inBb l[k] (-1000000) 1000000 && (k == 0 || decide (1 ≤ l[k])))) := by
 rw [List.take_succ_eq_append_getElem hk, aif, List.length_take, Nat.zero_add, Nat.min_eq_left (by omega)]
theorem agS : ∀ (l : List Int) (i k : Nat), okF l i = true → okF (l.take k) i = true
 | [], i, k, _ => by simp [okF]
 | x :: l, i, 0, _ => rfl
 | x :: l, i, k + 1, h => by
   simp only [List.take_succ_cons, okF, Bool.and_eq_true] at h ⊢
   exact ⟨h.1, agS l (i + 1) k h.2⟩
theorem aip {l : List Int} {k : Nat} (hk : k < l.length) (h : (inBb l[k] (-1000000) 1000000 && (k == 0 || decide (1 ≤ l[k]))) = false) : okF l 0 = false := by
 rw [Bool.eq_false_iff]
 intro e
 have := agS l 0 (k + 1) e
 rw [adu hk, h, Bool.and_false] at this
 cases this
def DJ {α : Type} (f : Nat → α) (k : Nat) : List α := (List.range k).map f
theorem adR {α : Type} (f : Nat → α) (k : Nat) : DJ f (k + 1) = DJ f k ++ [f k] := by simp [DJ, List.range_succ]
theorem agN {α : Type} (f : Nat → α) (k : Nat) : (DJ f k).length = k := by simp [DJ]
def bkF (len : Nat) (zs : List Int) (k : Nat) : Int × Int := ((len : Int) - 1 - (k : Int), zs[len - 1 - k]?.getD 0)
theorem ahD {α : Type} (f : Nat → α) {k n : Nat} (h : k ≤ n) : ∃ r, DJ f n = DJ f k ++ r := by
 obtain ⟨m, rfl⟩ : ∃ m, n = k + m := ⟨n - k, by omega⟩
 exact ⟨((List.range m).map fun j => k + j).map f, by unfold DJ; rw [List.range_add, List.map_append]⟩
theorem aja (zs : List Int) : (DJ (bkF zs.length zs) zs.length).map Prod.snd = zs.reverse := by
 apply List.ext_getElem
 ·simp [DJ]
 ·intro i h1 h2
  have hi : i < zs.length := by simpa using h2
  simp only [DJ, List.getElem_map, List.getElem_range, bkF, List.getElem_reverse]
  rw [List.getElem?_eq_getElem (by omega)]
  rfl
end Go.Ev
