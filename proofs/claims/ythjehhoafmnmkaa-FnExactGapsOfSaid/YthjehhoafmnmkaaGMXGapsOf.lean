import Derived.Test.YthjehhoafmnmkaaGPXGapsOf
import Derived.Test.YthjehhoafmnmkaaGKXGapsOf
namespace Go.Proofs.Ythjehhoafmnmkaa
open Go Go.RowKit Go.Shelf Go.Ev Go.Sh Go.Maps
variable {α : Type}
def dif (q : Int) : Int → List Int → List Int
 | p, [] => [q - p]
 | p, y :: r => (y - p) :: dif q y r
theorem Qx (f : Nat → α) (n : Nat) : (List.range (n + 1)).map f = f 0 :: (List.range n).map fun i => f (i + 1) := by
 rw [List.range_succ_eq_map, List.map_cons, List.map_map]
 rfl
theorem ac3 (q : Int) : ∀ (r : List Int) (x : Int), (List.range (x :: r).length).map (sgAt (x :: r) q) = dif q x r
 | [], x => by
   rw [List.length_singleton, Qx]
   simp [dif, sgAt]
 | y :: r, x => by
   rw [List.length_cons, Qx]
   have h1 : sgAt (x :: y :: r) q 0 = y - x := by simp [sgAt]
   have h2 : ((List.range (y :: r).length).map fun i => sgAt (x :: y :: r) q (i + 1)) = (List.range (y :: r).length).map (sgAt (y :: r) q) := by
    apply List.map_congr_left
    intro i _
    simp [sgAt]
   rw [h1, h2, ac3 q r y]
   rfl
theorem afQ (q : Int) : ∀ (r : List Int) (x : Int), (∀ y ∈ x :: r, y < q) → (dif q x r).filter (fun g => decide (g ≠ 0)) = dif q x (ddI x r)
 | [], x, h => by
   have := h x (by simp)
   have h2 : q - x ≠ 0 := by omega
   simp [dif, ddI, h2]
 | y :: r, x, h => by
   have ih := afQ q r y fun z hz => h z (List.mem_cons_of_mem _ hz)
   unfold ddI
   by_cases e : y = x
   ·subst e
    rw [if_pos rfl, ← ih]
    simp [dif]
   ·have h2 : y - x ≠ 0 := by omega
    rw [if_neg e]
    simp only [dif]
    rw [List.filter_cons_of_pos (by simpa using h2), ih]
theorem ai4 {P : List Int} {q : Int} (h0 : P[0]?.getD 0 = 0) (hne : P ≠ []) (hq : ∀ y ∈ P, y < q) : sgN P q P.length = vW (ddJ P) q (ddJ P).length := by
 cases P with
 | nil => exact absurd rfl hne
 | cons x r =>
   have hx : x = 0 := by simpa using h0
   subst hx
   have h1 : vW (ddJ (0 :: r)) q (ddJ (0 :: r)).length = (List.range (ddJ (0 :: r)).length).map (sgAt (ddJ (0 :: r)) q) := by
    unfold vW
    apply List.map_congr_left
    intro i _
    unfold PQ sgAt
    simp [ddJ]
   rw [h1]
   show sgN (0 :: r) q (0 :: r).length = (List.range (0 :: ddI 0 r).length).map (sgAt (0 :: ddI 0 r) q)
   rw [ac3]
   unfold sgN
   rw [ac3, afQ q r 0 hq]
theorem ah1 {p q : Int} {n : Nat} (hq : 0 < q) (hn : 0 < n) : (plc p q n)[0]?.getD 0 = 0 := by
 have hl : 0 < (sbM p q 0 n).length := by rw [jY]; exact hn
 have h0 : (0 : Int) ∈ sbM p q 0 n := oQ.2 ⟨by omega, by omega⟩
 unfold plc
 rw [List.getElem?_map]
 cases hs : sbM p q 0 n with
 | nil => rw [hs] at hl; simp at hl
 | cons h r =>
   have hpw := Nk (p := p) (q := q) (a := 0) (n := n)
   rw [hs] at h0 hpw
   rw [List.pairwise_cons] at hpw
   show kyM p q h = 0
   have h1 : 0 ≤ kyM p q h := Int.emod_nonneg _ (by omega)
   have hz : kyM p q 0 = 0 := by unfold kyM; simp
   rcases List.mem_cons.1 h0 with e | e
   ·rw [← e]; exact hz
   ·have := hpw.1 0 e
    unfold ltM at this
    rw [hz] at this
    omega
theorem ajS {p q : Int} {n : Nat} (hq : 0 < q) (hn : 0 < n) : sgN (plc p q n) q n = vW (pls p q n) q (pls p q n).length := by
 have := ai4 (P := plc p q n) (q := q) (ah1 hq hn) (fun e => by have := yX (p := p) (q := q) (n := n); rw [e] at this; simp at this; omega) (fun y hy => (aeI hq hy).2)
 rw [yX] at this
 exact this
theorem Ov.len {s : List Int} {t : List (Int × Int)} (h : Ov s t) : t.length ≤ s.length := by
 have h1 : (t.map Prod.fst).Nodup := by
  unfold List.Nodup
  rw [List.pairwise_map]
  exact h.up.imp fun h => by omega
 have := Wv (t.map Prod.fst) s h1 fun x hx => by
  obtain ⟨⟨y, c⟩, hy, rfl⟩ := List.mem_map.1 hx
  exact ((h.mem y c).1 hy).1
 simpa using this
end Go.Proofs.Ythjehhoafmnmkaa
