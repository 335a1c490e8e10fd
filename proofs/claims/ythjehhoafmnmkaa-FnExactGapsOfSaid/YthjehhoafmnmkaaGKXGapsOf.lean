import Derived.Test.YthjehhoafmnmkaaGTXGapsOf
namespace Go.Proofs.Ythjehhoafmnmkaa
open Go Go.RowKit Go.Shelf Go.Ev Go.Sh Go.Maps
/-- The table, by its keys. -/
def TabK (s : List Int) (t : List (Int × Int)) : Prop := ∃ keys : List Int, keys.Pairwise (· < ·) ∧ (∀ k, k ∈ keys ↔ k ∈ s) ∧ t = keys.map fun k => (k, ((s.count k : Nat) : Int))
theorem TabK.nil : TabK [] [] := ⟨[], List.Pairwise.nil, fun _ => Iff.rfl, rfl⟩
theorem TabK.of {s : List Int} {t : List (Int × Int)} (h : TabK s t) : Ov s t := by
 obtain ⟨keys, h1, h2, rfl⟩ := h
 refine ⟨?_, fun x c => ?_⟩
 ·rw [List.pairwise_map]; exact h1
 ·rw [List.mem_map]
  constructor
  ·rintro ⟨k, hk, e⟩
   injection e with e1 e2
   subst e1
   exact ⟨(h2 _).1 hk, e2.symm⟩
  ·rintro ⟨hx, hc⟩
   exact ⟨x, (h2 x).2 hx, by rw [hc]⟩
theorem TabK.bump {s : List Int} {t : List (Int × Int)} (h : TabK s t) {j : Nat} {g c : Int} (hj : t[j]? = some (g, c)) : TabK (s ++ [g]) (t.set j (g, c + 1)) := by
 obtain ⟨keys, h1, h2, rfl⟩ := h
 have hk : keys[j]? = some g ∧ c = ((s.count g : Nat) : Int) := by
  rw [List.getElem?_map] at hj
  cases hkj : keys[j]? with
  | none => rw [hkj] at hj; cases hj
  | some k =>
    rw [hkj] at hj
    have e := Option.some.inj hj
    injection e with e1 e2
    subst e1
    exact ⟨rfl, e2.symm⟩
 have hgm : g ∈ keys := List.mem_of_getElem? hk.1
 refine ⟨keys, h1, fun k => ?_, ?_⟩
 ·rw [h2, List.mem_append]
  constructor
  ·exact .inl
  ·rintro (h | h)
   ·exact h
   ·simp at h; subst h; exact (h2 _).1 hgm
 ·apply List.ext_getElem?
  intro i
  rw [List.getElem?_set]
  have hjl : j < keys.length := by
   rcases Nat.lt_or_ge j keys.length with h | h
   ·exact h
   ·rw [List.getElem?_eq_none h] at hk; cases hk.1
  split
  ·rename_i e
   subst e
   rw [if_pos (by simp; exact hjl), List.getElem?_map, hk.1]
   simp [hk.2]
  ·rename_i hne
   rw [List.getElem?_map, List.getElem?_map]
   cases hki : keys[i]? with
   | none => rfl
   | some k =>
     have hkg : k ≠ g := by
      intro e
      subst e
      have hnd : keys.Nodup := h1.imp fun h => by omega
      have hil : i < keys.length := by
       rcases Nat.lt_or_ge i keys.length with h | h
       ·exact h
       ·rw [List.getElem?_eq_none h] at hki; cases hki
      have : i = j := (List.getElem?_inj hil hnd).1 (by rw [hki, hk.1])
      exact hne this.symm
     simp [Ne.symm hkg]
theorem TabK.ins {s : List Int} {t : List (Int × Int)} (h : TabK s t) {a : Nat} (ha : a ≤ t.length) {g : Int} (hlo : ∀ i x c, i < a → t[i]? = some (x, c) → x < g) (hhi : ∀ x c, t[a]? = some (x, c) → g < x) : TabK (s ++ [g]) (t.take a ++ (g, 1) :: t.drop a) := by
 obtain ⟨keys, h1, h2, rfl⟩ := h
 rw [List.length_map] at ha
 have hlo' : ∀ k ∈ keys.take a, k < g := fun k hk => by
  obtain ⟨i, hik⟩ := List.mem_iff_getElem?.1 hk
  have hi : i < a := by
   rcases Nat.lt_or_ge i a with h | h
   ·exact h
   ·rw [List.getElem?_eq_none (by rw [List.length_take]; omega)] at hik; cases hik
  rw [List.getElem?_take_of_lt hi] at hik
  exact hlo i k _ hi (by rw [List.getElem?_map, hik]; rfl)
 have hhi' : ∀ k ∈ keys.drop a, g < k := fun k hk => by
  cases hd : keys.drop a with
  | nil => rw [hd] at hk; cases hk
  | cons x r =>
    have hx : keys[a]? = some x := by
     have : (keys.drop a)[0]? = some x := by rw [hd]; rfl
     rwa [List.getElem?_drop] at this
    have hgx := hhi x _ (by rw [List.getElem?_map, hx]; rfl)
    have hp : (keys.drop a).Pairwise (· < ·) := h1.sublist (List.drop_sublist _ _)
    rw [hd, List.pairwise_cons] at hp
    rw [hd] at hk
    rcases List.mem_cons.1 hk with e | e
    ·omega
    ·have := hp.1 k e; omega
 have hng : g ∉ keys := fun hm => by
  rw [← List.take_append_drop a keys] at hm
  rcases List.mem_append.1 hm with h | h
  ·have := hlo' g h; omega
  ·have := hhi' g h; omega
 refine ⟨keys.take a ++ g :: keys.drop a, ?_, fun k => ?_, ?_⟩
 ·rw [List.pairwise_append]
  refine ⟨h1.sublist (List.take_sublist _ _), ?_, fun x hx y hy => ?_⟩
  ·rw [List.pairwise_cons]
   exact ⟨hhi', h1.sublist (List.drop_sublist _ _)⟩
  ·have := hlo' x hx
   rcases List.mem_cons.1 hy with e | e
   ·omega
   ·have := hhi' y e; omega
 ·have : k ∈ keys ↔ k ∈ keys.take a ∨ k ∈ keys.drop a := by
   conv => lhs; rw [← List.take_append_drop a keys]
   exact List.mem_append
  rw [List.mem_append, List.mem_cons, List.mem_append, List.mem_singleton, ← h2, this]
  constructor
  ·rintro (h | h | h)
   ·exact .inl (.inl h)
   ·exact .inr h
   ·exact .inl (.inr h)
  ·rintro ((h | h) | h)
   ·exact .inl h
   ·exact .inr (.inr h)
   ·exact .inr (.inl h)
 ·have hcount : ∀ k ∈ keys, (k, (((s ++ [g]).count k : Nat) : Int)) = (k, ((s.count k : Nat) : Int)) := fun k hk => by
   have : k ≠ g := fun e => hng (e ▸ hk)
   simp [Ne.symm this]
  have hg0 : s.count g = 0 := List.count_eq_zero_of_not_mem fun h => hng ((h2 g).2 h)
  rw [List.map_append, List.map_cons, ← List.map_take, ← List.map_drop]
  congr 1
  ·exact (List.map_congr_left fun k hk => hcount k (List.mem_of_mem_take hk)).symm
  ·congr 1
   ·simp [hg0]
   ·exact (List.map_congr_left fun k hk => hcount k (List.mem_of_mem_drop hk)).symm
def sgAt (P : List Int) (q : Int) (j : Nat) : Int := (if j + 1 < P.length then P[j + 1]?.getD 0 else q) - P[j]?.getD 0
def sgN (P : List Int) (q : Int) (n : Nat) : List Int := ((List.range n).map (sgAt P q)).filter (fun g => decide (g ≠ 0))
theorem tq (P : List Int) (q : Int) (n : Nat) : sgN P q (n + 1) = sgN P q n ++ (if sgAt P q n = 0 then [] else [sgAt P q n]) := by
 unfold sgN
 rw [List.range_succ, List.map_append, List.filter_append]
 congr 1
 by_cases h : sgAt P q n = 0 <;> simp [h]
theorem abA (P : List Int) (q : Int) (n : Nat) : (sgN P q n).length ≤ n := by
 unfold sgN
 refine Nat.le_trans (List.length_filter_le _ _) ?_
 simp
end Go.Proofs.Ythjehhoafmnmkaa
