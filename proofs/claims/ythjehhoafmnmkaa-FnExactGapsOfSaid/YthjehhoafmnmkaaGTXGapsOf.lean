import Derived.Test.YthjehhoafmnmkaaGSXGapsOf
namespace Go.Proofs.Ythjehhoafmnmkaa
open Go Go.RowKit Go.Shelf Go.Ev Go.Sh Go.Maps
variable {α : Type}
theorem abY {l : List (Nat × Int × Int)} (h : (l.map Prod.fst).Nodup) {x y : Nat × Int × Int} (hx : x ∈ l) (hy : y ∈ l) (e : x.1 = y.1) : x = y := by
 induction l with
 | nil => cases hx
 | cons a l ih =>
   rw [List.map_cons, List.nodup_cons] at h
   rcases List.mem_cons.1 hx with ex | hx <;> rcases List.mem_cons.1 hy with ey | hy
   ·rw [ex, ey]
   ·exact absurd (List.mem_map.2 ⟨y, hy, by rw [← e, ex]⟩) h.1
   ·exact absurd (List.mem_map.2 ⟨x, hx, by rw [e, ey]⟩) h.1
   ·exact ih h.2 hx hy
theorem Rj {l : List α} {j : Nat} {x : α} (h : l[j]? = some x) : l.set j x = l := by
 apply List.ext_getElem?
 intro i
 rw [List.getElem?_set]
 split
 ·rename_i e
  subst e
  split
  ·exact h.symm
  ·rename_i hn
   rw [List.getElem?_eq_none (by omega)] at h
   cases h
 ·rfl
theorem RR.cell {W : World} {lo g n cap : Nat} {l : List (Nat × Int × Int)} (h : RR W lo (.slice (some ⟨g, 0, none⟩) n cap) l) {j : Nat} {x : Nat × Int × Int} (hj : l[j]? = some x) : W.cell? ⟨g, j, none⟩ = some (enc2 x) := by
 have hlt : j < l.length := by
  rcases Nat.lt_or_ge j l.length with h1 | h1
  ·exact h1
  ·rw [List.getElem?_eq_none h1] at hj; cases hj
 rcases h.row.2 with ⟨e, _⟩ | ⟨g', cap', cur, e, h1, h2, h3, h4, h5, h6⟩
 ·cases e
 ·injection e with e1 e2 e3
  injection e1 with e1
  injection e1 with e1
  subst e1
  have h7 : (cur.toList.take (l.length * 1))[j]? = (l.map enc2)[j]? := by rw [h6]
  rw [List.getElem?_take_of_lt (by omega), List.getElem?_map, hj, Array.getElem?_toList] at h7
  simpa [World.cell?, h2] using h7
theorem RR.cellO {W : World} {lo g n cap : Nat} {l : List (Nat × Int × Int)} (h : RR W lo (.slice (some ⟨g, 0, none⟩) n cap) l) {j : Nat} {x : Nat × Int × Int} (hj : l[j]? = some x) : W.cell? ⟨x.1, 0, none⟩ = some (.int .i64 x.2.1) ∧ W.cell? ⟨x.1, 1, none⟩ = some (.int .i64 x.2.2) ∧ W.frozen? ⟨x.1, 1, none⟩ = false := by
 have := (h.inn x (List.mem_of_getElem? hj)).2
 unfold In2 at this
 refine ⟨?_, ?_, ?_⟩ <;> simp [World.cell?, World.frozen?, this]
theorem RR.bump {W : World} {lo g n cap : Nat} {l : List (Nat × Int × Int)} (h : RR W lo (.slice (some ⟨g, 0, none⟩) n cap) l) {j : Nat} {b : Nat} {x c : Int} (hj : l[j]? = some (b, x, c)) (d : Int) :
 RR (W.setCell ⟨b, 1, none⟩ (.int .i64 d)) lo (.slice (some ⟨g, 0, none⟩) n cap) (l.set j (b, x, d)) ∧ Below lo W (W.setCell ⟨b, 1, none⟩ (.int .i64 d)) := by
 have hm : (b, x, c) ∈ l := List.mem_of_getElem? hj
 have hlt : j < l.length := by
  rcases Nat.lt_or_ge j l.length with h1 | h1
  ·exact h1
  ·rw [List.getElem?_eq_none h1] at hj; cases hj
 have hb := (h.inn _ hm).2
 have hbl := (h.inn _ hm).1
 unfold In2 at hb
 have hother : ∀ k, k ≠ b → (W.setCell ⟨b, 1, none⟩ (.int .i64 d)).heap[k]? = W.heap[k]? := fun k hk => by
  rw [Go.Sort.setCell_eq]
  unfold Go.Sort.mapBlock
  show (W.heap.modify b _)[k]? = _
  rw [Array.getElem?_modify, if_neg (fun e => hk e.symm)]
 have hthis : In2 (W.setCell ⟨b, 1, none⟩ (.int .i64 d)) b x d := by
  unfold In2
  rw [Go.Sort.setCell_eq]
  unfold Go.Sort.mapBlock
  show (W.heap.modify b _)[b]? = _
  rw [Array.getElem?_modify, if_pos rfl, hb]
  rfl
 have hfst : (l.set j (b, x, d)).map Prod.fst = l.map Prod.fst := by
  rw [List.map_set]
  have : (l.map Prod.fst)[j]? = some b := by rw [List.getElem?_map, hj]; rfl
  exact Rj this
 have henc : (l.set j (b, x, d)).map enc2 = l.map enc2 := by
  rw [List.map_set]
  have : (l.map enc2)[j]? = some (enc2 (b, x, d)) := by rw [List.getElem?_map, hj]; rfl
  exact Rj this
 refine ⟨⟨?_, ?_, ?_, ?_⟩, ?_⟩
 ·rw [List.length_set, henc]
  refine ⟨h.row.1, ?_⟩
  rcases h.row.2 with ⟨e, _⟩ | ⟨g', cap', cur, e, h1, h2, h3⟩
  ·cases e
  ·refine .inr ⟨g', cap', cur, e, h1, ?_, h3⟩
   rw [hother g' (fun e' => h.own _ hm (by rw [e, e']; rfl))]
   exact h2
 ·intro y hy
  rcases List.mem_or_eq_of_mem_set hy with hy' | rfl
  ·by_cases e : y.1 = b
   ·have hy2 : y = (b, x, d) := by
     have h3 : y ∈ l.set j (b, x, d) := hy
     have hnd : ((l.set j (b, x, d)).map Prod.fst).Nodup := by rw [hfst]; exact h.nd
     exact abY hnd hy (List.mem_set hlt _) e
    subst hy2
    exact ⟨hbl, hthis⟩
   ·refine ⟨(h.inn y hy').1, ?_⟩
    unfold In2
    rw [hother y.1 e]
    exact (h.inn y hy').2
  ·exact ⟨hbl, hthis⟩
 ·rw [hfst]; exact h.nd
 ·intro y hy
  have : y.1 ∈ (l.set j (b, x, d)).map Prod.fst := List.mem_map.2 ⟨y, hy, rfl⟩
  rw [hfst] at this
  obtain ⟨z, hz, hzy⟩ := List.mem_map.1 this
  rw [← hzy]
  exact h.own z hz
 ·refine ⟨rfl, rfl, rfl, ?_, fun k hk => hother k (by show k ≠ b; have : lo ≤ b := hbl; omega)⟩
  rw [Go.Sort.setCell_eq]
  unfold Go.Sort.mapBlock
  show _ ≤ (W.heap.modify b _).size
  simp
end Go.Proofs.Ythjehhoafmnmkaa
