import Derived.Test.YthjehhoafmnmkaaGKXGapsOf
namespace Go.Proofs.Ythjehhoafmnmkaa
open Go Go.RowKit Go.Shelf Go.Ev Go.Sh Go.Maps
theorem ai5 (w : World) (v : Value) {base : Nat} (t : TypeId) (hb : base ≤ w.heap.size) : (w.alloc (.cells #[v] t)).ownsRow base t 1 (.slice (some ⟨w.heap.size, 0, none⟩) 1 1) 1 [v] :=
 ⟨rfl, .inr ⟨w.heap.size, 1, #[v], rfl, hb, heap_alloc_new w _, Nat.le_refl _, by unfold maxLen; omega, rfl, rfl⟩⟩
theorem Lj (w : World) (o : Obj) (v : Value) {base : Nat} (t : TypeId) (hb : base ≤ w.heap.size + 1) : ((w.alloc o).alloc (.cells #[v] t)).ownsRow base t 1 (.slice (some ⟨w.heap.size + 1, 0, none⟩) 1 1) 1 [v] := by
 have := ai5 (w.alloc o) v (base := base) t (by simp; omega)
 rwa [show (w.alloc o).heap.size = w.heap.size + 1 by simp] at this
theorem addp (b o i : Nat) : Addr.add ⟨b, o, none⟩ i = ⟨b, o + i, none⟩ := by
 unfold Addr.add
 split <;> simp_all
theorem adt {w : World} {base base' : Nat} {e : TypeId} {size : Nat} {v : Value} {n : Nat} {xs : List Value} (h : w.ownsRow base e size v n xs) (hb : base' ≤ base) : w.ownsRow base' e size v n xs := by
 refine ⟨h.1, ?_⟩
 rcases h.2 with h | ⟨g, cap, cur, e, h1, h2⟩
 ·exact .inl h
 ·exact .inr ⟨g, cap, cur, e, by omega, h2⟩
theorem rq {w : World} {base : Nat} {e : TypeId} {size : Nat} {v : Value} {n : Nat} {xs : List Value} (h : w.ownsRow base e size v n xs) (hn : 0 < n) : ∃ g cap, v = .slice (some ⟨g, 0, none⟩) n cap ∧ base ≤ g ∧ g < w.heap.size := by
 rcases h.2 with ⟨_, h0⟩ | ⟨g, cap, cur, e, h1, h2, _⟩
 ·omega
 ·exact ⟨g, cap, e, h1, (Array.getElem?_eq_some_iff.1 h2).1⟩
theorem EZ {w : World} {base g n cap : Nat} {e : TypeId} {xs : List Value} (h : w.ownsRow base e 1 (.slice (some ⟨g, 0, none⟩) n cap) n xs) : ∀ j u, xs[j]? = some u → w.cell? ⟨g, j, none⟩ = some u := by
 intro j u hj
 rcases h.2 with ⟨e, _⟩ | ⟨g', cap', cur, e, h1, h2, h3, h4, h5, h6⟩
 ·cases e
 ·injection e with e1 e2 e3
  injection e1 with e1
  injection e1 with e1
  subst e1
  have hlt : j < xs.length := by
   rcases Nat.lt_or_ge j xs.length with h1 | h1
   ·exact h1
   ·rw [List.getElem?_eq_none h1] at hj; cases hj
  have hxl := h.1
  have h7 : (cur.toList.take (n * 1))[j]? = xs[j]? := by rw [h6]
  rw [List.getElem?_take_of_lt (by omega), hj, Array.getElem?_toList] at h7
  simpa [World.cell?, h2] using h7
theorem RR.cap {W : World} {lo g n cap : Nat} {l : List (Nat × Int × Int)} (h : RR W lo (.slice (some ⟨g, 0, none⟩) n cap) l) : n = l.length ∧ l.length ≤ cap ∧ cap ≤ maxLen ∧ lo ≤ g ∧ g < W.heap.size := by
 rcases h.row.2 with ⟨e, _⟩ | ⟨g', cap', cur, e, h1, h2, h3, h4, h5, h6⟩
 ·cases e
 ·injection e with e1 e2 e3
  injection e1 with e1
  injection e1 with e1
  subst e1
  subst e3
  exact ⟨e2, h3, h4, h1, (Array.getElem?_eq_some_iff.1 h2).1⟩
theorem BZ {W W1 : World} {lo g n cap : Nat} {l : List (Nat × Int × Int)} (hR : RR W lo (.slice (some ⟨g, 0, none⟩) n cap) l) {o : Obj} (hB : Below (W.heap.size + 1) (W.alloc o) W1) (a : Nat) : ∀ j u, ((l.take a).map enc2)[j]? = some u → W1.cell? (Addr.add ⟨g, 0, none⟩ j) = some u := by
 intro j u hj
 have hgs := hR.cap.2.2.2.2
 rw [List.getElem?_map] at hj
 cases hla : (l.take a)[j]? with
 | none => rw [hla] at hj; cases hj
 | some z =>
   rw [hla] at hj
   have hjl : l[j]? = some z := by
    rw [List.getElem?_take] at hla
    split at hla
    ·exact hla
    ·cases hla
   rw [addp, Nat.zero_add, hB.cell (by show g < _; omega), World.cell?_of_block (w := W) (by simp only [World.alloc, Array.getElem?_push]; rw [if_neg (by show ¬ g = W.heap.size; omega)]), hR.cell hjl]
   exact hj
theorem aas {W W1 : World} {lo g n cap : Nat} {l : List (Nat × Int × Int)} (hR : RR W lo (.slice (some ⟨g, 0, none⟩) n cap) l) {o : Obj} (hB : Below (W.heap.size + 1) (W.alloc o) W1) (a : Nat) : ∀ j u, ((l.drop a).map enc2)[j]? = some u → W1.cell? (Addr.add ⟨g, a, none⟩ j) = some u := by
 intro j u hj
 have hgs := hR.cap.2.2.2.2
 rw [List.getElem?_map, List.getElem?_drop] at hj
 cases hla : l[a + j]? with
 | none => rw [hla] at hj; cases hj
 | some z =>
   rw [hla] at hj
   rw [addp, hB.cell (by show g < _; omega), World.cell?_of_block (w := W) (by simp only [World.alloc, Array.getElem?_push]; rw [if_neg (by show ¬ g = W.heap.size; omega)]), hR.cell hla]
   exact hj
theorem akq (l : List (Nat × Int × Int)) : ∀ u ∈ l.map enc2, u.oneCell' = true := by
 intro u hu
 obtain ⟨z, _, rfl⟩ := List.mem_map.1 hu
 rfl
theorem XV (x : Nat × Int × Int) (l : List (Nat × Int × Int)) : ∀ u ∈ [enc2 x] ++ l.map enc2, u.oneCell' = true := by
 intro u hu
 rcases List.mem_append.1 hu with hu | hu
 ·simp at hu
  rw [hu]
  rfl
 ·exact akq l u hu
theorem RR.insert {W W5 : World} {lo : Nat} {v v5 : Value} {l : List (Nat × Int × Int)} (h : RR W lo v l) (hlo : lo ≤ W.heap.size) {a : Nat} (x c : Int) {n : Nat} {xs : List Value}
 (hown : W5.ownsRow (W.heap.size + 1) 28 1 v5 n xs) (hxs : xs = (l.take a ++ (W.heap.size, x, c) :: l.drop a).map enc2)
 (hB : Below (W.heap.size + 1) (W.alloc (.cells #[.int .i64 x, .int .i64 c] 2)) W5) :
 RR W5 lo v5 (l.take a ++ (W.heap.size, x, c) :: l.drop a) ∧ Below lo W W5 := by
 have hn : n = (l.take a ++ (W.heap.size, x, c) :: l.drop a).length := by
  have := hown.1
  rw [hxs, List.length_map] at this
  omega
 have hmem : ∀ y, y ∈ l.take a ++ (W.heap.size, x, c) :: l.drop a ↔ y = (W.heap.size, x, c) ∨ y ∈ l := fun y => by
  have : y ∈ l ↔ y ∈ l.take a ∨ y ∈ l.drop a := by
   conv => lhs; rw [← List.take_append_drop a l]
   exact List.mem_append
  rw [List.mem_append, List.mem_cons, this]
  constructor
  ·rintro (h | h | h)
   ·exact .inr (.inl h)
   ·exact .inl h
   ·exact .inr (.inr h)
  ·rintro (h | h | h)
   ·exact .inr (.inl h)
   ·exact .inl h
   ·exact .inr (.inr h)
 refine ⟨⟨?_, ?_, ?_, ?_⟩, ?_⟩
 ·rw [← hn, ← hxs]
  exact adt hown (by omega)
 ·intro y hy
  rcases (hmem y).1 hy with rfl | hy
  ·refine ⟨hlo, ?_⟩
   unfold In2
   rw [hB.block W.heap.size (by omega)]
   exact heap_alloc_new W _
  ·have hlt := h.lt hy
   refine ⟨(h.inn y hy).1, ?_⟩
   unfold In2
   rw [hB.block y.1 (by omega)]
   simp only [World.alloc, Array.getElem?_push]
   rw [if_neg (by omega)]
   exact (h.inn y hy).2
 ·have hp : (l.take a ++ (W.heap.size, x, c) :: l.drop a).Perm ((W.heap.size, x, c) :: l) := by
   refine List.perm_middle.trans ?_
   rw [List.take_append_drop]
  rw [(hp.map Prod.fst).nodup_iff, List.map_cons, List.nodup_cons]
  refine ⟨fun hm => ?_, h.nd⟩
  obtain ⟨y, hy, e⟩ := List.mem_map.1 hm
  have := h.lt hy
  have e' : y.1 = W.heap.size := e
  omega
 ·intro y hy e
  have h1 := (hown.lt _ e).1
  rcases (hmem y).1 hy with rfl | hy
  ·have h2 : W.heap.size + 1 ≤ W.heap.size := h1
   omega
  ·have := h.lt hy; omega
 ·have h1 : Below lo W (W.alloc (.cells #[.int .i64 x, .int .i64 c] 2)) := (Below.refl _ W).alloc hlo _
  exact h1.trans (hB.mono (by omega))
end Go.Proofs.Ythjehhoafmnmkaa
