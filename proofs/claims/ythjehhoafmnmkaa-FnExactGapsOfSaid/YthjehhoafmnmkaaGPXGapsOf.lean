import Derived.Test.YthjehhoafmnmkaaG1XGapsOf
import Derived.Maps.OwnIn
import Derived.Maps.AppendAt
import Derived.Maps.Views
import Derived.Sort.MapsRangeIn
namespace Go.Proofs.Ythjehhoafmnmkaa
open Go Go.RowKit Go.Shelf Go.Ev Go.Sh Go.Maps
/-- What GapsOf's arguments have to be. -/
def gapB (p q n : Int) : Bool := inBb p (-1000000) 1000000 && inBb q 2 1000000 && inBb n 1 500
structure RR (W : World) (lo : Nat) (v : Value) (l : List (Nat × Int × Int)) : Prop where
 row : W.ownsRow lo 28 1 v l.length (l.map enc2)
 inn : ∀ x ∈ l, lo ≤ x.1 ∧ In2 W x.1 x.2.1 x.2.2
 nd : (l.map Prod.fst).Nodup
 own : ∀ x ∈ l, v.ownBlock ≠ some x.1
structure FW (F : Fence) : Prop where
 fn : ∀ f, F.fn f
 ro : F.round = none
 pl : ∀ (n : Nat) (f : FuncId) (args : Array Value) (w : World) (R : Ending → World → Prop), Calls Try.prog f args w R → CallsIn F n Try.prog f args w R
theorem aj1 : (Try.prog.info? 2).map (fun i => (i.zero, i.size, i.bytes)) = some (some (.int .i64 0), 1, 8) := by kernel_rfl
theorem af1 : (Try.prog.info? 28).map (fun i => (i.zero, i.size, i.bytes)) = some (some (.slice none 0 0), 1, 24) := by kernel_rfl
structure HidP (P : Prop) : Prop where
 out : P
theorem FW.wide : FW Fence.wide := ⟨fun _ => trivial, rfl, fun _ _ _ _ _ h => callsIn_wide.2 h⟩
theorem adS {W : World} {lo : Nat} {v : Value} {l : List Int} {n : Nat} (hn : n = l.length) (h : W.ownsRow lo 2 1 v n (l.map (Value.int .i64))) (h0 : l ≠ []) : OwnL W lo v l := by
 subst hn
 rcases h.2 with ⟨e, e2⟩ | ⟨g, cap, cur, e, h1, h2, h3, h4, h5, h6⟩
 ·exact absurd (List.length_eq_zero_iff.1 e2) h0
 ·refine ⟨g, cap, cur, e, h1, h2, h3, h4, by omega, fun j hj => ?_⟩
  have h7 : (cur.toList.take (l.length * 1))[j]? = (l.map (Value.int .i64))[j]? := by rw [h6]
  rw [List.getElem?_take_of_lt (by omega), List.getElem?_map, List.getElem?_eq_getElem hj, Array.getElem?_toList] at h7
  rw [List.getElem?_eq_getElem hj]
  simpa [World.cell?, h2] using h7
structure Bz (D : DataW Nat) (s : List Int) : Prop where
 im : IsMap D
 at_ : ∀ x zd, D.atKey (.int .i64 x) zd = if x ∈ s then .lit (.int .i64 (s.count x : Nat)) else zd
 has_ : ∀ x, has D (.int .i64 x) = decide (x ∈ s)
theorem Bz.nil : Bz (.map []) [] := ⟨isMap_empty, fun _ _ => rfl, fun _ => rfl⟩
theorem Bz.step {D : DataW Nat} {s : List Int} (h : Bz D s) (x : Int) {c : Int} (hc : c = (s.count x : Nat) + 1) : Bz (D.put (.int .i64 x) (.lit (.int .i64 c))) (s ++ [x]) := by
 refine ⟨h.im.put _ _, fun y zd => ?_, fun y => ?_⟩
 ·by_cases hy : y = x
  ·subst hy
   rw [atKey_put_same h.im (show WideAt.IsKeyLit (.int .i64 y) from trivial), hc, if_pos (by simp)]
   simp
  ·rw [atKey_put_other (by intro e; injection e with _ e; exact hy e), h.at_ y zd]
   simp [hy, Ne.symm hy]
 ·by_cases hy : y = x
  ·subst hy
   rw [has_put_same h.im (show WideAt.IsKeyLit (.int .i64 y) from trivial)]
   simp
  ·rw [has_put_other (by intro e; injection e with _ e; exact hy e), h.has_ y]
   simp [hy]
theorem Bz.count {D : DataW Nat} {s : List Int} (h : Bz D s) {x c : Int} (hat : D.atKey (.int .i64 x) (.lit (.int .i64 0)) = .lit (.int .i64 c)) : c = (s.count x : Nat) := by
 rw [h.at_] at hat
 split at hat
 ·injection hat with e; injection e with _ e; exact e.symm
 ·rename_i hn
  injection hat with e
  injection e with _ e
  rw [List.count_eq_zero_of_not_mem hn]
  exact e.symm
theorem Bz.entry {D : DataW Nat} {s : List Int} (h : Bz D s) {x c : Int} (hat : ∀ zd, D.atKey (.int .i64 x) zd = .lit (.int .i64 c)) : x ∈ s ∧ c = (s.count x : Nat) := by
 have h1 := hat (.lit (.int .i64 0))
 have h2 := hat (.lit (.bool true))
 rw [h.at_] at h1 h2
 by_cases hx : x ∈ s
 ·rw [if_pos hx] at h1
  refine ⟨hx, ?_⟩
  injection h1 with e; injection e with _ e; exact e.symm
 ·rw [if_neg hx] at h2
  injection h2 with e
  cases e
structure Ov (ds : List Int) (t : List (Int × Int)) : Prop where
 up : t.Pairwise fun a b => a.1 < b.1
 mem : ∀ x c, (x, c) ∈ t ↔ x ∈ ds ∧ c = (ds.count x : Nat)
theorem abU : ∀ (t t' : List (Int × Int)), t.Pairwise (fun a b => a.1 < b.1) → t'.Pairwise (fun a b => a.1 < b.1) → (∀ x, x ∈ t ↔ x ∈ t') → t = t'
 | [], [], _, _, _ => rfl
 | [], b :: t', _, _, h => absurd ((h b).2 (by simp)) (by simp)
 | a :: t, [], _, _, h => absurd ((h a).1 (by simp)) (by simp)
 | a :: t, b :: t', h1, h2, h => by
   rw [List.pairwise_cons] at h1 h2
   have hab : a = b := by
    rcases List.mem_cons.1 ((h a).1 (by simp)) with e | e
    ·exact e
    ·rcases List.mem_cons.1 ((h b).2 (by simp)) with e' | e'
     ·exact e'.symm
     ·have := h2.1 a e
      have := h1.1 b e'
      omega
   subst hab
   rw [abU t t' h1.2 h2.2 fun x => ?_]
   have := h x
   simp only [List.mem_cons] at this
   constructor
   ·intro hx
    rcases this.1 (.inr hx) with e | e
    ·subst e; have := h1.1 x hx; omega
    ·exact e
   ·intro hx
    rcases this.2 (.inr hx) with e | e
    ·subst e; have := h2.1 x hx; omega
    ·exact e
theorem Ov.unique {ds : List Int} {t t' : List (Int × Int)} (h : Ov ds t) (h' : Ov ds t') : t = t' :=
 abU t t' h.up h'.up fun ⟨x, c⟩ => (h.mem x c).trans (h'.mem x c).symm
def PQ (P : List Int) (q : Int) (j : Nat) : Int := (if j + 1 < P.length then P[j + 1]?.getD 0 else P[0]?.getD 0 + q) - P[j]?.getD 0
def vW (P : List Int) (q : Int) (n : Nat) : List Int := (List.range n).map (PQ P q)
theorem aay (P : List Int) (q : Int) (n : Nat) : vW P q (n + 1) = vW P q n ++ [PQ P q n] := by
 unfold vW
 rw [List.range_succ, List.map_append]
 rfl
theorem afu (P : List Int) (q : Int) (n : Nat) : (vW P q n).length = n := by unfold vW; simp
structure wJ (s : List Int) (left : Lit → Bool) (t : List (Int × Int)) : Prop where
 nd : (t.map Prod.fst).Nodup
 mem : ∀ x c, (x, c) ∈ t → x ∈ s ∧ c = (s.count x : Nat)
 gone : ∀ x ∈ t.map Prod.fst, left (.int .i64 x) = false
 all : ∀ x ∈ s, left (.int .i64 x) = true ∨ x ∈ t.map Prod.fst
theorem wJ.start {D : DataW Nat} {s : List Int} (h : Bz D s) : wJ s (has D) [] :=
 ⟨by simp, by simp, by simp, fun x hx => .inl (by rw [h.has_]; simpa using hx)⟩
theorem wJ.step {D : DataW Nat} {s : List Int} (hD : Bz D s) {left : Lit → Bool} {t : List (Int × Int)} (h : wJ s left t) {x c : Int} (hl : left (.int .i64 x) = true) (hat : ∀ zd, D.atKey (.int .i64 x) zd = .lit (.int .i64 c)) :
 wJ s (fun z => left z && !z.sameKey (.int .i64 x)) (t ++ [(x, c)]) := by
 obtain ⟨hx, hc⟩ := hD.entry hat
 have hnx : x ∉ t.map Prod.fst := fun hm => by rw [h.gone x hm] at hl; cases hl
 refine ⟨?_, ?_, ?_, ?_⟩
 ·rw [List.map_append, List.nodup_append]
  refine ⟨h.nd, by simp, ?_⟩
  intro a ha b hb
  simp at hb
  subst hb
  intro e
  subst e
  exact hnx ha
 ·intro y d hm
  rcases List.mem_append.1 hm with hm | hm
  ·exact h.mem y d hm
  ·simp at hm
   rw [hm.1, hm.2]
   exact ⟨hx, hc⟩
 ·intro y hy
  rw [List.map_append] at hy
  rcases List.mem_append.1 hy with hy | hy
  ·rw [h.gone y hy]; rfl
  ·simp at hy
   subst hy
   rw [WideAt.sameKey_self (show WideAt.IsKeyLit (.int .i64 y) from trivial)]
   simp
 ·intro y hy
  by_cases e : y = x
  ·subst e; right; simp
  ·rcases h.all y hy with h1 | h1
   ·left
    rw [h1, sameKey_ne (by intro e'; injection e' with _ e'; exact e e')]
    rfl
   ·right; rw [List.map_append]; exact List.mem_append_left _ h1
theorem wJ.done {s : List Int} {left : Lit → Bool} {t : List (Int × Int)} (h : wJ s left t) (hl : ∀ kl, left kl = false) : ∀ x c, (x, c) ∈ t ↔ x ∈ s ∧ c = (s.count x : Nat) := by
 intro x c
 refine ⟨h.mem x c, fun ⟨hx, hc⟩ => ?_⟩
 rcases h.all x hx with h1 | h1
 ·rw [hl] at h1; cases h1
 ·obtain ⟨⟨x', c'⟩, hm, rfl⟩ := List.mem_map.1 h1
  have := (h.mem _ _ hm).2
  rw [hc, ← this]
  exact hm
theorem wf64 {a : Int} (h1 : -9223372036854775808 ≤ a) (h2 : a ≤ 9223372036854775807) : (Lit.int .i64 a).wf = true := by
 unfold Lit.wf
 rw [Bool.and_eq_true, decide_eq_true_iff, decide_eq_true_iff]
 exact ⟨h1, h2⟩
theorem law2 : Keyed Try.prog 2 := int_keyed Try.underlying2
theorem aim (w : World) : (zeroValue 2).run Try.prog w = .ok (.int .i64 0) w := by kernel_rfl
theorem aa5 : ∀ (l : List Int) (p x : Int), x ∈ ddI p l → x ∈ l
 | [], _, _, h => h
 | y :: r, p, x, h => by
   unfold ddI at h
   split at h
   ·exact List.mem_cons_of_mem _ (aa5 r y x h)
   ·rcases List.mem_cons.1 h with e | h
    ·rw [e]; simp
    ·exact List.mem_cons_of_mem _ (aa5 r y x h)
theorem aiL {l : List Int} {x : Int} (h : x ∈ ddJ l) : x ∈ l := by
 cases l with
 | nil => exact h
 | cons y r =>
   rcases List.mem_cons.1 h with e | h
   ·rw [e]; simp
   ·exact List.mem_cons_of_mem _ (aa5 _ _ _ h)
theorem aef : ∀ (l : List Int) (p : Int), (ddI p l).length ≤ l.length
 | [], _ => Nat.le_refl _
 | y :: r, p => by
   unfold ddI
   have := aef r y
   split <;> simp <;> omega
theorem aiJ (l : List Int) : (ddJ l).length ≤ l.length := by
 cases l with
 | nil => exact Nat.le_refl _
 | cons y r => have := aef r y; simp [ddJ]; omega
def plc (p q : Int) (n : Nat) : List Int := (sbM p q 0 n).map (kyM p q)
theorem yX {p q : Int} {n : Nat} : (plc p q n).length = n := by unfold plc; rw [List.length_map, jY]
theorem aeI {p q : Int} {n : Nat} (hq : 0 < q) {x : Int} (h : x ∈ plc p q n) : 0 ≤ x ∧ x < q := by
 obtain ⟨y, _, rfl⟩ := List.mem_map.1 h
 unfold kyM
 exact ⟨Int.emod_nonneg _ (by omega), Int.emod_lt_of_pos _ hq⟩
def pls (p q : Int) (n : Nat) : List Int := ddJ (plc p q n)
theorem aiK {p q : Int} {n : Nat} : (pls p q n).length ≤ n := by
 have := aiJ (plc p q n)
 rw [yX] at this
 exact this
theorem aiM {p q : Int} {n : Nat} (hq : 0 < q) {j : Nat} (hj : j < (pls p q n).length) : 0 ≤ (pls p q n)[j]?.getD 0 ∧ (pls p q n)[j]?.getD 0 < q := by
 rw [List.getElem?_eq_getElem hj]
 exact aeI hq (aiL (List.getElem_mem hj))
theorem ajK {p q : Int} {n : Nat} (hn : 0 < n) : pls p q n ≠ [] := by
 refine agc fun e => ?_
 have := yX (p := p) (q := q) (n := n)
 rw [e] at this
 simp at this
 omega
theorem Wv : ∀ (l s : List Int), l.Nodup → (∀ x ∈ l, x ∈ s) → l.length ≤ s.length
 | [], _, _, _ => Nat.zero_le _
 | x :: l, s, hn, hs => by
   rw [List.nodup_cons] at hn
   have h1 := Wv l (s.erase x) hn.2 fun y hy => (List.mem_erase_of_ne (by rintro rfl; exact hn.1 hy)).2 (hs y (List.mem_cons_of_mem _ hy))
   have h2 := List.length_erase_of_mem (hs x (by simp))
   have h3 : 0 < s.length := List.length_pos_iff.2 (List.ne_nil_of_mem (hs x (by simp)))
   simp
   omega
theorem wJ.len {s : List Int} {left : Lit → Bool} {t : List (Int × Int)} (h : wJ s left t) : t.length ≤ s.length := by
 have := Wv _ s h.nd fun x hx => by
  obtain ⟨⟨y, c⟩, hm, rfl⟩ := List.mem_map.1 hx
  exact (h.mem _ _ hm).1
 simpa using this
theorem acU (w : World) (o : Obj) (v : Value) (t : TypeId) : ∀ j u, [v][j]? = some u → ((w.alloc o).alloc (.cells #[v] t)).cell? (Addr.add ⟨w.heap.size + 1, 0, none⟩ j) = some u := by
 intro j u h
 have := cell_one_new (w.alloc o) v t j u h
 rwa [show (w.alloc o).heap.size = w.heap.size + 1 by simp] at this
theorem RR.lt {W : World} {lo : Nat} {v : Value} {l : List (Nat × Int × Int)} (h : RR W lo v l) {x : Nat × Int × Int} (hx : x ∈ l) : x.1 < W.heap.size := (Array.getElem?_eq_some_iff.1 (h.inn x hx).2).1
theorem RR.keep {W W' : World} {lo : Nat} {v : Value} {l : List (Nat × Int × Int)} (h : RR W lo v l) (hk : ∀ j, v.ownBlock = some j ∨ j ∈ l.map Prod.fst → W'.heap[j]? = W.heap[j]?) : RR W' lo v l := by
 refine ⟨⟨h.row.1, ?_⟩, fun x hx => ⟨(h.inn x hx).1, ?_⟩, h.nd, h.own⟩
 ·rcases h.row.2 with e | ⟨g, cap, cur, e, h1, h2, h3⟩
  ·exact .inl e
  ·exact .inr ⟨g, cap, cur, e, h1, by rw [hk g (.inl (by rw [e]; rfl))]; exact h2, h3⟩
 ·unfold In2
  rw [hk x.1 (.inr (List.mem_map.2 ⟨x, hx, rfl⟩))]
  exact (h.inn x hx).2
theorem RR.step {W W3 : World} {lo : Nat} {v v' : Value} {l : List (Nat × Int × Int)} (h : RR W lo v l) (hlo : lo ≤ W.heap.size) (x c : Int) {cur : Array Value} {ty : TypeId}
 (hown : W3.ownsRow lo 28 1 v' (l.length + 1) (l.map enc2 ++ [enc2 (W.heap.size, x, c)]))
 (hg : ((W.alloc (.cells #[.int .i64 x, .int .i64 c] 2)).alloc (.cells cur ty)).grownBy W3 v.ownBlock)
 (hat : v'.ownBlock = v.ownBlock ∨ v'.ownBlock = some (W.heap.size + 2)) : RR W3 lo v' (l ++ [(W.heap.size, x, c)]) := by
 have hvl : ∀ j, v.ownBlock = some j → j < W.heap.size := fun j hj => (h.row.lt j hj).2
 have hkeep : ∀ j, j < W.heap.size + 1 → v.ownBlock ≠ some j → W3.heap[j]? = (W.alloc (.cells #[.int .i64 x, .int .i64 c] 2)).heap[j]? := fun j hj hne => by
  rw [hg.block j (by simp; omega) (fun e => hne e.symm)]
  simp only [World.alloc, Array.getElem?_push, Array.size_push]
  rw [if_neg (by omega)]
 refine ⟨?_, ?_, ?_, ?_⟩
 ·rw [List.length_append, List.map_append]
  exact hown
 ·intro y hy
  rcases List.mem_append.1 hy with hy | hy
  ·refine ⟨(h.inn y hy).1, ?_⟩
   have hlt := h.lt hy
   unfold In2
   rw [hkeep y.1 (by omega) (h.own y hy)]
   simp only [World.alloc, Array.getElem?_push]
   rw [if_neg (by omega)]
   exact (h.inn y hy).2
  ·simp at hy
   subst hy
   refine ⟨hlo, ?_⟩
   unfold In2
   rw [hkeep W.heap.size (by omega) (fun e => by have := hvl _ e; omega)]
   simp only [World.alloc, Array.getElem?_push]; rw [if_pos trivial]
 ·rw [List.map_append, List.nodup_append]
  refine ⟨h.nd, by simp, ?_⟩
  intro a ha b hb e
  subst e
  simp at hb
  obtain ⟨y, hy, rfl⟩ := List.mem_map.1 ha
  have := h.lt hy
  omega
 ·intro y hy e
  rcases hat with e' | e'
  ·rw [e'] at e
   rcases List.mem_append.1 hy with hy | hy
   ·exact h.own y hy e
   ·simp at hy
    subst hy
    have := hvl _ e
    simp at this
  ·rw [e'] at e
   injection e with e
   rcases List.mem_append.1 hy with hy | hy
   ·have := h.lt hy; omega
   ·simp at hy
    subst hy
    simp at e
end Go.Proofs.Ythjehhoafmnmkaa
