import Derived.Test.YthjehhoafmnmkaaGCXGapsOf
namespace Go.Proofs.Ythjehhoafmnmkaa
open Go Go.RowKit Go.Shelf Go.Ev Go.Sh Go.Maps
theorem RR.turn {W W' : World} {lo : Nat} {v : Value} {l : List (Nat × Int × Int)} (h : RR W lo v l) (hlo : lo ≤ W.heap.size) {j b : Nat} {x c : Int} (hj : l[j]? = some (b, x, c)) {x' c' : Int}
 (hs : @Step nQ W W' (· ∈ [b])) (hi : In2 W' b x' c') : RR W' lo v (l.set j (b, x', c')) ∧ Below lo W W' := by
 letI := nQ
 have hm : (b, x, c) ∈ l := List.mem_of_getElem? hj
 have hlt : j < l.length := by
  rcases Nat.lt_or_ge j l.length with h1 | h1
  ·exact h1
  ·rw [List.getElem?_eq_none h1] at hj; cases hj
 have hbl := (h.inn _ hm).1
 have hother : ∀ k, k < W.heap.size → k ≠ b → W'.heap[k]? = W.heap[k]? := fun k hk hne => hs.block k hk (by simpa using hne)
 have hfst : (l.set j (b, x', c')).map Prod.fst = l.map Prod.fst := by
  rw [List.map_set]
  have : (l.map Prod.fst)[j]? = some b := by rw [List.getElem?_map, hj]; rfl
  exact Rj this
 have henc : (l.set j (b, x', c')).map enc2 = l.map enc2 := by
  rw [List.map_set]
  have : (l.map enc2)[j]? = some (enc2 (b, x', c')) := by rw [List.getElem?_map, hj]; rfl
  exact Rj this
 refine ⟨⟨?_, ?_, ?_, ?_⟩, ?_⟩
 ·rw [List.length_set, henc]
  refine ⟨h.row.1, ?_⟩
  rcases h.row.2 with e | ⟨g', cap', cur, e, h1, h2, h3⟩
  ·exact .inl e
  ·refine .inr ⟨g', cap', cur, e, h1, ?_, h3⟩
   rw [hother g' (Array.getElem?_eq_some_iff.1 h2).1 (fun e' => h.own _ hm (by rw [e, e']; rfl))]
   exact h2
 ·intro y hy
  by_cases e : y.1 = b
  ·have hnd : ((l.set j (b, x', c')).map Prod.fst).Nodup := by rw [hfst]; exact h.nd
   have hy2 : y = (b, x', c') := abY hnd hy (List.mem_set hlt _) e
   subst hy2
   exact ⟨hbl, hi⟩
  ·rcases List.mem_or_eq_of_mem_set hy with hy' | rfl
   ·refine ⟨(h.inn y hy').1, ?_⟩
    unfold In2
    rw [hother y.1 (h.lt hy') e]
    exact (h.inn y hy').2
   ·exact absurd rfl e
 ·rw [hfst]; exact h.nd
 ·intro y hy
  have : y.1 ∈ (l.set j (b, x', c')).map Prod.fst := List.mem_map.2 ⟨y, hy, rfl⟩
  rw [hfst] at this
  obtain ⟨z, hz, hzy⟩ := List.mem_map.1 this
  rw [← hzy]
  exact h.own z hz
 ·exact ⟨hs.os, hs.tape, hs.output, hs.size, fun k hk => hother k (by omega) (fun e => by have h2 : lo ≤ b := hbl; omega)⟩
/-- The first j pairs marked. -/
def mkl (l : List (Nat × Int × Int)) (m : Int) (j : Nat) : List (Nat × Int × Int) := l.mapIdx fun i y => if i < j then (y.1, m + 2 * i, m + 2 * i + 1) else y
theorem aee {l : List (Nat × Int × Int)} {m : Int} {j : Nat} : (mkl l m j).length = l.length := by unfold mkl; simp
theorem ahr (l : List (Nat × Int × Int)) (m : Int) : mkl l m 0 = l := by
 unfold mkl
 apply List.ext_getElem?
 intro i
 rw [List.getElem?_mapIdx]
 cases l[i]? <;> simp
theorem QQ {l : List (Nat × Int × Int)} {m : Int} {j i : Nat} {y : Nat × Int × Int} (h : l[i]? = some y) : (mkl l m j)[i]? = some (if i < j then (y.1, m + 2 * i, m + 2 * i + 1) else y) := by
 unfold mkl
 rw [List.getElem?_mapIdx, h]
 rfl
theorem ahU {l : List (Nat × Int × Int)} {m : Int} {j : Nat} {b : Nat} {x c : Int} (h : l[j]? = some (b, x, c)) : (mkl l m j).set j (b, m + 2 * j, m + 2 * j + 1) = mkl l m (j + 1) := by
 apply List.ext_getElem?
 intro i
 rw [List.getElem?_set]
 have hlt : j < l.length := by
  rcases Nat.lt_or_ge j l.length with h1 | h1
  ·exact h1
  ·rw [List.getElem?_eq_none h1] at h; cases h
 split
 ·rename_i e
  subst e
  rw [if_pos (by rw [aee]; exact hlt), QQ h, if_pos (by omega)]
 ·rename_i hne
  cases hi : l[i]? with
  | none =>
    unfold mkl
    rw [List.getElem?_mapIdx, List.getElem?_mapIdx, hi]
    rfl
  | some y =>
    rw [QQ hi, QQ hi]
    by_cases h1 : i < j
    ·rw [if_pos h1, if_pos (by omega)]
    ·rw [if_neg h1, if_neg (by omega)]
set_option maxRecDepth 100000 in
set_option maxHeartbeats 1000000 in
theorem ahz {v : Value} {lo : Nat} {l : List (Nat × Int × Int)} {m : Int} (w : World) (hlo : lo ≤ w.heap.size) (h : RR w lo v l) (hl : l.length ≤ 1000) (hm : 0 ≤ m) (hm1 : m ≤ 1000) :
 Calls Try.prog 7 #[v, .int .i64 m] w fun e w' => e = .returned (.int .i64 (m + 2 * l.length)) ∧ RR w' lo v (mkl l m l.length) ∧ Below lo w w' := by
 obtain ⟨ba, cap, rfl⟩ := h.rv.sl
 obtain ⟨n, hn⟩ : ∃ n, l.length = n := ⟨_, rfl⟩
 rw [hn] at h hl ⊢
 go_enter Try.func7, Try.ntmps7
 go_wp2
 go_loopw [1, 5] (fun u i wr => ∃ j : Nat, j ≤ n ∧ i = .int .i64 (j : Int) ∧ u = .int .i64 (m + 2 * j) ∧ RR wr lo (.slice ba n cap) (mkl l m j) ∧ Below lo w wr) (fun _ i _ => n - (intOf i).toNat)
 case atStart => exact ⟨0, Nat.zero_le _, rfl, by simp, by rw [ahr]; exact h, Below.refl _ _⟩
 case round =>
  obtain ⟨k, hk, rfl, rfl, hR, hB⟩ := hrel
  by_cases hlt : k < n
  ·obtain ⟨⟨b, x, c⟩, hz⟩ : ∃ z, l[k]? = some z := ⟨_, List.getElem?_eq_getElem (by omega)⟩
   have hzk : (mkl l m k)[k]? = some (b, x, c) := by rw [QQ hz, if_neg (by omega)]
   obtain ⟨g, rfl, hgs, hc⟩ := hR.rv.at_ _ _ _ rfl k _ hzk
   have hi := hR.rv.in_ _ (List.mem_of_getElem? hzk)
   dsimp only at hi
   have hsz := hB.size
   replace h := HidP.mk h
   replace hR := HidP.mk hR
   replace hB := HidP.mk hB
   replace hi := HidP.mk hi
   go_wp2_with (first
    | (go_at_call 21; refine (ajh (m := m + 2 * k) (by omega) (by omega) hi.out (x, c)).mono ?_; rintro e w3 ⟨rfl, hin, hst⟩; replace hin := HidP.mk hin; replace hst := HidP.mk hst)
    | go_in)
   go_roundw
   case rel =>
    obtain ⟨hR2, hB2⟩ := hR.out.turn (by omega) hzk hst.out hin.out
    rw [ahU hz] at hR2
    exact ⟨k + 1, by omega, by go_num, by congr 1; omega, hR2, hB.out.trans hB2⟩
   case measure => simp [intOf]; omega
  ·have hkn : k = n := by omega
   subst hkn
   go_wp2
   go_ret
   exact ⟨rfl, hR, hB⟩
set_option maxRecDepth 100000 in
set_option maxHeartbeats 1000000 in
theorem acC {v : Value} {l : List (Nat × Int × Int)} {m : Int} (w : World) (h : RV w v (mkl l m l.length)) (hl : l.length ≤ 1000) (hm : 0 ≤ m) (hm1 : m ≤ 1000) :
 Calls Try.prog 8 #[v, .int .i64 m] w fun e w' => e = .returned (.int .i64 (m + 2 * l.length)) ∧ Below w.heap.size w w' := by
 obtain ⟨ba, cap, rfl⟩ := h.sl
 obtain ⟨n, hn⟩ : ∃ n, l.length = n := ⟨_, rfl⟩
 rw [aee] at h ⊢
 rw [hn] at h hl ⊢
 go_enter Try.func8, Try.ntmps8
 go_wp2
 go_loopw [1, 5] (fun u i wr => ∃ j : Nat, j ≤ n ∧ i = .int .i64 (j : Int) ∧ u = .int .i64 (m + 2 * j) ∧ Below w.heap.size w wr) (fun _ i _ => n - (intOf i).toNat)
 case atStart => exact ⟨0, Nat.zero_le _, rfl, by simp, Below.refl _ _⟩
 case round =>
  obtain ⟨k, hk, rfl, rfl, hB⟩ := hrel
  by_cases hlt : k < n
  ·obtain ⟨⟨b, x, c⟩, hz⟩ : ∃ z, l[k]? = some z := ⟨_, List.getElem?_eq_getElem (by omega)⟩
   have hzk : (mkl l m n)[k]? = some (b, m + 2 * k, m + 2 * k + 1) := by rw [QQ hz, if_pos (by omega)]
   have hr := h.below hB
   obtain ⟨g, rfl, hgs, hc⟩ := hr.at_ _ _ _ rfl k _ hzk
   have hi := hr.in_ _ (List.mem_of_getElem? hzk)
   dsimp only at hi
   replace h := HidP.mk h
   replace hB := HidP.mk hB
   replace hi := HidP.mk hi
   clear hr
   go_wp2_with (first
    | (go_at_call 22; refine (ajD (m := m + 2 * k) (by omega) (by omega) hi.out _).mono ?_; rintro e w3 ⟨rfl, hB3⟩; replace hB3 := HidP.mk hB3)
    | go_in)
   go_roundw
   case rel => exact ⟨k + 1, by omega, by go_num, by congr 1; omega, hB.out.trans (hB3.out.mono hB.out.size)⟩
   case measure => simp [intOf]; omega
  ·have hkn : k = n := by omega
   subst hkn
   go_wp2
   go_ret
   exact ⟨rfl, hB⟩
end Go.Proofs.Ythjehhoafmnmkaa
