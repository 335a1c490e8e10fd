import Derived.Test.YthjehhoafmnmkaaGBXGapsOf
import Derived.Test.YthjehhoafmnmkaaGAXGapsOf
import Derived.WalkKit
import Derived.Deep.RegionHeld3
namespace Go.Proofs.Ythjehhoafmnmkaa
open Go Go.RowKit Go.Shelf Go.Ev Go.Sh Go.Maps
attribute [local go_sem] Oper.semAt_some
/-- A list of pairs, to be read. -/
structure RV (W : World) (v : Value) (l : List (Nat × Int × Int)) : Prop where
 sl : ∃ ba cap, v = .slice ba l.length cap
 at_ : ∀ ba n cap, v = .slice ba n cap → ∀ j x, l[j]? = some x → ∃ g, ba = some ⟨g, 0, none⟩ ∧ g < W.heap.size ∧ W.cell? ⟨g, j, none⟩ = some (enc2 x)
 in_ : ∀ x ∈ l, In2 W x.1 x.2.1 x.2.2
theorem RR.rv {W : World} {lo : Nat} {v : Value} {l : List (Nat × Int × Int)} (h : RR W lo v l) : RV W v l := by
 refine ⟨?_, fun ba n cap e j x hj => ?_, fun x hx => (h.inn x hx).2⟩
 ·rcases h.row.2 with ⟨e, h0⟩ | ⟨g, cap, cur, e, _⟩
  ·exact ⟨none, 0, by rw [e, h0]⟩
  ·exact ⟨_, cap, e⟩
 ·rcases h.row.2 with ⟨e', h0⟩ | ⟨g, cap', cur, e', h1, h2, _⟩
  ·rw [List.length_eq_zero_iff.1 h0] at hj
   cases hj
  ·rw [e] at e'
   injection e' with e1 e2 e3
   subst e1
   rw [e] at h
   exact ⟨g, rfl, (Array.getElem?_eq_some_iff.1 h2).1, h.cell hj⟩
theorem RV.below {W W' : World} {v : Value} {l : List (Nat × Int × Int)} (h : RV W v l) (hB : Below W.heap.size W W') : RV W' v l := by
 refine ⟨h.sl, fun ba n cap e j x hj => ?_, fun x hx => ?_⟩
 ·obtain ⟨g, e1, h1, h2⟩ := h.at_ ba n cap e j x hj
  have := hB.size
  exact ⟨g, e1, by omega, (hB.cell (by exact h1)).trans h2⟩
 ·have h2 := h.in_ x hx
  unfold In2 at h2 ⊢
  rw [hB.block x.1 (Array.getElem?_eq_some_iff.1 h2).1]
  exact h2
theorem In2.below {W W' : World} {b : Nat} {x c : Int} (h : In2 W b x c) (hB : Below W.heap.size W W') : In2 W' b x c := by
 unfold In2 at h ⊢
 rw [hB.block b (Array.getElem?_eq_some_iff.1 h).1]
 exact h
set_option maxRecDepth 100000 in
set_option maxHeartbeats 1000000 in
theorem af0 {v v' : Value} {l l' : List (Nat × Int × Int)} (w : World) (h : RV w v l) (h' : RV w v' l') (hl : l.length ≤ 1000) (hl' : l'.length ≤ 1000) :
 Calls Try.prog 6 #[v, v'] w fun e w' => e = .returned (.bool (decide (l.map Prod.snd = l'.map Prod.snd))) ∧ Below w.heap.size w w' := by
 obtain ⟨ba, cap, rfl⟩ := h.sl
 obtain ⟨ba', cap', rfl⟩ := h'.sl
 go_enter Try.func6, Try.ntmps6
 by_cases hlen : l.length = l'.length
 ·obtain ⟨n, hn⟩ : ∃ n, l.length = n := ⟨_, rfl⟩
  have hn' : l'.length = n := by omega
  clear hlen
  rw [hn] at h hl ⊢
  rw [hn'] at h' hl' ⊢
  go_wp2
  go_loopw [5] (fun i wr => ∃ j : Nat, j ≤ n ∧ i = .int .i64 (j : Int) ∧ Below w.heap.size w wr ∧ (l.map Prod.snd).take j = (l'.map Prod.snd).take j) (fun i _ => n - (intOf i).toNat)
  case atStart => exact ⟨0, Nat.zero_le _, rfl, Below.refl _ _, rfl⟩
  case round =>
   obtain ⟨k, hk, rfl, hB, heq⟩ := hrel
   by_cases hlt : k < n
   ·obtain ⟨⟨b, x, c⟩, hz⟩ : ∃ z, l[k]? = some z := ⟨_, List.getElem?_eq_getElem (by omega)⟩
    obtain ⟨⟨b', x', c'⟩, hz'⟩ : ∃ z, l'[k]? = some z := ⟨_, List.getElem?_eq_getElem (by omega)⟩
    have hr := h.below hB
    have hr' := h'.below hB
    obtain ⟨g, rfl, hgs, hc⟩ := hr.at_ _ _ _ rfl k _ hz
    obtain ⟨g', rfl, hgs', hc'⟩ := hr'.at_ _ _ _ rfl k _ hz'
    have hi := hr.in_ _ (List.mem_of_getElem? hz)
    have hi' := hr'.in_ _ (List.mem_of_getElem? hz')
    dsimp only at hi hi'
    replace h := HidP.mk h
    replace h' := HidP.mk h'
    replace heq := HidP.mk heq
    replace hB := HidP.mk hB
    replace hi := HidP.mk hi
    replace hi' := HidP.mk hi'
    clear hr hr'
    cases hbb : decide (x = x' ∧ c = c') with
    | true =>
      go_wp2
      go_region_held3 (fun w' => w'.cell? ⟨g, k, none⟩ = some (enc2 (b, x, c)) ∧ w'.cell? ⟨g', k, none⟩ = some (enc2 (b', x', c'))) (go_keep) (first | (go_at_call 20; refine (eq_c (w := wr.drew) (show In2 wr.drew b x c from hi.out) (show In2 wr.drew b' x' c' from hi'.out) (x, c) (x', c')).mono ?_; rintro e w3 ⟨rfl, hB3⟩; rw [hbb]; have k1 : w3.cell? ⟨g, k, none⟩ = some (enc2 (b, x, c)) := (hB3.cell (by exact hgs)).trans hc; have k2 : w3.cell? ⟨g', k, none⟩ = some (enc2 (b', x', c')) := (hB3.cell (by exact hgs')).trans hc'; replace hB3 : HidP (Below wr.heap.size wr w3) := ⟨⟨hB3.os, hB3.tape, hB3.output, hB3.size, hB3.block⟩⟩))
      go_wp2
      go_roundw
      case rel =>
       have hBB : Below w.heap.size w w3 := hB.out.trans (hB3.out.mono hB.out.size)
       refine ⟨k + 1, by omega, by go_num, hBB, ?_⟩
       rw [List.take_add_one, List.take_add_one, heq.out, List.getElem?_map, List.getElem?_map, hz, hz']
       obtain ⟨e1, e2⟩ := of_decide_eq_true hbb
       rw [e1, e2]
       rfl
      case measure => simp [intOf]; omega
    | false =>
      go_wp2
      go_region_held3 (fun w' => w'.cell? ⟨g, k, none⟩ = some (enc2 (b, x, c)) ∧ w'.cell? ⟨g', k, none⟩ = some (enc2 (b', x', c'))) (go_keep) (first | (go_at_call 20; refine (eq_c (w := wr.drew) (show In2 wr.drew b x c from hi.out) (show In2 wr.drew b' x' c' from hi'.out) (x, c) (x', c')).mono ?_; rintro e w3 ⟨rfl, hB3⟩; rw [hbb]; have k1 : w3.cell? ⟨g, k, none⟩ = some (enc2 (b, x, c)) := (hB3.cell (by exact hgs)).trans hc; have k2 : w3.cell? ⟨g', k, none⟩ = some (enc2 (b', x', c')) := (hB3.cell (by exact hgs')).trans hc'; replace hB3 : HidP (Below wr.heap.size wr w3) := ⟨⟨hB3.os, hB3.tape, hB3.output, hB3.size, hB3.block⟩⟩))
      go_wp2
      go_ret
      have hBB : Below w.heap.size w w3 := hB.out.trans (hB3.out.mono hB.out.size)
      refine ⟨?_, hBB⟩
      have hne : ¬ (l.map Prod.snd = l'.map Prod.snd) := by
       intro e
       have e2 : (l.map Prod.snd)[k]? = (l'.map Prod.snd)[k]? := by rw [e]
       rw [List.getElem?_map, List.getElem?_map, hz, hz'] at e2
       have e3 := Option.some.inj e2
       injection e3 with e4 e5
       exact absurd ⟨e4, e5⟩ (of_decide_eq_false hbb)
      rw [decide_eq_false hne]
      rfl
   ·have hkl : k = n := by omega
    subst hkl
    go_wp2
    go_ret
    refine ⟨?_, hB⟩
    rw [List.take_of_length_le (by simp; omega), List.take_of_length_le (by simp; omega)] at heq
    rw [decide_eq_true heq]
    rfl
 ·go_wp2
  go_ret
  refine ⟨?_, Below.refl _ _⟩
  rw [decide_eq_false (show ¬ (l.map Prod.snd = l'.map Prod.snd) from fun e => hlen (by simpa using congrArg List.length e))]
  rfl
end Go.Proofs.Ythjehhoafmnmkaa
