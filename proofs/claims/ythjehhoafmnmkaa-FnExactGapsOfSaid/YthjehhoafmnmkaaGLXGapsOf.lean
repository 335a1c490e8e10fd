import Derived.Test.YthjehhoafmnmkaaGDXGapsOf
import Derived.Test.YthjehhoafmnmkaaGMXGapsOf
namespace Go.Proofs.Ythjehhoafmnmkaa
open Go Go.RowKit Go.Shelf Go.Ev Go.Sh Go.Maps
theorem RR.below {W W' : World} {lo : Nat} {v : Value} {l : List (Nat × Int × Int)} (h : RR W lo v l) (hB : Below W.heap.size W W') : RR W' lo v l :=
 h.keep fun j hj => hB.block j (by
  rcases hj with hj | hj
  ·exact (h.row.lt j hj).2
  ·obtain ⟨y, hy, rfl⟩ := List.mem_map.1 hj
   exact h.lt hy)
theorem RR.none (W : World) (lo : Nat) : RR W lo (.slice none 0 0) [] := ⟨⟨rfl, .inl ⟨rfl, rfl⟩⟩, by simp, by simp, by simp⟩
/-- What both of the GapsOf hand back. -/
def aiv (f : Nat) (p q n : Int) (t : List (Int × Int)) (code : Int) : Prop := ∀ w, Calls Try.prog f #[.int .i64 p, .int .i64 q, .int .i64 n] w fun e w' => ∃ v l, e = .returned (.tuple #[v, .int .i64 code]) ∧ RR w' w.heap.size v l ∧ l.map Prod.snd = t ∧ Below w.heap.size w w'
theorem both (p q n : Int) : ∃ (t : List (Int × Int)) (code : Int), t.length ≤ 500 ∧ aiv 4 p q n t code ∧ aiv 5 p q n t code := by
 cases hb : gapB p q n with
 | false =>
   refine ⟨[], 2, by simp, fun w => ?_, fun w => ?_⟩
   ·exact (callsIn_wide.1 (aha FW.wide hb w)).mono fun e w' ⟨he, hw⟩ => ⟨_, [], he, RR.none _ _, rfl, by rw [hw]; exact Below.refl _ _⟩
   ·exact (callsIn_wide.1 (ai0 FW.wide hb w)).mono fun e w' ⟨he, hw⟩ => ⟨_, [], he, RR.none _ _, rfl, by rw [hw]; exact Below.refl _ _⟩
 | true =>
   have hb' := hb
   unfold gapB at hb'
   rw [Bool.and_eq_true, Bool.and_eq_true] at hb'
   have hq := wX.1 hb'.1.2
   have hn := wX.1 hb'.2
   obtain ⟨m, rfl⟩ : ∃ m : Nat, n = (m : Int) := ⟨n.toNat, by omega⟩
   have he := ajS (p := p) (q := q) (n := m) (by omega) (by omega)
   by_cases hx : ∃ t, Ov (sgN (plc p q m) q m) t
   ·obtain ⟨t, ht⟩ := hx
    refine ⟨t, 0, ?_, fun w => ?_, fun w => ?_⟩
    ·have h1 := ht.len
     have h2 := abA (plc p q m) q m
     omega
    ·exact (callsIn_wide.1 (ach FW.wide hb w)).mono fun e w' ⟨v, l, he, hR, hT, hB⟩ => ⟨v, l, he, hR, hT.of.unique ht, hB⟩
    ·exact (callsIn_wide.1 (adu FW.wide hb w)).mono fun e w' ⟨v, l, he', hR, hT, hB⟩ => ⟨v, l, he', hR, (by rw [← he] at hT; exact hT.unique ht), hB⟩
   ·refine ⟨[], 0, by simp, fun w => ?_, fun w => ?_⟩
    ·exact (callsIn_wide.1 (ach FW.wide hb w)).mono fun e w' ⟨v, l, he, hR, hT, hB⟩ => absurd ⟨_, hT.of⟩ hx
    ·exact (callsIn_wide.1 (adu FW.wide hb w)).mono fun e w' ⟨v, l, he', hR, hT, hB⟩ => absurd ⟨_, (by rw [← he] at hT; exact hT)⟩ hx
set_option maxRecDepth 100000 in
set_option maxHeartbeats 2000000 in
theorem akg (p q n : Int) (w : World) : Calls Try.prog 3 #[.int .i64 p, .int .i64 q, .int .i64 n] w fun e w' => e = .returned (.bool true) ∧ Below w.heap.size w w' := by
 obtain ⟨t, code, ht, h4, h5⟩ := both p q n
 have hlen : ∀ {l : List (Nat × Int × Int)}, l.map Prod.snd = t → l.length ≤ 500 := fun h => by
  have := congrArg List.length h
  simp at this
  omega
 go_enter Try.func3, Try.ntmps3
 go_wp2_with (first
  | (go_at_call 8; refine (acC (l := l1) (m := 1) w7 (hR4.rv.below hB47) (by omega) (by omega) (by omega)).mono ?_; rintro e w8 ⟨rfl, hB8⟩)
  | (go_at_call 6; refine (af0 w6 hR2.rv (hR0.rv.below hB16) (by omega) (by omega)).mono ?_; rintro e w7 ⟨rfl, hB7⟩; rw [decide_eq_true (hl2.trans hl0.symm)]; have hB47 : Below w4.heap.size w4 w7 := hB5.trans ((hB6.mono hB5.size).trans (hB7.mono (Nat.le_trans hB5.size hB6.size))))
  | (go_at_call 5; refine (h5 w5).mono ?_; rintro e w6 ⟨v2, l2, rfl, hR2, hl2, hB6⟩; have hn2 := hlen hl2; have hB16 : Below w1.heap.size w1 w6 := hB2.trans ((hB3.mono hB2.size).trans (hB4.trans ((hB5.mono (Nat.le_trans (Nat.le_trans hB2.size hB3.size) hB4.size)).trans (hB6.mono (Nat.le_trans (Nat.le_trans (Nat.le_trans hB2.size hB3.size) hB4.size) hB5.size))))))
  | (go_at_call 8; refine (acC (l := l1) (m := 1) w4 hR4.rv (by omega) (by omega) (by omega)).mono ?_; rintro e w5 ⟨rfl, hB5⟩)
  | (go_at_call 7; refine (ahz (l := l1) (m := 1) (lo := w1.heap.size) w3 (Nat.le_trans hB2.size hB3.size) (hR1.below hB3) (by omega) (by omega) (by omega)).mono ?_; rintro e w4 ⟨rfl, hR4, hB4⟩)
  | (go_at_call 6; refine (af0 w2 hR1.rv (hR0.rv.below hB2) (by omega) (by omega)).mono ?_; rintro e w3 ⟨rfl, hB3⟩; rw [decide_eq_true (hl1.trans hl0.symm)])
  | (go_at_call 5; refine (h5 w1).mono ?_; rintro e w2 ⟨v1, l1, rfl, hR1, hl1, hB2⟩; have hn1 := hlen hl1; have hn0 := hlen hl0)
  | (go_at_call 4; refine (h4 w).mono ?_; rintro e w1 ⟨v0, l0, rfl, hR0, hl0, hB1⟩))
 go_ret
 have h16 := hB16.trans ((hB7.mono hB16.size).trans (hB8.mono (Nat.le_trans hB16.size hB7.size)))
 exact ⟨rfl, hB1.trans (h16.mono hB1.size)⟩
end Go.Proofs.Ythjehhoafmnmkaa
