/- impl.FractionOf, walked: a range over slices.Backward. -/
import Derived.Test.YtiggcnbnidnaiaaEvFrac
import Derived.RangeFuncNested
import Derived.RangeFuncBound
import Derived.RangeFuncCalls
import Derived.RangeFuncLeaves
import Derived.RangeFuncBox
import Derived.Shelf.Abstract
import Derived.Shelf.RegionOpen
import Derived.WalkKit
import Derived.OwnWalkIn
import Derived.TacticsInMore
import Derived.LoopNIn
import Derived.LoopIn
import Derived.Test.YtiggcnbnidnaiaaProg
namespace Go.Proofs.Ytiggcnbnidnaiaa
open Go Go.Ev Go.RowKit Go.Shelf
attribute [local go_sem] Oper.semAt_some
set_option maxHeartbeats 1000000 in
theorem aiV (F : Fence) (n : Nat) (h29 : F.fn 29) (hro : F.round = none) (x lo hi : Int) (w : World) :
 CallsIn F n Try.prog 29 #[.int .i64 x, .int .i64 lo, .int .i64 hi] w fun e w' => e = .returned (.bool (inBb x lo hi)) ∧ w' = w := by
 refine callsIn_of_wp Try.func29 rfl h29 ?_ hro
 simp only [Try.ntmps29, List.size_toArray, List.length_cons, List.length_nil, Nat.reduceAdd, Nat.reduceSub, Array.replicate_succ, Array.replicate_zero, List.push_toArray, List.append_toArray, List.nil_append, List.cons_append]
 gi_wp2
 ·go_ret
  have h : lo ≤ x := by assumption
  exact ⟨by simp [inBb, h], rfl⟩
 ·go_ret
  have h : x < lo := by assumption
  exact ⟨by simp [inBb, show ¬ lo ≤ x by omega], rfl⟩
set_option maxHeartbeats 1000000 in
theorem ahq (F : Fence) (n : Nat) (hn : 1 ≤ n) (h30 : F.fn 30) (h29 : F.fn 29) (hro : F.round = none) (x : Int) (w : World) :
 CallsIn F n Try.prog 30 #[.int .i64 x] w fun e w' => e = .returned (.bool (inBb x (-1000000) 1000000)) ∧ w' = w := by
 refine callsIn_of_wp Try.func30 rfl h30 ?_ hro
 simp only [Try.ntmps30, List.size_toArray, List.length_cons, List.length_nil, Nat.reduceAdd, Nat.reduceSub, Array.replicate_succ, Array.replicate_zero, List.push_toArray, List.append_toArray, List.nil_append, List.cons_append]
 gi_wp2_with (gi_at_call 29; refine (aiV F (n - 1) h29 hro _ _ _ _).mono ?_; rintro e w' ⟨rfl, rfl⟩)
 go_ret
 exact ⟨rfl, rfl⟩
set_option maxHeartbeats 1000000 in
theorem anl (F : Fence) (n : Nat) (h31 : F.fn 31) (hro : F.round = none) (a : Option Addr) (len cap : Nat) (w : World) :
 CallsIn F n Try.prog 31 #[.slice a len cap] w fun e w' => e = .returned (.func (.func 57) #[] #[.pointer (some ⟨w.heap.size, 0, none⟩)]) ∧ w' = w.alloc (.cells #[.slice a len cap] 35) := by
 refine callsIn_of_wp Try.func31 rfl h31 ?_ hro
 simp only [Try.ntmps31, List.size_toArray, List.length_cons, List.length_nil, Nat.reduceAdd, Nat.reduceSub, Array.replicate_succ, Array.replicate_zero, List.push_toArray, List.append_toArray, List.nil_append, List.cons_append]
 gi_wp2
 go_ret
 exact ⟨rfl, rfl⟩
def KpB (n₀ Bs : Nat) (A B : World) : Prop := Below n₀ A B ∧ B.heap[Bs]? = A.heap[Bs]?
theorem KpB.refl (n₀ Bs : Nat) (A : World) : KpB n₀ Bs A A := ⟨Below.refl _ _, rfl⟩
theorem KpB.trans {n₀ Bs : Nat} {A B C : World} (h : KpB n₀ Bs A B) (k : KpB n₀ Bs B C) : KpB n₀ Bs A C := ⟨h.1.trans k.1, k.2.trans h.2⟩
theorem cell_of_heap {A B : World} {b : Nat} (h : B.heap[b]? = A.heap[b]?) (o : Nat) : B.cell? ⟨b, o, none⟩ = A.cell? ⟨b, o, none⟩ := by simp [World.cell?, h]
theorem KpB.box {n₀ Bs : Nat} {A B : World} (h : KpB n₀ Bs A B) : B.cell? ⟨Bs, 0, none⟩ = A.cell? ⟨Bs, 0, none⟩ := cell_of_heap h.2 0
set_option maxRecDepth 100000 in
set_option maxHeartbeats 2000000 in
theorem anQ (F : Fence) (n : Nat) (h57 : F.fn 57) (hro : F.round = none) (hn : 1 ≤ n) (l Bs n₀ b off len cap : Nat) (zs : List Int) (h1 : 1 ≤ len) (h60 : len ≤ 60) (hb : b < n₀) (J Jx : List (Int × Int) → World → Prop)
 (hY : ∀ pre x W, J pre W → pre.length < len → YieldAt F (n - 1) Try.prog l #[.int .i64 x.1, .int .i64 x.2] W fun e W' =>
   (e = .returned (.bool true) ∧ J (pre ++ [x]) W' ∧ KpB n₀ Bs W W') ∨ (e = .returned (.bool false) ∧ Jx (pre ++ [x]) W'))
 (W : World) (hBs : W.cell? ⟨Bs, 0, none⟩ = some (.slice (some ⟨b, off, none⟩) len cap)) (hc : ∀ j, j < len → W.cell? ⟨b, off + j, none⟩ = some (.int .i64 (zs[j]?.getD 0))) (h0 : J [] W) :
 CallsIn F n Try.prog 57 #[.func (.yield l) #[] #[], .pointer (some ⟨Bs, 0, none⟩)] W fun e W' => (∃ v, e = .returned v) ∧
  ((∃ ys, ys = DJ (bkF len zs) len ∧ J ys W') ∨ (∃ pre, (∃ k, k ≤ len ∧ pre = DJ (bkF len zs) k) ∧ Jx pre W')) := by
 refine callsIn_of_wp Try.func57 rfl h57 ?_ hro
 simp only [Try.ntmps57, List.size_toArray, List.length_cons, List.length_nil, Nat.reduceAdd, Nat.reduceSub, Array.replicate_succ, Array.replicate_zero, List.push_toArray, List.append_toArray, List.nil_append, List.cons_append]
 gi_wp2
 gi_loopw [3] (fun i wr => ∃ k : Nat, k ≤ len ∧ i = .int .i64 ((len : Int) - 1 - (k : Int)) ∧ J (DJ (bkF len zs) k) wr ∧ KpB n₀ Bs W wr)
  (fun i _ => (intOf i + 1).toNat)
 case atStart => exact ⟨0, Nat.zero_le _, by simp, h0, KpB.refl _ _ _⟩
 case round =>
  obtain ⟨k, hk, rfl, hJs, hnx⟩ := hrel
  have hbs := hnx.box.trans hBs
  have hcx : k < len → wr.cell? ⟨b, off + (len - 1 - k), none⟩ = some (.int .i64 (zs[len - 1 - k]?.getD 0)) := fun h => (hnx.1.cell (p := ⟨b, off + (len - 1 - k), none⟩) hb).trans (hc (len - 1 - k) (by omega))
  by_cases hlt : k < len
  ·obtain ⟨fn, tmps, assign, body, hy, hR⟩ := hY _ (bkF len zs k) wr hJs (by rw [agN]; exact hlt)
   dsimp only [bkF] at hy
   have hcx' := hcx hlt
   gi_wp2
   refine hR.mono ?_
   rintro e W3 (⟨rfl, hJ3, hk3⟩ | ⟨rfl, hJx3⟩)
   ·gi_wp2
    go_roundw
    case rel => exact ⟨k + 1, by omega, by simp; omega, by rw [adR]; exact hJ3, hnx.trans hk3⟩
    case measure => simp [intOf]; omega
   ·gi_wp2
    refine bodyPost_ret (results_none rfl _ _ _) rfl ?_
    exact ⟨⟨_, rfl⟩, .inr ⟨_, ⟨k + 1, by omega, (adR _ _).symm⟩, hJx3⟩⟩
  ·obtain rfl : k = len := by omega
   gi_wp2
   go_end0
   exact ⟨⟨_, rfl⟩, .inl ⟨_, rfl, hJs⟩⟩
theorem alC (F : Fence) (n : Nat) (h57 : F.fn 57) (hro : F.round = none) (hn : 1 ≤ n) (Bs n₀ b off len cap : Nat) (zs : List Int) (h1 : 1 ≤ len) (h60 : len ≤ 60) (hb : b < n₀) (w : World) (hBs : Bs < w.heap.size) (hn₀ : n₀ ≤ w.heap.size)
 (hB : w.cell? ⟨Bs, 0, none⟩ = some (.slice (some ⟨b, off, none⟩) len cap)) (hc : ∀ j, j < len → w.cell? ⟨b, off + j, none⟩ = some (.int .i64 (zs[j]?.getD 0))) :
 SeqStopsK F n Try.prog 57 #[.pointer (some ⟨Bs, 0, none⟩)] (fun x : Int × Int => #[Value.int .i64 x.1, Value.int .i64 x.2]) (KpB n₀ Bs) (fun ys => ys = DJ (bkF len zs) len) (fun pre => ∃ k, k ≤ len ∧ pre = DJ (bkF len zs) k) len w := fun l J Jx W hW _ _ hY h0 =>
 anQ F n h57 hro hn l Bs n₀ b off len cap zs h1 h60 hb J Jx hY W ((hW.cell (p := ⟨Bs, 0, none⟩) hBs).trans hB) (fun j hj => (hW.cell (p := ⟨b, off + j, none⟩) (show b < w.heap.size by omega)).trans (hc j hj)) h0
def Cel (W : World) (B : Nat) (v : Value) : Prop := W.cell? ⟨B, 0, none⟩ = some v ∧ W.frozen? ⟨B, 0, none⟩ = false
theorem Cel.set {W : World} {B : Nat} {v : Value} (h : Cel W B v) (u : Value) : Cel (W.setCell ⟨B, 0, none⟩ u) B u := ⟨World.cell?_setCell_same' _ _ _ (by rw [h.1]; rfl), by rw [World.frozen?_setCell]; exact h.2⟩
theorem Cel.oth {W : World} {B B' : Nat} {v : Value} (h : Cel W B v) (hn : B' ≠ B) (u : Value) : Cel (W.setCell ⟨B', 0, none⟩ u) B v := ⟨(World.cell?_setCell_other _ _ _ _ (fun e => hn (congrArg Addr.block e))).trans h.1, by rw [World.frozen?_setCell]; exact h.2⟩
theorem Cel.kept {A B : World} {b : Nat} {v : Value} {row : Option Nat} (h : Cel A b v) (hg : A.grownBy B row) (hr : ∀ r, row = some r → ∃ o : Obj, A.heap[r]? = some o ∧ o.isCells = false) : Cel B b v := ⟨cell_kept h.1 hg hr, (frozen_kept h.1 hg hr).trans h.2⟩
theorem Cel.of {W : World} {B : Nat} {t : TypeId} {v : Value} (h : Boxed W B t v) : Cel W B v := ⟨h.cell, h.frozen⟩
set_option maxRecDepth 100000 in
set_option maxHeartbeats 4000000 in
theorem aix (F : Fence) (n : Nat) (h14 : F.fn 14) (h29 : F.fn 29) (h30 : F.fn 30) (h31 : F.fn 31) (h57 : F.fn 57) (hro : F.round = none) (hn : 6 ≤ n) (a : Option Addr) (len cap : Nat) (zs : List Int) (hz : zs.length = len) (hmax : len ≤ 4611686018427387904) (w : World)
 (hI : 1 ≤ len → ∃ b off, a = some ⟨b, off, none⟩ ∧ b < w.heap.size ∧ ∀ j, j < len → w.cell? ⟨b, off + j, none⟩ = some (.int .i64 (zs[j]?.getD 0))) :
 CallsIn F n Try.prog 14 #[.slice a len cap] w fun e W' => e = .returned (.tuple #[.int .i64 (uy zs).1, .int .i64 (uy zs).2.1, .int .i64 (uy zs).2.2]) ∧ Below w.heap.size w W' := by
 have hn1 : 1 ≤ n := by omega
 have hB0 : Below w.heap.size w (((w.alloc (.cells #[.int .i64 0] 2)).alloc (.cells #[.int .i64 0] 2)).alloc (.cells #[.int .i64 0] 2)) := (((Below.refl _ w).alloc (Nat.le_refl _) _).alloc (by simp) _).alloc (by simp; omega) _
 refine callsIn_of_wp_marks Try.func14 rfl h14 ?_ hro
 simp only [Try.ntmps14, List.size_toArray, List.length_cons, List.length_nil, Nat.reduceAdd, Nat.reduceSub, Array.replicate_succ, Array.replicate_zero, List.push_toArray, List.append_toArray, List.nil_append, List.cons_append]
 cases hin : inBb (len : Int) 1 60 with
 | false =>
   gi_wp2_with (gi_at_call 29; refine (aiV F (n - 1) h29 hro _ _ _ _).mono ?_; rintro e w' ⟨rfl, rfl⟩; rw [hin])
   have hfr : uy zs = (0, 0, 2) := by unfold uy; rw [hz, hin]; rfl
   rw [hfr]
   refine ⟨.tuple #[.int .i64 0, .int .i64 0, .int .i64 2], ?_, rfl, (((Below.refl _ w).alloc (Nat.le_refl _) _).alloc (by simp) _).alloc (by simp; omega) _⟩
   have b0 := ((Boxed.new w 2 (.int .i64 0)).alloc (.cells #[.int .i64 0] 2)).alloc (.cells #[.int .i64 2] 2)
   have b1 := (Boxed.new (w.alloc (.cells #[.int .i64 0] 2)) 2 (.int .i64 0)).alloc (.cells #[.int .i64 2] 2)
   have b2 := Boxed.new ((w.alloc (.cells #[.int .i64 0] 2)).alloc (.cells #[.int .i64 0] 2)) 2 (.int .i64 2)
   rw [World.size_alloc] at b1 b2
   rw [World.size_alloc] at b2
   simp [results, Try.f14, go_sem, b0.cell, b1.cell, b2.cell]
 | true =>
   have hlen : 1 ≤ len ∧ len ≤ 60 := by simp [inBb] at hin; omega
   obtain ⟨b, off, rfl, hb, hcs⟩ := hI hlen.1
   gi_wp2_with (gi_at_call 29; refine (aiV F (n - 1) h29 hro _ _ _ _).mono ?_; rintro e w' ⟨rfl, rfl⟩; rw [hin])
   have b0 := ((Boxed.new w 2 (.int .i64 0)).alloc (.cells #[.int .i64 0] 2)).alloc (.cells #[.int .i64 0] 2)
   have b1 := (Boxed.new (w.alloc (.cells #[.int .i64 0] 2)) 2 (.int .i64 0)).alloc (.cells #[.int .i64 0] 2)
   have b2 := Boxed.new ((w.alloc (.cells #[.int .i64 0] 2)).alloc (.cells #[.int .i64 0] 2)) 2 (.int .i64 0)
   rw [World.size_alloc] at b1 b2
   rw [World.size_alloc] at b2
   obtain ⟨W0, hW0⟩ : ∃ W0, (((w.alloc (.cells #[.int .i64 0] 2)).alloc (.cells #[.int .i64 0] 2)).alloc (.cells #[.int .i64 0] 2)) = W0 := ⟨_, rfl⟩
   have hS0 : W0.heap.size = w.heap.size + 1 + 1 + 1 := by rw [← hW0]; simp
   rw [hW0] at hB0 b0 b1 b2 ⊢
   have q0 := Cel.of b0
   have q1 := Cel.of b1
   have q2 := Cel.of b2
   obtain ⟨c0, f0⟩ := id q0
   obtain ⟨c1, f1⟩ := id q1
   obtain ⟨c2, f2⟩ := id q2
   clear hW0
   have bad : ∀ tmps : Array Value, tmps[2]? = some (.pointer (some ⟨w.heap.size, 0, none⟩)) → tmps[3]? = some (.pointer (some ⟨w.heap.size + 1, 0, none⟩)) → tmps[4]? = some (.pointer (some ⟨w.heap.size + 1 + 1, 0, none⟩)) → okF zs 0 = false →
    bodyPostM F n Try.prog Try.f14 (fun e W' => e = .returned (.tuple #[.int .i64 (uy zs).1, .int .i64 (uy zs).2.1, .int .i64 (uy zs).2.2]) ∧ Below w.heap.size w W') .ret { tmps := tmps, defers := [] }
     (((W0.setCell ⟨w.heap.size, 0, none⟩ (.int .i64 0)).setCell ⟨w.heap.size + 1, 0, none⟩ (.int .i64 0)).setCell ⟨w.heap.size + 1 + 1, 0, none⟩ (.int .i64 2)) := by
    intro tmps t2 t3 t4 hok
    have hfr : uy zs = (0, 0, 2) := by unfold uy; rw [hz, hin, hok]; rfl
    rw [hfr]
    refine ⟨.tuple #[.int .i64 0, .int .i64 0, .int .i64 2], ?_, rfl, ((hB0.setCell (p := ⟨w.heap.size, 0, none⟩) (Nat.le_refl _) _).setCell (p := ⟨w.heap.size + 1, 0, none⟩) (by simp) _).setCell (p := ⟨w.heap.size + 1 + 1, 0, none⟩) (by simp; omega) _⟩
    have r0 := ((q0.set (.int .i64 0)).oth (B' := w.heap.size + 1) (by omega) (.int .i64 0)).oth (B' := w.heap.size + 1 + 1) (by omega) (.int .i64 2)
    have r1 := ((q1.oth (B' := w.heap.size) (by omega) (.int .i64 0)).set (.int .i64 0)).oth (B' := w.heap.size + 1 + 1) (by omega) (.int .i64 2)
    have r2 := ((q2.oth (B' := w.heap.size) (by omega) (.int .i64 0)).oth (B' := w.heap.size + 1) (by omega) (.int .i64 0)).set (.int .i64 2)
    simp [results, Try.f14, go_sem, t2, t3, t4, r0.1, r1.1, r2.1]
   gi_loopw [17] (fun i wr => ∃ k : Nat, k ≤ len ∧ i = .int .i64 (k : Int) ∧ okF (zs.take k) 0 = true ∧ wr = W0)
    (fun i _ => len - (intOf i).toNat)
   case atStart => exact ⟨0, Nat.zero_le _, rfl, rfl, rfl⟩
   case round =>
    obtain ⟨k, hk, rfl, hok, rfl⟩ := hrel
    by_cases hlt : k < len
    ·have hcx : wr.cell? ⟨b, off + k, none⟩ = some (.int .i64 (zs[k]?.getD 0)) := (hB0.cell (p := ⟨b, off + k, none⟩) hb).trans (hcs k hlt)
     gi_wp2_with (gi_at_call 30; refine (ahq F (n - 1) (by omega) h30 h29 hro _ _).mono ?_; rintro e w' ⟨rfl, rfl⟩)
     ·have e1 : 0 < k := by assumption
      have e2 : zs[k] < 1 := by assumption
      exact bad _ rfl rfl rfl (aip (k := k) (by omega) (by rw [beq_false_of_ne (by omega), decide_eq_false (by omega)]; simp))
     ·have e1 : inBb zs[k] (-1000000) 1000000 = true := by assumption
      have e2 : 1 ≤ zs[k] := by assumption
      exact ⟨⟨k + 1, by omega, by simp, by rw [adu (by omega), hok, e1, decide_eq_true e2]; simp, trivial⟩, by simp [intOf]; omega⟩
     ·have e1 : inBb zs[k] (-1000000) 1000000 = true := by assumption
      have e2 : (k == 0) = true := by rw [beq_iff_eq]; omega
      exact ⟨⟨k + 1, by omega, by simp, by rw [adu (by omega), hok, e1, e2]; rfl, trivial⟩, by simp [intOf]; omega⟩
     ·have e1 : ¬ inBb zs[k] (-1000000) 1000000 = true := by assumption
      exact bad _ rfl rfl rfl (aip (k := k) (by omega) (by rw [Bool.eq_false_iff.2 e1]; simp))
    ·obtain rfl : k = len := by omega
     gi_wp2_with (gi_at_call 31; refine (anl F (n - 1) h31 hro _ _ _ _).mono ?_; rintro e w' ⟨rfl, rfl⟩)
     have hokz : okF zs 0 = true := by rw [← List.take_length (l := zs), hz]; exact hok
     have p3 := Cel.of (((Boxed.new wr 2 (.int .i64 1)).alloc (.cells #[.int .i64 0] 2)).alloc (.cells #[.slice (some ⟨b, off, none⟩) k cap] 35))
     have p4 := (Boxed.new (wr.alloc (.cells #[.int .i64 1] 2)) 2 (.int .i64 0)).alloc (.cells #[.slice (some ⟨b, off, none⟩) k cap] 35)
     have p5 := Boxed.new ((wr.alloc (.cells #[.int .i64 1] 2)).alloc (.cells #[.int .i64 0] 2)) 35 (.slice (some ⟨b, off, none⟩) k cap)
     rw [World.size_alloc] at p4 p5
     rw [World.size_alloc] at p5
     replace p4 := Cel.of p4
     replace p5 := Cel.of p5
     have z0 := Cel.of (((b0.alloc (.cells #[.int .i64 1] 2)).alloc (.cells #[.int .i64 0] 2)).alloc (.cells #[.slice (some ⟨b, off, none⟩) k cap] 35))
     have z1 := Cel.of (((b1.alloc (.cells #[.int .i64 1] 2)).alloc (.cells #[.int .i64 0] 2)).alloc (.cells #[.slice (some ⟨b, off, none⟩) k cap] 35))
     have z2 := Cel.of (((b2.alloc (.cells #[.int .i64 1] 2)).alloc (.cells #[.int .i64 0] 2)).alloc (.cells #[.slice (some ⟨b, off, none⟩) k cap] 35))
     rw [hS0] at p3 p4 p5
     have hB1 : Below w.heap.size w (((wr.alloc (.cells #[.int .i64 1] 2)).alloc (.cells #[.int .i64 0] 2)).alloc (.cells #[.slice (some ⟨b, off, none⟩) k cap] 35)) := ((hB0.alloc (by omega) _).alloc (by simp; omega) _).alloc (by simp; omega) _
     have hS1 : (((wr.alloc (.cells #[.int .i64 1] 2)).alloc (.cells #[.int .i64 0] 2)).alloc (.cells #[.slice (some ⟨b, off, none⟩) k cap] 35)).heap.size = w.heap.size + 1 + 1 + 1 + 1 + 1 + 1 := by simp; omega
     obtain ⟨W1, hW1⟩ : ∃ W1, (((wr.alloc (.cells #[.int .i64 1] 2)).alloc (.cells #[.int .i64 0] 2)).alloc (.cells #[.slice (some ⟨b, off, none⟩) k cap] 35)) = W1 := ⟨_, rfl⟩
     rw [hW1] at p3 p4 p5 z0 z1 z2 hB1 hS1 ⊢
     have hcells : ∀ j, j < k → W1.cell? ⟨b, off + j, none⟩ = some (.int .i64 (zs[j]?.getD 0)) := fun j hj => (hB1.cell (p := ⟨b, off + j, none⟩) hb).trans (hcs j hj)
     refine wpIn_rangeFunc_ownG hro hn1 (gf := 57) (lb := #[.pointer (some ⟨w.heap.size + 1 + 1 + 1 + 1 + 1, 0, none⟩)]) rfl h57 (enters_of Try.func57 (by kernel_rfl) rfl)
      (alC F (n - 1) h57 hro (by omega) (w.heap.size + 1 + 1 + 1 + 1 + 1) w.heap.size b off k cap zs hlen.1 hlen.2 hb W1 (by omega) (by omega) p5.1 hcells)
      (fun h k => h.trans k) (fun W l o o' hl h i j => ⟨belowK_b (w := W1) (by omega) W l o o' hl h i j, (grownBy_putObj' W l o').block _ (by have := (Array.getElem?_eq_some_iff.1 h).1; omega) (fun e => by have := Option.some.inj e; omega)⟩)
      (Below.refl _ _) (fun _ => rfl)
      (fun pre W => ((∃ p q : Int, Cel W (w.heap.size + 1 + 1 + 1) (.int .i64 p) ∧ Cel W (w.heap.size + 1 + 1 + 1 + 1) (.int .i64 q) ∧ gof (pre.map Prod.snd) 1 0 = some (p, q)) ∧ Cel W w.heap.size (.int .i64 0) ∧ Cel W (w.heap.size + 1) (.int .i64 0) ∧ Cel W (w.heap.size + 1 + 1) (.int .i64 0)) ∧ Below w.heap.size w W)
      (fun c pre W => (c = .ret ∧ gof (pre.map Prod.snd) 1 0 = none ∧ Cel W w.heap.size (.int .i64 0) ∧ Cel W (w.heap.size + 1) (.int .i64 0) ∧ Cel W (w.heap.size + 1 + 1) (.int .i64 3)) ∧ Below w.heap.size w W)
      (OwnFrom.and (Own.from (fun s A B row hs hg hr => by obtain ⟨⟨p, q, e1, e2, e3⟩, e4, e5, e6⟩ := hs; exact ⟨⟨p, q, e1.kept hg hr, e2.kept hg hr, e3⟩, e4.kept hg hr, e5.kept hg hr, e6.kept hg hr⟩) _) (ownFrom_below (Nat.le_refl _) (by omega)))
      (fun c => OwnFrom.and (Own.from (fun s A B row hs hg hr => by obtain ⟨e1, e2, e3, e4, e5⟩ := hs; exact ⟨e1, e2, e3.kept hg hr, e4.kept hg hr, e5.kept hg hr⟩) _) (ownFrom_below (Nat.le_refl _) (by omega)))
      ⟨⟨⟨1, 0, p3, p4, rfl⟩, z0, z1, z2⟩, hB1⟩
      (fun x => { tmps := #[Value.slice (some ⟨b, off, none⟩) k cap, undef, Value.pointer (some ⟨w.heap.size, 0, none⟩), Value.pointer (some ⟨w.heap.size + 1, 0, none⟩), Value.pointer (some ⟨w.heap.size + 1 + 1, 0, none⟩), u5, u6, Value.pointer (some ⟨w.heap.size + 1 + 1 + 1, 0, none⟩), Value.pointer (some ⟨w.heap.size + 1 + 1 + 1 + 1, 0, none⟩), undef, .int .i64 x.2, Value.slice (some ⟨b, off, none⟩) k cap, Value.int .i64 (k : Int), Value.bool true, Value.bool false, Value.slice (some ⟨b, off, none⟩) k cap, Value.int .i64 (k : Int), Value.int .i64 (k : Int), Value.bool false, u19, u20, u21, u22, u23, u24, u25, u26, u27, u28, u29, u30, u31, u32, u33, Value.slice (some ⟨b, off, none⟩) k cap, Value.func (.func 57) #[] #[Value.pointer (some ⟨w.heap.size + 1 + 1 + 1 + 1 + 1, 0, none⟩)], .int .i64 x.1, .int .i64 x.2, undef, undef, undef, undef, undef, undef, undef, undef, undef, undef, undef, undef, undef, undef, undef, undef], defers := [] }) ?assign ?body ?done ?stop
     case assign =>
      intro l x W K hK
      gi_wp2
      exact hK
     case body =>
      rintro l pre x W ⟨⟨⟨p, q, cp, cq, hg⟩, r0, r1, r2⟩, hB⟩ _
      have hd1 : 1 ≤ n - 1 - 1 := by omega
      obtain ⟨cp1, cp2⟩ := id cp
      obtain ⟨cq1, cq2⟩ := id cq
      obtain ⟨r01, r02⟩ := id r0
      obtain ⟨r11, r12⟩ := id r1
      obtain ⟨r21, r22⟩ := id r2
      gi_wp2_with (gi_at_call 30; refine (CallsIn.inRound l (ahq F (n - 1 - 1 - 1) (by omega) h30 h29 hro _ _)).mono ?_; rintro e w' ⟨rfl, rfl⟩)
      all_goals have hg2 : gof ((pre ++ [x]).map Prod.snd) 1 0 = gof [x.2] p q := by rw [List.map_append, aeU, hg]; rfl
      ·have t1 : inBb p (-1000000) 1000000 = false := by simpa using (show (!inBb p (-1000000) 1000000) = true by assumption)
       refine ⟨(((((KeepsOthers.setCell _ _ _).trans (KeepsOthers.setCell _ _ _)).trans (KeepsOthers.setCell _ _ _)).trans (KeepsOthers.setCell _ _ _)).trans (KeepsOthers.setCell _ _ _)).from _, ⟨rfl, ?_, ?_, ?_, ?_⟩, ?_⟩
       ·rw [hg2]; unfold gof; rw [t1, Bool.and_false]; rfl
       ·exact ((((r0.oth (by omega) _).oth (by omega) _).set _).oth (by omega) _).oth (by omega) _
       ·exact ((((r1.oth (by omega) _).oth (by omega) _).oth (by omega) _).set _).oth (by omega) _
       ·exact ((((r2.oth (by omega) _).oth (by omega) _).oth (by omega) _).oth (by omega) _).set _
       ·exact ((((hB.setCell (p := ⟨w.heap.size + 1 + 1 + 1, 0, none⟩) (by simp; omega) _).setCell (p := ⟨w.heap.size + 1 + 1 + 1 + 1, 0, none⟩) (by simp; omega) _).setCell (p := ⟨w.heap.size, 0, none⟩) (by simp) _).setCell (p := ⟨w.heap.size + 1, 0, none⟩) (by simp) _).setCell (p := ⟨w.heap.size + 1 + 1, 0, none⟩) (by simp; omega) _
      ·have t1 : inBb p (-1000000) 1000000 = true := by simpa using (show (!inBb p (-1000000) 1000000) = false by assumption)
       have t2 : inBb (wrap64 (wrap64 (x.2 * p) + q)) (-1000000) 1000000 = true := by assumption
       refine ⟨((KeepsOthers.setCell _ _ _).trans (KeepsOthers.setCell _ _ _)).from _, ⟨?_, ?_⟩, ⟨⟨_, _, (cp.set _).oth (by omega) _, (cq.oth (by omega) _).set _, ?_⟩, ?_, ?_, ?_⟩, ?_⟩
       ·exact ((Below.refl _ W).setCell (p := ⟨w.heap.size + 1 + 1 + 1, 0, none⟩) (by simp; omega) _).setCell (p := ⟨w.heap.size + 1 + 1 + 1 + 1, 0, none⟩) (by simp; omega) _
       ·rw [Below.heap_setCell _ _ _ _ (by simp), Below.heap_setCell _ _ _ _ (by simp; omega)]
       ·rw [hg2]; unfold gof; rw [t1, t2]; rfl
       ·exact (r0.oth (by omega) _).oth (by omega) _
       ·exact (r1.oth (by omega) _).oth (by omega) _
       ·exact (r2.oth (by omega) _).oth (by omega) _
       ·exact (hB.setCell (p := ⟨w.heap.size + 1 + 1 + 1, 0, none⟩) (by simp; omega) _).setCell (p := ⟨w.heap.size + 1 + 1 + 1 + 1, 0, none⟩) (by simp; omega) _
      ·have t1 : inBb (wrap64 (wrap64 (x.2 * p) + q)) (-1000000) 1000000 = false := Bool.eq_false_iff.2 (by assumption)
       refine ⟨(((((KeepsOthers.setCell _ _ _).trans (KeepsOthers.setCell _ _ _)).trans (KeepsOthers.setCell _ _ _)).trans (KeepsOthers.setCell _ _ _)).trans (KeepsOthers.setCell _ _ _)).from _, ⟨rfl, ?_, ?_, ?_, ?_⟩, ?_⟩
       ·rw [hg2]; unfold gof; rw [t1, Bool.false_and]; rfl
       ·exact ((((r0.oth (by omega) _).oth (by omega) _).set _).oth (by omega) _).oth (by omega) _
       ·exact ((((r1.oth (by omega) _).oth (by omega) _).oth (by omega) _).set _).oth (by omega) _
       ·exact ((((r2.oth (by omega) _).oth (by omega) _).oth (by omega) _).oth (by omega) _).set _
       ·exact ((((hB.setCell (p := ⟨w.heap.size + 1 + 1 + 1, 0, none⟩) (by simp; omega) _).setCell (p := ⟨w.heap.size + 1 + 1 + 1 + 1, 0, none⟩) (by simp; omega) _).setCell (p := ⟨w.heap.size, 0, none⟩) (by simp) _).setCell (p := ⟨w.heap.size + 1, 0, none⟩) (by simp) _).setCell (p := ⟨w.heap.size + 1 + 1, 0, none⟩) (by simp; omega) _
     case done =>
      rintro D ys W hD rfl ⟨⟨⟨p, q, cp, cq, hg⟩, r0, r1, r2⟩, hB⟩ hK
      obtain ⟨cp1, cp2⟩ := id cp
      obtain ⟨cq1, cq2⟩ := id cq
      obtain ⟨r01, r02⟩ := id r0
      obtain ⟨r11, r12⟩ := id r1
      obtain ⟨r21, r22⟩ := id r2
      gi_wp2
      gi_region
      all_goals gi_wp2
      all_goals
       have hK1 := (((KeepsOthers.setCell W ⟨w.heap.size, 0, none⟩ (.int .i64 p)).trans (KeepsOthers.setCell _ ⟨w.heap.size + 1, 0, none⟩ (.int .i64 q))).trans (KeepsOthers.setCell _ ⟨w.heap.size + 1 + 1, 0, none⟩ (.int .i64 0))).same D _ hK rfl
       have hK2 : ((((W.setCell ⟨w.heap.size, 0, none⟩ (.int .i64 p)).setCell ⟨w.heap.size + 1, 0, none⟩ (.int .i64 q)).setCell ⟨w.heap.size + 1 + 1, 0, none⟩ (.int .i64 0)).drew).heap[D]? = some (.deferred (some [])) := hK1
       refine ⟨by simp, .inl ⟨_, _, rfl, run_takeDeferred hK2, ?_⟩⟩
       have hgo := grownBy_putObj' ((((W.setCell ⟨w.heap.size, 0, none⟩ (.int .i64 p)).setCell ⟨w.heap.size + 1, 0, none⟩ (.int .i64 q)).setCell ⟨w.heap.size + 1 + 1, 0, none⟩ (.int .i64 0)).drew) D (.deferred none)
       have hro2 : ∀ r, (some D) = some r → ∃ o : Obj, ((((W.setCell ⟨w.heap.size, 0, none⟩ (.int .i64 p)).setCell ⟨w.heap.size + 1, 0, none⟩ (.int .i64 q)).setCell ⟨w.heap.size + 1 + 1, 0, none⟩ (.int .i64 0)).drew).heap[r]? = some o ∧ o.isCells = false := fun r e => by cases e; exact ⟨_, hK2, rfl⟩
       have m0 : Cel ((((W.setCell ⟨w.heap.size, 0, none⟩ (.int .i64 p)).setCell ⟨w.heap.size + 1, 0, none⟩ (.int .i64 q)).setCell ⟨w.heap.size + 1 + 1, 0, none⟩ (.int .i64 0)).drew) w.heap.size (.int .i64 p) := ((r0.set _).oth (by omega) _).oth (by omega) _
       have m1 : Cel ((((W.setCell ⟨w.heap.size, 0, none⟩ (.int .i64 p)).setCell ⟨w.heap.size + 1, 0, none⟩ (.int .i64 q)).setCell ⟨w.heap.size + 1 + 1, 0, none⟩ (.int .i64 0)).drew) (w.heap.size + 1) (.int .i64 q) := ((r1.oth (by omega) _).set _).oth (by omega) _
       have m2 : Cel ((((W.setCell ⟨w.heap.size, 0, none⟩ (.int .i64 p)).setCell ⟨w.heap.size + 1, 0, none⟩ (.int .i64 q)).setCell ⟨w.heap.size + 1 + 1, 0, none⟩ (.int .i64 0)).drew) (w.heap.size + 1 + 1) (.int .i64 0) := ((r2.oth (by omega) _).oth (by omega) _).set _
       have k0 := m0.kept hgo hro2
       have k1 := m1.kept hgo hro2
       have k2 := m2.kept hgo hro2
       have hfr : uy zs = (p, q, 0) := by
        unfold uy
        rw [hz, hin, hokz, ← aja zs, hz, hg]
        rfl
       rw [hfr]
       refine ⟨.tuple #[.int .i64 p, .int .i64 q, .int .i64 0], ?_, rfl, ((((hB.setCell (p := ⟨w.heap.size, 0, none⟩) (by simp) _).setCell (p := ⟨w.heap.size + 1, 0, none⟩) (by simp) _).setCell (p := ⟨w.heap.size + 1 + 1, 0, none⟩) (by simp; omega) _).drew).trans (belowK_b (w := w) (Nat.le_refl _) _ D _ _ (by omega) hK2 rfl rfl)⟩
       simp [results, Try.f14, go_sem, k0.1, k1.1, k2.1]
     case stop =>
      rintro D c pre W hD ⟨k', hk', rfl⟩ ⟨⟨rfl, hg, r0, r1, r2⟩, hB⟩ hK
      gi_wp2
      refine ⟨by simp, .inl ⟨_, _, rfl, run_takeDeferred hK, ?_⟩⟩
      have hgo := grownBy_putObj' W D (.deferred none)
      have hro2 : ∀ r, (some D) = some r → ∃ o : Obj, W.heap[r]? = some o ∧ o.isCells = false := fun r e => by cases e; exact ⟨_, hK, rfl⟩
      have k0 := r0.kept hgo hro2
      have k1 := r1.kept hgo hro2
      have k2 := r2.kept hgo hro2
      have hfr : uy zs = (0, 0, 3) := by
       unfold uy
       rw [hz, hin, hokz]
       have hp : gof zs.reverse 1 0 = none := by
        obtain ⟨r, hr⟩ := ahD (bkF k zs) hk'
        rw [← aja zs, hz, hr, List.map_append, aeU, hg]
        rfl
       rw [hp]
       rfl
      rw [hfr]
      refine ⟨.tuple #[.int .i64 0, .int .i64 0, .int .i64 3], ?_, rfl, hB.trans (belowK_b (w := w) (Nat.le_refl _) W D _ _ (by omega) hK rfl rfl)⟩
      simp [results, Try.f14, go_sem, k0.1, k1.1, k2.1]
theorem abG : ∀ l : List Int, l.flatMap (Ty.enc (.int .i64)) = l.map fun n => AV.int .i64 n
 | [] => rfl
 | x :: l => by rw [List.flatMap_cons, abG l]; rfl
theorem ajl [Inhabited aQ] {α : Type} (hq : ¬ Qt) {e : TypeId} {l : List Int} {κ : Res → Option α} {r : α} (h : aeJ l (fun p q c => κ ⟨[.int .i64 p, .int .i64 q, .int .i64 c], []⟩) = some r) : Runs Try.prog 14 [.sl e (.int .i64) l] κ r := by
 unfold aeJ at h
 split at h
 ·rename_i hl
  intro w vs μ hin hnd
  rcases hvs : vs.toList with _ | ⟨v, _ | ⟨_, _⟩⟩
  ·rw [hvs] at hin; simp [gy] at hin
  ·rw [hvs] at hin
   obtain ⟨⟨ad, cap, rfl, hcap, hc⟩, h3⟩ := hin
   have hμ : μ = [] := by cases μ with | nil => rfl | cons _ _ => simp [gy] at h3
   subst hμ
   have hv2 : vs = #[.slice ad l.length cap] := by rw [← Array.toArray_toList (xs := vs), hvs]
   subst hv2
   have hI : 1 ≤ l.length → ∃ b off, ad = some ⟨b, off, none⟩ ∧ b < w.heap.size ∧ ∀ j, j < l.length → w.cell? ⟨b, off + j, none⟩ = some (.int .i64 (l[j]?.getD 0)) := fun h1 => by
    rcases hc with h0 | ⟨b, o, rfl, _, hcs⟩
    ·rw [h0] at h1; simp at h1
    ·have hcell : ∀ j, j < l.length → w.cell? ⟨b, o + j, none⟩ = some (.int .i64 (l[j]?.getD 0)) := fun j hj => by
      obtain ⟨v, hv, hc⟩ := hcs j (.int .i64 l[j]) (by rw [abG, List.getElem?_map, List.getElem?_eq_getElem hj]; rfl)
      have hv2 : v = .int .i64 l[j] := (Option.some.inj hv).symm
      rw [hc, hv2, List.getElem?_eq_getElem hj]
      rfl
     exact ⟨b, o, rfl, World.block_lt_of_cell? w _ (hcell 0 h1), hcell⟩
   have hw := aix Fence.wide 6 trivial trivial trivial trivial trivial rfl (by omega) ad l.length cap l rfl hl w hI
   refine (callsIn_wide.1 hw).mono fun e' w' ⟨he, hw'⟩ => ⟨_, _, he, h, ?_⟩
   exact ⟨⟨hw'.os, hw'.tape, hw'.output, hw'.size, fun k hk _ => hw'.block k hk, fun q => absurd q hq⟩, fun g hg => by simp at hg, trivial, [.int .i64 _, .int .i64 _, .int .i64 _], [], rfl, ⟨[], [], rfl, ⟨rfl, rfl⟩, [], [], rfl, ⟨rfl, rfl⟩, [], [], rfl, ⟨rfl, rfl⟩, rfl⟩, List.nodup_nil, by simp⟩
  ·rw [hvs] at hin; obtain ⟨_, h⟩ := hin; simp [gy] at h
 ·cases h
theorem afQ [Inhabited aQ] {α : Type} (hq : ¬ Qt) {κ : Res → Option α} {r : α} (h : κ ⟨[.int .i64 0, .int .i64 0, .int .i64 2], []⟩ = some r) : Runs Try.prog 14 [.nilsl] κ r := by
 intro w vs μ hin hnd
 rcases hvs : vs.toList with _ | ⟨v, _ | ⟨_, _⟩⟩
 ·rw [hvs] at hin; simp [gy] at hin
 ·rw [hvs] at hin
  obtain ⟨hv, h3⟩ := hin
  have hμ : μ = [] := by cases μ with | nil => rfl | cons _ _ => simp [gy] at h3
  subst hμ
  have e1 : v = .slice none 0 0 := hv
  subst e1
  have hv2 : vs = #[.slice none 0 0] := by rw [← Array.toArray_toList (xs := vs), hvs]
  subst hv2
  have hw := aix Fence.wide 6 trivial trivial trivial trivial trivial rfl (by omega) none 0 0 [] rfl (by omega) w (fun h => absurd h (by omega))
  refine (callsIn_wide.1 hw).mono fun e' w' ⟨he, hw'⟩ => ⟨_, _, he, h, ?_⟩
  exact ⟨⟨hw'.os, hw'.tape, hw'.output, hw'.size, fun k hk _ => hw'.block k hk, fun q => absurd q hq⟩, fun g hg => by simp at hg, trivial, [.int .i64 _, .int .i64 _, .int .i64 _], [], rfl, ⟨[], [], rfl, ⟨rfl, rfl⟩, [], [], rfl, ⟨rfl, rfl⟩, [], [], rfl, ⟨rfl, rfl⟩, rfl⟩, List.nodup_nil, by simp⟩
 ·rw [hvs] at hin; obtain ⟨_, h⟩ := hin; simp [gy] at h
theorem adp (args : Array Value) (w : World) : (callFunc 14 args).run Try.prog w = .ok (.enter 14 args) w := enters_of Try.func14 (by kernel_rfl) rfl args w
theorem frac_good [Inhabited aQ] {α : Type} (hq : ¬ Qt) {e : TypeId} {B : Nat → List Int → (Int → Int → Int → Option α) → Option α} (hB : ∀ n l r, B n l r = aeJ l r) :
 ∀ n, az Try.prog 14 (aZ [.sl e (.int .i64)] (bY ⟨[.sl e (.int .i64)], [.rows (.int .i64)], [⟨[.int, .int, .int], [.int .i64, .int .i64, .int .i64], []⟩]⟩ B n)) := fun n =>
 ⟨adp, fun ds κ r h => by
   unfold aZ at h
   rw [Option.bind_eq_some_iff] at h
   obtain ⟨p, hp, hc⟩ := h
   have hb := sK _ _ _ [] hp
   rw [List.append_nil] at hb
   unfold bY at hc
   rw [Option.bind_eq_some_iff] at hc
   obtain ⟨f, hf, hc⟩ := hc
   match p, hf with
   | [q], hf =>
     simp only [appP, Option.bind_eq_some_iff] at hf
     obtain ⟨l, hl, hf⟩ := hf
     have hq1 := LT.get_p1 hl
     subst hq1
     have := Option.some.inj hf
     subst this
     have hds : ds = [.sl e (.int .i64) l] := by
      simp [lQ, jK, LT.p1] at hb
      exact hb.symm
     subst hds
     have hc2 : B n l (fun p q c => κ ⟨[.int .i64 p, .int .i64 q, .int .i64 c], []⟩) = some r := by
      rw [← hc]
      rfl
     rw [hB] at hc2
     exact ajl hq hc2
   | [], hf => simp [appP] at hf
   | _ :: _ :: _, hf => simp [appP] at hf⟩
theorem frac_good_nil [Inhabited aQ] {α : Type} (hq : ¬ Qt) {B : Nat → (Int → Int → Int → Option α) → Option α} (hB : ∀ n r, B n r = r 0 0 2) :
 ∀ n, az Try.prog 14 (aZ [.nilsl] (bY ⟨[.nilsl], [], [⟨[.int, .int, .int], [.int .i64, .int .i64, .int .i64], []⟩]⟩ B n)) := fun n =>
 ⟨adp, fun ds κ r h => by
   unfold aZ at h
   rw [Option.bind_eq_some_iff] at h
   obtain ⟨p, hp, hc⟩ := h
   have hb := sK _ _ _ [] hp
   rw [List.append_nil] at hb
   unfold bY at hc
   rw [Option.bind_eq_some_iff] at hc
   obtain ⟨f, hf, hc⟩ := hc
   match p, hf with
   | [], hf =>
     have := Option.some.inj hf
     subst this
     have hds : ds = [.nilsl] := by
      simp [lQ, jK] at hb
      exact hb.symm
     subst hds
     have hc2 : B n (fun p q c => κ ⟨[.int .i64 p, .int .i64 q, .int .i64 c], []⟩) = some r := by
      rw [← hc]
      rfl
     rw [hB] at hc2
     exact afQ hq hc2
   | _ :: _, hf => simp [appP] at hf⟩
end Go.Proofs.Ytiggcnbnidnaiaa
