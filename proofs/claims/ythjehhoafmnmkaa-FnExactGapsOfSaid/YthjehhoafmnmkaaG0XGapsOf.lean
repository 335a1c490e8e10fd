import Derived.RangeFuncBox
import Derived.Shelf.Abstract
import Derived.Shelf.RegionOpen
import Derived.WalkKit
import Derived.OwnWalkIn
import Derived.TacticsInMore
import Derived.LoopNIn
import Derived.LoopIn
import Derived.Test.YthjehhoafmnmkaaProg
import Derived.Test.YthjehhoafmnmkaaEvFrac
import Derived.Test.YthjehhoafmnmkaaMaB
namespace Go.Proofs.Ythjehhoafmnmkaa
open Go Go.RowKit Go.Shelf Go.Ev
set_option maxHeartbeats 1000000 in
theorem acx (F : Fence) (n : Nat) (h : F.fn 14) (hro : F.round = none) (x lo hi : Int) (w : World) :
 CallsIn F n Try.prog 14 #[.int .i64 x, .int .i64 lo, .int .i64 hi] w fun e w' => e = .returned (.bool (inBb x lo hi)) ∧ w' = w := by
 refine callsIn_of_wp Try.func14 rfl h ?_ hro
 simp only [Try.ntmps14, List.size_toArray, List.length_cons, List.length_nil, Nat.reduceAdd, Nat.reduceSub, Array.replicate_succ, Array.replicate_zero, List.push_toArray, List.append_toArray, List.nil_append, List.cons_append]
 gi_wp2
 ·go_ret
  have h : lo ≤ x := by assumption
  exact ⟨by simp [inBb, h], rfl⟩
 ·go_ret
  have h : x < lo := by assumption
  exact ⟨by simp [inBb, show ¬ lo ≤ x by omega], rfl⟩
set_option maxHeartbeats 1000000 in
theorem ahJ (F : Fence) (n : Nat) (h : F.fn 29) (hro : F.round = none) (a b : Int) (hb : 1 ≤ b) (hb1 : b ≤ 1000000) (ha : -1000000000000 ≤ a) (ha1 : a ≤ 1000000000000) (w : World) :
 CallsIn F n Try.prog 29 #[.int .i64 a, .int .i64 b] w fun e w' => e = .returned (.int .i64 (a / b)) ∧ w' = w := by
 refine callsIn_of_wp Try.func29 rfl h ?_ hro
 simp only [Try.ntmps29, List.size_toArray, List.length_cons, List.length_nil, Nat.reduceAdd, Nat.reduceSub, Array.replicate_succ, Array.replicate_zero, List.push_toArray, List.append_toArray, List.nil_append, List.cons_append]
 have h0 : b ≠ 0 := by omega
 have e := Go.Sh.tdiv_floor a b (by omega)
 have hq := Go.Sh.tdiv_abs a b
 have hw : wrap64 (a.tdiv b - 1) = a.tdiv b - 1 := by unfold wrap64; omega
 gi_wp2
 ·have h1 : a.tmod b = 0 := by assumption
  rw [decide_eq_true h1, Bool.not_true, cond_false] at e
  go_ret
  exact ⟨by rw [← e]; rfl, rfl⟩
 ·have h1 : ¬ a.tmod b = 0 := by assumption
  have h2 : (a.tmod b != 0) = true ∧ (!decide (a < 0) == decide (b < 0)) = true := by assumption
  rw [decide_eq_false h1, Bool.not_false, cond_true] at e
  have h3 : (!(decide (a < 0) == decide (b < 0))) = true := h2.2
  rw [h3, cond_true] at e
  go_ret
  exact ⟨by rw [← e, ← hw]; rfl, rfl⟩
 ·have h1 : ¬ a.tmod b = 0 := by assumption
  have h2 : (a.tmod b != 0) = false ∨ (!decide (a < 0) == decide (b < 0)) = false := by assumption
  rw [decide_eq_false h1, Bool.not_false, cond_true] at e
  have h3 : (!(decide (a < 0) == decide (b < 0))) = false := by
   rcases h2 with h | h
   ·exact absurd (by simpa using h) h1
   ·exact h
  rw [h3, cond_false] at e
  go_ret
  exact ⟨by rw [← e]; rfl, rfl⟩
set_option maxHeartbeats 1000000 in
theorem ajm (F : Fence) (n : Nat) (hn : 1 ≤ n) (h : F.fn 16) (h2 : F.fn 29) (hro : F.round = none) (a b : Int) (hb : 1 ≤ b) (hb1 : b ≤ 1000000) (ha : -1000000000000 ≤ a) (ha1 : a ≤ 1000000000000) (w : World) :
 CallsIn F n Try.prog 16 #[.int .i64 a, .int .i64 b] w fun e w' => e = .returned (.int .i64 (a % b)) ∧ w' = w := by
 refine callsIn_of_wp Try.func16 rfl h ?_ hro
 simp only [Try.ntmps16, List.size_toArray, List.length_cons, List.length_nil, Nat.reduceAdd, Nat.reduceSub, Array.replicate_succ, Array.replicate_zero, List.push_toArray, List.append_toArray, List.nil_append, List.cons_append]
 gi_wp2_with (gi_at_call 29; refine (ahJ F (n - 1) h2 hro a b hb hb1 ha ha1 _).mono ?_; rintro e w' ⟨rfl, rfl⟩)
 go_ret
 refine ⟨?_, rfl⟩
 have h1 := Int.emod_add_mul_ediv a b
 have h2 := Int.emod_nonneg a (b := b) (by omega)
 have h3 := Int.emod_lt_of_pos a (show 0 < b by omega)
 have e1 : wrap64 (b * (a / b)) = b * (a / b) := by unfold wrap64; omega
 have e2 : wrap64 (a - wrap64 (b * (a / b))) = a % b := by rw [e1]; unfold wrap64; omega
 exact congrArg (fun x => Ending.returned (Value.int .i64 x)) e2
set_option maxHeartbeats 1000000 in
theorem ahC (F : Fence) (n : Nat) (hn : 1 ≤ n) (h : F.fn 32) (h2 : F.fn 14) (hro : F.round = none) (x : Int) (w : World) :
 CallsIn F n Try.prog 32 #[.int .i64 x] w fun e w' => e = .returned (.bool (inBb x (-1000000) 1000000)) ∧ w' = w := by
 refine callsIn_of_wp Try.func32 rfl h ?_ hro
 simp only [Try.ntmps32, List.size_toArray, List.length_cons, List.length_nil, Nat.reduceAdd, Nat.reduceSub, Array.replicate_succ, Array.replicate_zero, List.push_toArray, List.append_toArray, List.nil_append, List.cons_append]
 gi_wp2_with (gi_at_call 14; refine (acx F (n - 1) h2 hro _ _ _ _).mono ?_; rintro e w' ⟨rfl, rfl⟩)
 go_ret
 exact ⟨rfl, rfl⟩
set_option maxHeartbeats 1000000 in
theorem ahe (F : Fence) (n : Nat) (hn : 2 ≤ n) (h : F.fn 25) (h1 : F.fn 32) (h2 : F.fn 14) (hro : F.round = none) (p q : Int) (w : World) :
 CallsIn F n Try.prog 25 #[.int .i64 p, .int .i64 q] w fun e w' => e = .returned (.bool (inBb p (-1000000) 1000000 && inBb q 1 1000000)) ∧ w' = w := by
 have hn1 : 1 ≤ n := by omega
 refine callsIn_of_wp Try.func25 rfl h ?_ hro
 simp only [Try.ntmps25, List.size_toArray, List.length_cons, List.length_nil, Nat.reduceAdd, Nat.reduceSub, Array.replicate_succ, Array.replicate_zero, List.push_toArray, List.append_toArray, List.nil_append, List.cons_append]
 gi_wp2_with first | (gi_at_call 14; refine (acx F (n - 1) h2 hro _ _ _ _).mono ?_; rintro e w' ⟨rfl, rfl⟩) | (gi_at_call 32; refine (ahC F (n - 1) (by omega) h1 h2 hro _ _).mono ?_; rintro e w' ⟨rfl, rfl⟩)
 ·have hp : inBb p (-1000000) 1000000 = true := by assumption
  go_ret
  exact ⟨by rw [hp]; rfl, rfl⟩
 ·have hp : ¬ inBb p (-1000000) 1000000 = true := by assumption
  go_ret
  exact ⟨by rw [Bool.eq_false_iff.2 hp]; rfl, rfl⟩
set_option maxHeartbeats 1000000 in
theorem VY (F : Fence) (n : Nat) (hn : 3 ≤ n) (h : F.fn 13) (h0 : F.fn 25) (h1 : F.fn 32) (h2 : F.fn 14) (hro : F.round = none) (p q : Int) (w : World) :
 CallsIn F n Try.prog 13 #[.int .i64 p, .int .i64 q] w fun e w' => e = .returned (.bool (inBb p (-1000000) 1000000 && inBb q 2 1000000)) ∧ w' = w := by
 have hn1 : 1 ≤ n := by omega
 refine callsIn_of_wp Try.func13 rfl h ?_ hro
 simp only [Try.ntmps13, List.size_toArray, List.length_cons, List.length_nil, Nat.reduceAdd, Nat.reduceSub, Array.replicate_succ, Array.replicate_zero, List.push_toArray, List.append_toArray, List.nil_append, List.cons_append]
 gi_wp2_with (gi_at_call 25; refine (ahe F (n - 1) (by omega) h0 h1 h2 hro _ _ _).mono ?_; rintro e w' ⟨rfl, rfl⟩)
 ·have hp : (inBb p (-1000000) 1000000 && inBb q 1 1000000) = true := by first | assumption | (rw [Bool.and_eq_true]; assumption)
  go_ret
  rw [Bool.and_eq_true] at hp
  refine ⟨?_, rfl⟩
  rw [hp.1, Bool.true_and]
  have hq := hp.2
  unfold inBb at hq ⊢
  rw [Bool.and_eq_true, decide_eq_true_eq, decide_eq_true_eq] at hq
  rw [decide_eq_true hq.2, Bool.and_true]
  rfl
 ·have hp : ¬ (inBb p (-1000000) 1000000 && inBb q 1 1000000) = true := by
   first | assumption | (rw [Bool.not_eq_true, Bool.and_eq_false_iff]; assumption) | (rw [Bool.and_eq_true]; assumption)
  go_ret
  refine ⟨?_, rfl⟩
  have : (inBb p (-1000000) 1000000 && inBb q 2 1000000) = false := by
   rw [Bool.eq_false_iff]
   intro e
   rw [Bool.and_eq_true] at e
   apply hp
   rw [Bool.and_eq_true]
   refine ⟨e.1, ?_⟩
   have := e.2
   unfold inBb at this ⊢
   simp at this ⊢
   omega
  rw [this]
  rfl
/-! the reference's -/
set_option maxHeartbeats 1000000 in
theorem aaE (F : Fence) (n : Nat) (h : F.fn 10) (hro : F.round = none) (x lo hi : Int) (w : World) :
 CallsIn F n Try.prog 10 #[.int .i64 x, .int .i64 lo, .int .i64 hi] w fun e w' => e = .returned (.bool (inBb x lo hi)) ∧ w' = w := by
 refine callsIn_of_wp Try.func10 rfl h ?_ hro
 simp only [Try.ntmps10, List.size_toArray, List.length_cons, List.length_nil, Nat.reduceAdd, Nat.reduceSub, Array.replicate_succ, Array.replicate_zero, List.push_toArray, List.append_toArray, List.nil_append, List.cons_append]
 gi_wp2
 ·go_ret
  have h : lo ≤ x := by assumption
  exact ⟨by simp [inBb, h], rfl⟩
 ·go_ret
  have h : x < lo := by assumption
  exact ⟨by simp [inBb, show ¬ lo ≤ x by omega], rfl⟩
set_option maxHeartbeats 1000000 in
theorem ahD (F : Fence) (n : Nat) (hn : 1 ≤ n) (h : F.fn 23) (h2 : F.fn 10) (hro : F.round = none) (x : Int) (w : World) :
 CallsIn F n Try.prog 23 #[.int .i64 x] w fun e w' => e = .returned (.bool (inBb x (-1000000) 1000000)) ∧ w' = w := by
 refine callsIn_of_wp Try.func23 rfl h ?_ hro
 simp only [Try.ntmps23, List.size_toArray, List.length_cons, List.length_nil, Nat.reduceAdd, Nat.reduceSub, Array.replicate_succ, Array.replicate_zero, List.push_toArray, List.append_toArray, List.nil_append, List.cons_append]
 gi_wp2_with (gi_at_call 10; refine (aaE F (n - 1) h2 hro _ _ _ _).mono ?_; rintro e w' ⟨rfl, rfl⟩)
 go_ret
 exact ⟨rfl, rfl⟩
set_option maxHeartbeats 1000000 in
theorem Vj (F : Fence) (n : Nat) (hn : 2 ≤ n) (h : F.fn 9) (h1 : F.fn 23) (h2 : F.fn 10) (hro : F.round = none) (p q low : Int) (w : World) :
 CallsIn F n Try.prog 9 #[.int .i64 p, .int .i64 q, .int .i64 low] w fun e w' => e = .returned (.bool (inBb p (-1000000) 1000000 && inBb q low 1000000)) ∧ w' = w := by
 have hn1 : 1 ≤ n := by omega
 refine callsIn_of_wp Try.func9 rfl h ?_ hro
 simp only [Try.ntmps9, List.size_toArray, List.length_cons, List.length_nil, Nat.reduceAdd, Nat.reduceSub, Array.replicate_succ, Array.replicate_zero, List.push_toArray, List.append_toArray, List.nil_append, List.cons_append]
 gi_wp2_with first | (gi_at_call 10; refine (aaE F (n - 1) h2 hro _ _ _ _).mono ?_; rintro e w' ⟨rfl, rfl⟩) | (gi_at_call 23; refine (ahD F (n - 1) (by omega) h1 h2 hro _ _).mono ?_; rintro e w' ⟨rfl, rfl⟩)
 ·have hp : inBb p (-1000000) 1000000 = true := by assumption
  go_ret
  exact ⟨by rw [hp]; rfl, rfl⟩
 ·have hp : ¬ inBb p (-1000000) 1000000 = true := by assumption
  go_ret
  exact ⟨by rw [Bool.eq_false_iff.2 hp]; rfl, rfl⟩
set_option maxHeartbeats 1000000 in
theorem acN (F : Fence) (n : Nat) (h : F.fn 12) (hro : F.round = none) (m x : Int) (hm : 1 ≤ m) (hm1 : m ≤ 1000000) (w : World) :
 CallsIn F n Try.prog 12 #[.int .i64 m, .int .i64 x] w fun e w' => e = .returned (.int .i64 (x % m)) ∧ w' = w := by
 refine callsIn_of_wp Try.func12 rfl h ?_ hro
 simp only [Try.ntmps12, List.size_toArray, List.length_cons, List.length_nil, Nat.reduceAdd, Nat.reduceSub, Array.replicate_succ, Array.replicate_zero, List.push_toArray, List.append_toArray, List.nil_append, List.cons_append]
 have h0 : m ≠ 0 := by omega
 gi_wp2
 go_ret
 refine ⟨?_, rfl⟩
 have h1 : -m < Int.tmod x m := Int.lt_tmod_of_pos x (by omega)
 have h2 : Int.tmod x m < m := Int.tmod_lt_of_pos x (by omega)
 have e1 : wrap64 (Int.tmod x m + m) = Int.tmod x m + m := by unfold wrap64; omega
 have e2 : Int.tmod (wrap64 (Int.tmod x m + m)) m = x % m := by rw [e1]; exact Go.Sh.rest_eq (by omega)
 exact congrArg (fun x => Ending.returned (Value.int .i64 x)) e2
end Go.Proofs.Ythjehhoafmnmkaa
