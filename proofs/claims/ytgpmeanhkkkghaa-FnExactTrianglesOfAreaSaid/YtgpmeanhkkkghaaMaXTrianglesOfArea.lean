/- Plain laws: what the readings without memory answer. -/
import Derived.Test.YtgpmeanhkkkghaaShXTrianglesOfArea
namespace Go.Sh
open Go Go.Ev

variable {α : Type}

theorem spec_l01In_eq (k : Nat) (n low high : Int) (r : Bool → Option α) : spec_l01In k n low high r = r (inB n low high) := by
  unfold spec_l01In inB
  cases decide (low ≤ n) <;> rfl

theorem impl_in_eq (k : Nat) (n low high : Int) (r : Bool → Option α) : impl_in k n low high r = r (inB n low high) := by
  unfold impl_in inB
  cases decide (low ≤ n) <;> rfl

theorem spec_l01Rest_eq (k : Nat) (n x : Int) (r : Int → Option α) (hn : 0 < n) (hn2 : n ≤ 1000000000000000000) : spec_l01Rest k n x r = r (x % n) := by
  have h1 : -n < Int.tmod x n := Int.lt_tmod_of_pos x hn
  have h2 : Int.tmod x n < n := Int.tmod_lt_of_pos x hn
  simp only [spec_l01Rest, dec_eq_f (show n ≠ 0 by omega), cond_false]
  rw [w64_of (by omega) (by omega), rest_eq hn]

theorem impl_floor_eq (k : Nat) (a b : Int) (r : Int → Option α) (hb : 0 < b) (ha : -1000000000000000000 ≤ a) (ha2 : a ≤ 1000000000000000000) : impl_floor k a b r = r (a / b) := by
  have hq := tdiv_abs a b
  simp only [impl_floor, dec_eq_f (show b ≠ 0 by omega), cond_false, w64_of (n := Int.tdiv a b) (by omega) (by omega), w64_of (n := Int.tdiv a b - 1) (by omega) (by omega)]
  rw [← tdiv_floor a b hb]
  cases (!decide (Int.tmod a b = 0)) <;> cases (!(decide (a < 0) == decide (b < 0))) <;> rfl

theorem impl_mod_eq (k : Nat) (a b : Int) (r : Int → Option α) (hb : 0 < b) (hb2 : b ≤ 1000000000000000000) (ha : -1000000000000000000 ≤ a) (ha2 : a ≤ 1000000000000000000) : impl_mod k a b r = r (a % b) := by
  simp only [impl_mod, impl_floor_eq k a b _ hb ha ha2]
  have h1 := Int.emod_add_mul_ediv a b
  have h2 := Int.emod_nonneg a (b := b) (by omega)
  have h3 := Int.emod_lt_of_pos a hb
  rw [w64_of (n := b * (a / b)) (by omega) (by omega), w64_of (by omega) (by omega)]
  congr 1
  omega

theorem impl_size_eq (k : Nat) (n : Int) (r : Int → Option α) (h0 : -1000000000000000000 ≤ n) (h1 : n ≤ 1000000000000000000) : impl_size k n r = r (max n (-n)) := by
  simp only [impl_size]
  rw [w64_of (by omega) (by omega), Int.zero_sub]

theorem set_mid {β : Type} (pre : List β) (x y : β) (rest : List β) : (pre ++ x :: rest).set pre.length y = pre ++ [y] ++ rest := by
  rw [List.set_append_right _ _ (Nat.le_refl _)]
  simp

def gcdI (a b : Int) : Int := (Int.gcd a b : Int)

theorem gcdI_le {a b B : Int} (ha : -B ≤ a) (ha1 : a ≤ B) (hb : -B ≤ b) (hb1 : b ≤ B) : 0 ≤ gcdI a b ∧ gcdI a b ≤ B := by
  unfold gcdI
  refine ⟨by omega, ?_⟩
  by_cases h : a = 0
  · subst h
    rw [Int.gcd_zero_left]
    omega
  · have := Int.gcd_le_natAbs_left (a := a) b h
    omega

theorem gcdI_pos {a b : Int} (h : a ≠ 0 ∨ b ≠ 0) : 0 < gcdI a b := by
  unfold gcdI
  have : Int.gcd a b ≠ 0 := fun e => by
    rw [Int.gcd_eq_zero_iff] at e
    omega
  omega

theorem gcd_step (a b : Int) : Int.gcd b (Int.tmod a b) = Int.gcd a b := by
  unfold Int.gcd
  rw [Int.natAbs_tmod, Nat.gcd_comm, ← Nat.gcd_rec, Nat.gcd_comm]

theorem tmod_lt_abs (a : Int) {b : Int} (h : b ≠ 0) : (Int.tmod a b).natAbs < b.natAbs := by
  rw [Int.natAbs_tmod]
  exact Nat.mod_lt _ (by omega)

theorem spec_gcd_l1 : ∀ (n k : Nat) (a b : Int) b0 (r0 : Int → Option α), b.natAbs ≤ n → n < k → ∃ g : Int, g.natAbs = Int.gcd a b ∧ spec_l01Gcd_l1 k a b b0 r0 = b0 g 0
  | n, k + 1, a, b, b0, r0, hn, hk => by
    by_cases h : b = 0
    · subst h
      exact ⟨a, by simp, by simp [spec_l01Gcd_l1]⟩
    · cases n with
      | zero => omega
      | succ n =>
        have := tmod_lt_abs a h
        obtain ⟨g, h1, h2⟩ := spec_gcd_l1 n k b (Int.tmod a b) b0 r0 (by omega) (by omega)
        refine ⟨g, by rw [h1, gcd_step], ?_⟩
        rw [spec_l01Gcd_l1, dec_eq_f h]
        exact h2
  | _, 0, _, _, _, _, _, hk => by omega

theorem impl_gcd_l1_ok : ∀ (n k : Nat) (a b : Int) b0 (r0 : Int → Option α), b.natAbs ≤ n → n < k → ∃ g : Int, g.natAbs = Int.gcd a b ∧ impl_gcd_l1 k a b b0 r0 = b0 g 0
  | n, k + 1, a, b, b0, r0, hn, hk => by
    by_cases h : b = 0
    · subst h
      exact ⟨a, by simp, by simp [impl_gcd_l1]⟩
    · cases n with
      | zero => omega
      | succ n =>
        have := tmod_lt_abs a h
        obtain ⟨g, h1, h2⟩ := impl_gcd_l1_ok n k b (Int.tmod a b) b0 r0 (by omega) (by omega)
        refine ⟨g, by rw [h1, gcd_step], ?_⟩
        rw [impl_gcd_l1, dec_eq_f h]
        exact h2
  | _, 0, _, _, _, _, _, hk => by omega

theorem spec_l01Gcd_eq (k : Nat) (a b : Int) (r : Int → Option α) (ha : -1000000000 ≤ a) (ha1 : a ≤ 1000000000) (hb : -1000000000 ≤ b) (hb1 : b ≤ 1000000000) (hk : 1000000000 < k) : spec_l01Gcd k a b r = r (gcdI a b) := by
  unfold spec_l01Gcd
  obtain ⟨g, h1, h2⟩ := spec_gcd_l1 (α := α) 1000000000 k a b (fun a2 b_2 => r (max a2 (w64 (0 - a2)))) r (by omega) hk
  have hb := gcdI_le ha ha1 hb hb1
  unfold gcdI at hb ⊢
  rw [h2, w64_of (by omega) (by omega)]
  congr 1
  omega

theorem impl_gcd_eq (k : Nat) (a b : Int) (r : Int → Option α) (ha : -1000000000 ≤ a) (ha1 : a ≤ 1000000000) (hb : -1000000000 ≤ b) (hb1 : b ≤ 1000000000) (hk : 1000000000 < k) : impl_gcd k a b r = r (gcdI a b) := by
  unfold impl_gcd
  obtain ⟨g, h1, h2⟩ := impl_gcd_l1_ok (α := α) 1000000000 k a b (fun a2 b_2 => impl_size k a2 fun v => r v) r (by omega) hk
  have hb := gcdI_le ha ha1 hb hb1
  unfold gcdI at hb ⊢
  rw [h2, impl_size_eq _ _ _ (by omega) (by omega)]
  congr 1
  omega

/-- A point's primitive one. -/
def prim (a b : Int) : Int × Int := (Int.tdiv a (gcdI a b), Int.tdiv b (gcdI a b))

theorem spec_l01Part_eq (k : Nat) (a b : Int) (r : Int → Int → Option α) (ha : -1000000000 ≤ a) (ha1 : a ≤ 1000000000) (hb : -1000000000 ≤ b) (hb1 : b ≤ 1000000000) (hk : 1000000000 < k) (h : a ≠ 0 ∨ b ≠ 0) : spec_l01Part k a b r = r (prim a b).1 (prim a b).2 := by
  have hp := gcdI_pos h
  have h1 := tdiv_abs a (gcdI a b)
  have h2 := tdiv_abs b (gcdI a b)
  unfold spec_l01Part prim
  rw [spec_l01Gcd_eq k a b _ ha ha1 hb hb1 hk]
  simp only
  rw [dec_eq_f (show gcdI a b ≠ 0 by omega), w64_of (by omega) (by omega), w64_of (by omega) (by omega)]
  rfl

theorem impl_primitive_eq (k : Nat) (a b : Int) (r : Int → Int → Option α) (ha : -1000000000 ≤ a) (ha1 : a ≤ 1000000000) (hb : -1000000000 ≤ b) (hb1 : b ≤ 1000000000) (hk : 1000000000 < k) (h : a ≠ 0 ∨ b ≠ 0) : impl_Point_primitive k a b r = r (prim a b).1 (prim a b).2 := by
  have hp := gcdI_pos h
  have h1 := tdiv_abs a (gcdI a b)
  have h2 := tdiv_abs b (gcdI a b)
  unfold impl_Point_primitive impl_Point_length prim
  rw [impl_gcd_eq k a b _ ha ha1 hb hb1 hk]
  simp only
  rw [dec_eq_f (show gcdI a b ≠ 0 by omega), w64_of (by omega) (by omega), w64_of (by omega) (by omega)]
  rfl

theorem less_w {a b : Int} (ha : -1000000000 ≤ a) (ha1 : a ≤ 1000000000) (hb : -1000000000 ≤ b) (hb1 : b ≤ 1000000000) : w64 (a + w64 (-1 * b)) = a - b := by
  rw [w64_of (n := -1 * b) (by omega) (by omega), w64_of (by omega) (by omega)]
  omega

theorem spec_less_eq (k : Nat) (a b c d : Int) (r : Int → Int → Option α) (ha : -1000000000 ≤ a ∧ a ≤ 1000000000) (hb : -1000000000 ≤ b ∧ b ≤ 1000000000) (hc : -1000000000 ≤ c ∧ c ≤ 1000000000) (hd : -1000000000 ≤ d ∧ d ≤ 1000000000) : spec_l01Plus k a b c d (-1) r = r (a - c) (b - d) := by
  unfold spec_l01Plus
  rw [less_w ha.1 ha.2 hc.1 hc.2, less_w hb.1 hb.2 hd.1 hd.2]

theorem impl_less_eq (k : Nat) (a b c d : Int) (r : Int → Int → Option α) (ha : -1000000000 ≤ a ∧ a ≤ 1000000000) (hb : -1000000000 ≤ b ∧ b ≤ 1000000000) (hc : -1000000000 ≤ c ∧ c ≤ 1000000000) (hd : -1000000000 ≤ d ∧ d ≤ 1000000000) : impl_Point_less k a b c d r = r (a - c) (b - d) := by
  unfold impl_Point_less impl_Point_plus
  rw [less_w ha.1 ha.2 hc.1 hc.2, less_w hb.1 hb.2 hd.1 hd.2]

theorem det_w {a b c d : Int} (ha : -1000000000 ≤ a ∧ a ≤ 1000000000) (hb : -1000000000 ≤ b ∧ b ≤ 1000000000) (hc : -1000000000 ≤ c ∧ c ≤ 1000000000) (hd : -1000000000 ≤ d ∧ d ≤ 1000000000) : w64 (w64 (a * d) - w64 (b * c)) = a * d - b * c ∧ -2000000000000000000 ≤ a * d - b * c ∧ a * d - b * c ≤ 2000000000000000000 := by
  have h1 := mul_bound ha.1 ha.2 hd.1 hd.2
  have h2 := mul_bound hb.1 hb.2 hc.1 hc.2
  rw [w64_of (n := a * d) (by omega) (by omega), w64_of (n := b * c) (by omega) (by omega), w64_of (by omega) (by omega)]
  exact ⟨rfl, by omega, by omega⟩

/-- A number of a triangle's point. -/
def inT (a : Int) : Prop := -1000 ≤ a ∧ a ≤ 1000

/-- A triangle. -/
structure IsT (a b c d e f : Int) : Prop where
  ne : (c - a) * (f - b) - (d - b) * (e - a) ≠ 0
  a : inT a
  b : inT b
  c : inT c
  d : inT d
  e : inT e
  f : inT f

theorem inT.wide {a : Int} (h : inT a) : -1000000000 ≤ a ∧ a ≤ 1000000000 := by
  unfold inT at h
  omega

theorem inT.sub {a b : Int} (h : inT a) (h' : inT b) : -1000000000 ≤ a - b ∧ a - b ≤ 1000000000 := by
  unfold inT at h h'
  omega

theorem inT.sub2 {a b : Int} (h : inT a) (h' : inT b) : -2000 ≤ a - b ∧ a - b ≤ 2000 := by
  unfold inT at h h'
  omega

theorem spec_area_eq (k : Nat) {a b c d e f : Int} (ha : inT a) (hb : inT b) (hc : inT c) (hd : inT d) (he : inT e) (hf : inT f) (r : Int → Option α) : spec_l01Area k a b c d e f r = r (max ((c - a) * (f - b) - (d - b) * (e - a)) (-((c - a) * (f - b) - (d - b) * (e - a)))) := by
  have h1 := det_w (hc.sub ha) (hd.sub hb) (he.sub ha) (hf.sub hb)
  have m1 := mul_bound (hc.sub2 ha).1 (hc.sub2 ha).2 (hf.sub2 hb).1 (hf.sub2 hb).2
  have m2 := mul_bound (hd.sub2 hb).1 (hd.sub2 hb).2 (he.sub2 ha).1 (he.sub2 ha).2
  simp only [spec_l01Area, spec_l01Det]
  rw [spec_less_eq _ _ _ _ _ _ hc.wide hd.wide ha.wide hb.wide, spec_less_eq _ _ _ _ _ _ he.wide hf.wide ha.wide hb.wide, h1.1, w64_of (by omega) (by omega), Int.zero_sub]

theorem impl_area_eq (k : Nat) {a b c d e f : Int} (ha : inT a) (hb : inT b) (hc : inT c) (hd : inT d) (he : inT e) (hf : inT f) (r : Int → Option α) : impl_area k a b c d e f r = r (max ((c - a) * (f - b) - (d - b) * (e - a)) (-((c - a) * (f - b) - (d - b) * (e - a)))) := by
  have h1 := det_w (hc.sub ha) (hd.sub hb) (he.sub ha) (hf.sub hb)
  have m1 := mul_bound (hc.sub2 ha).1 (hc.sub2 ha).2 (hf.sub2 hb).1 (hf.sub2 hb).2
  have m2 := mul_bound (hd.sub2 hb).1 (hd.sub2 hb).2 (he.sub2 ha).1 (he.sub2 ha).2
  simp only [impl_area, impl_det]
  rw [impl_less_eq _ _ _ _ _ _ hc.wide hd.wide ha.wide hb.wide, impl_less_eq _ _ _ _ _ _ he.wide hf.wide ha.wide hb.wide, h1.1, impl_size_eq _ _ _ (by omega) (by omega)]

structure InT6 (a b c d e f : Int) : Prop where
  a : inT a
  b : inT b
  c : inT c
  d : inT d
  e : inT e
  f : inT f

theorem spec_length_eq (k : Nat) (hk : 1000000000 < k) {a b c d : Int} (ha : inT a) (hb : inT b) (hc : inT c) (hd : inT d) (r : Int → Option α) : spec_l01Length k a b c d r = r (gcdI (c - a) (d - b)) := by
  have h1 := hc.sub2 ha
  have h2 := hd.sub2 hb
  unfold spec_l01Length
  rw [w64_of (n := c - a) (by omega) (by omega), w64_of (n := d - b) (by omega) (by omega), spec_l01Gcd_eq k _ _ _ (by omega) (by omega) (by omega) (by omega) hk]

theorem impl_length_eq (k : Nat) (hk : 1000000000 < k) {a b : Int} (ha : -2000 ≤ a ∧ a ≤ 2000) (hb : -2000 ≤ b ∧ b ≤ 2000) (r : Int → Option α) : impl_Point_length k a b r = r (gcdI a b) := by
  unfold impl_Point_length
  rw [impl_gcd_eq k _ _ _ (by omega) (by omega) (by omega) (by omega) hk]

theorem euclid_both : ∀ (m : Nat) (n β s u v rest next : Int), (s = 1 ∨ s = -1) → 0 ≤ u → u ≤ n → 0 ≤ v → v ≤ n → 0 ≤ rest → rest ≤ n → 0 ≤ next → next ≤ n → n ≤ 1000000000 → u * next + v * rest = n → n ∣ s * u * β - rest → n ∣ -s * v * β - next → next ≤ m →
    ∃ X g bef : Int, -n ≤ X ∧ X ≤ n ∧ n ∣ X * β - g ∧ g = gcdI rest next ∧ (∀ k, m < k → ∀ a2 a3 p q b0 (r0 : Int → Int → Option α), spec_l01Base_l5 k n (s * u) (-s * v) rest next a2 a3 p q b0 r0 = b0 n X bef g 0 a2 a3 p q) ∧
      (∀ k, m < k → ∀ b0 (r0 : Int → Option α), impl_bezout_l2 k n rest next (s * u) (-s * v) b0 r0 = b0 n g 0 X bef)
  | m, n, β, s, u, v, rest, next, hs, hu, hu2, hv, hv2, hr, hr2, hn, hn2, hb, he, d1, d2, hm => by
    by_cases hz : next = 0
    · subst hz
      refine ⟨s * u, rest, -s * v, ?_, ?_, d1, ?_, fun k hk a2 a3 p q b0 r0 => ?_, fun k hk b0 r0 => ?_⟩
      · rcases hs with rfl | rfl <;> omega
      · rcases hs with rfl | rfl <;> omega
      · unfold gcdI; rw [Int.gcd_zero_right]; omega
      · obtain ⟨k, rfl⟩ : ∃ k', k = k' + 1 := ⟨k - 1, by omega⟩
        rw [spec_l01Base_l5]; rfl
      · obtain ⟨k, rfl⟩ : ∃ k', k = k' + 1 := ⟨k - 1, by omega⟩
        rw [impl_bezout_l2]; rfl
    · have hpos : 0 < next := by omega
      have hq : Int.tdiv rest next = rest / next := Int.tdiv_eq_ediv_of_nonneg hr
      have hq0 : 0 ≤ rest / next := Int.ediv_nonneg hr (by omega)
      have hd := ediv_bounds (a := rest) hpos
      generalize rest / next = t at hq hq0 hd
      have c1 : next * t = t * next := Int.mul_comm _ _
      have tv : 0 ≤ t * v := Int.mul_nonneg hq0 hv
      have e2 : v * (rest - t * next) + (u + t * v) * next = n := by rw [← he]; grind
      have p1 : 0 ≤ v * (rest - t * next) := Int.mul_nonneg hv (by omega)
      have p2 : (u + t * v) * 1 ≤ (u + t * v) * next := Int.mul_le_mul_of_nonneg_left (by omega) (by omega)
      have tn : 0 ≤ t * next := Int.mul_nonneg hq0 hn
      have d2' : n ∣ -s * v * β - next := d2
      have d3 : n ∣ - -s * (u + t * v) * β - (rest - t * next) := by
        have e : - -s * (u + t * v) * β - (rest - t * next) = (s * u * β - rest) - t * (-s * v * β - next) := by grind
        rw [e]
        exact Int.dvd_sub d1 (Int.dvd_trans d2 (Int.dvd_mul_left _ _))
      obtain ⟨X, g, bef, x1, x2, x3, x4, f1, f2⟩ := euclid_both (m - 1) n β (-s) v (u + t * v) next (rest - t * next) (by omega) hv hv2 (by omega) (by omega) hn hn2 (by omega) (by omega) hb e2 d2' d3 (by omega)
      have eb : -s * (-s * v) = -s * -s * v := by grind
      have ex : s * u - t * (-s * v) = - -s * (u + t * v) := by grind
      have w1 : w64 (t * (-s * v)) = t * (-s * v) := by
        have : t * (-s * v) = -s * (t * v) := by grind
        rw [this]
        rcases hs with rfl | rfl
        · exact w64_of (by omega) (by omega)
        · exact w64_of (by omega) (by omega)
      have w2 : w64 (s * u - t * (-s * v)) = - -s * (u + t * v) := by
        rw [ex]
        rcases hs with rfl | rfl
        · exact w64_of (by omega) (by omega)
        · exact w64_of (by omega) (by omega)
      have w3 : w64 (t * next) = t * next := w64_of (by omega) (by omega)
      have w4 : w64 (rest - t * next) = rest - t * next := w64_of (by omega) (by omega)
      have w5 : w64 t = t := by
        have : t * 1 ≤ t * next := Int.mul_le_mul_of_nonneg_left (by omega) hq0
        exact w64_of (by omega) (by omega)
      refine ⟨X, g, bef, x1, x2, x3, ?_, fun k hk a2 a3 p q b0 r0 => ?_, fun k hk b0 r0 => ?_⟩
      · rw [x4]; unfold gcdI
        rw [Int.gcd_sub_mul_right_right, Int.gcd_comm]
      · obtain ⟨k, rfl⟩ : ∃ k', k = k' + 1 := ⟨k - 1, by omega⟩
        rw [spec_l01Base_l5, decide_eq_false hz, Bool.not_false, cond_true, cond_false, hq, w5, w1, w2, w3, w4]
        exact f1 k (by omega) a2 a3 p q b0 r0
      · obtain ⟨k, rfl⟩ : ∃ k', k = k' + 1 := ⟨k - 1, by omega⟩
        rw [impl_bezout_l2, decide_eq_false hz, Bool.not_false, cond_true, cond_false, hq, w5, w1, w2, w3, w4]
        exact f2 k (by omega) b0 r0
  termination_by m => m
  decreasing_by omega

/-- Base point and mate: what both programs hand back. -/
theorem mate_both (k : Nat) (hk : 1000000000 < k) {a b : Int} (h0 : a ≠ 0) (ha : -1000000 ≤ a) (ha1 : a ≤ 1000000) (hb : -1000000 ≤ b) (hb1 : b ≤ 1000000) : ∃ p q : Int, 0 ≤ p ∧ p < a.natAbs ∧ -1000000000001 ≤ q ∧ q ≤ 1000000000001 ∧ (gcdI a b = 1 → a * q - b * p = 1) ∧
    (∀ r : Int → Int → Option α, spec_l01Base k a b r = r p q) ∧ (∀ r : Int → Int → Option α, impl_Point_mate k a b r = r p q) := by
  have hn : max a (w64 (0 - a)) = max a (-a) := by rw [w64_of (by omega) (by omega)]; omega
  generalize hN : max a (-a) = n at hn
  have n0 : 1 ≤ n := by omega
  have n1 : n ≤ 1000000 := by omega
  have r0 := Int.emod_nonneg b (b := n) (by omega)
  have r1 := Int.emod_lt_of_pos b (show 0 < n by omega)
  have d1 : n ∣ 1 * 1 * b - b % n := ⟨b / n, by have := Int.emod_add_mul_ediv b n; omega⟩
  have d2 : n ∣ -1 * 0 * b - n := ⟨-1, by omega⟩
  obtain ⟨X, g, bef, x1, x2, x3, x4, f1, f2⟩ := euclid_both (α := α) 1000000000 n b 1 1 0 (b % n) n (.inl rfl) (by omega) (by omega) (by omega) (by omega) r0 (by omega) (by omega) (by omega) (by omega) (by omega) d1 d2 (by omega)
  rw [show (1 : Int) * 1 = 1 from rfl, show -(1 : Int) * 0 = 0 from rfl] at f1 f2
  have p0 := Int.emod_nonneg (0 - X) (b := n) (by omega)
  have p1 := Int.emod_lt_of_pos (0 - X) (show 0 < n by omega)
  have q0 := Int.emod_nonneg X (b := n) (by omega)
  have q1 := Int.emod_lt_of_pos X (show 0 < n by omega)
  have hm := mul_bound hb hb1 (show -1000000 ≤ (0 - X) % n by omega) (show (0 - X) % n ≤ 1000000 by omega)
  have hq := tdiv_abs (1 + b * ((0 - X) % n)) a
  have epq : (0 - X % n) % n = (0 - X) % n := by
    have e := Int.emod_add_mul_ediv X n
    have : 0 - X % n = (0 - X) + n * (X / n) := by omega
    rw [this, Int.add_mul_emod_self_left]
  refine ⟨(0 - X) % n, Int.tdiv (1 + b * ((0 - X) % n)) a, p0, by omega, by omega, by omega, fun hg => ?_, fun r => ?_, fun r => ?_⟩
  · have eg : g = 1 := by
      rw [x4, ← hg]; unfold gcdI
      have e1 : Int.gcd (b % n) n = Int.gcd b n := by
        rw [Int.emod_def, Int.gcd_sub_mul_left_left]
      have e2 : Int.gcd b n = Int.gcd a b := by
        rw [Int.gcd_comm a b]
        rcases (show n = a ∨ n = -a by omega) with e | e
        · rw [e]
        · rw [e, Int.gcd_neg]
      rw [e1, e2]
    subst eg
    have e3 := Int.emod_add_mul_ediv (0 - X) n
    have hdv : a ∣ 1 + b * ((0 - X) % n) := by
      have hna : a ∣ n := by
        rcases (show n = a ∨ n = -a by omega) with e | e
        · rw [e]; exact Int.dvd_refl _
        · rw [e]; exact (Int.dvd_neg).2 (Int.dvd_refl _)
      obtain ⟨c, hc⟩ := x3
      have e4 : 1 + b * ((0 - X) % n) = n * (-c - b * ((0 - X) / n)) := by
        have e5 : (0 - X) % n = 0 - X - n * ((0 - X) / n) := by omega
        rw [e5]; grind
      rw [e4]
      exact Int.dvd_trans hna (Int.dvd_mul_right _ _)
    have := Int.mul_tdiv_cancel' hdv
    omega
  · unfold spec_l01Base
    rw [decide_eq_false h0, cond_false, hn, spec_l01Rest_eq k n b _ (by omega) (by omega), f1 k hk]
    rw [w64_of (n := 0 - X) (by omega) (by omega), spec_l01Rest_eq k n _ _ (by omega) (by omega)]
    simp only [decide_eq_false h0, cond_false]
    rw [w64_of (n := b * ((0 - X) % n)) (by omega) (by omega), w64_of (n := 1 + b * ((0 - X) % n)) (by omega) (by omega), w64_of (by omega) (by omega)]
  · unfold impl_Point_mate impl_bezout
    rw [decide_eq_false h0, cond_false, impl_size_eq _ _ _ (by omega) (by omega), hN, impl_mod_eq _ _ _ _ (by omega) (by omega) (by omega) (by omega), f2 k hk]
    simp only
    rw [impl_mod_eq _ _ _ _ (by omega) (by omega) (by omega) (by omega), impl_size_eq _ _ _ (by omega) (by omega), hN, w64_of (n := 0 - X % n) (by omega) (by omega), impl_mod_eq _ _ _ _ (by omega) (by omega) (by omega) (by omega), epq]
    simp only [cond_false]
    rw [w64_of (n := b * ((0 - X) % n)) (by omega) (by omega), w64_of (n := 1 + b * ((0 - X) % n)) (by omega) (by omega), w64_of (by omega) (by omega)]

/-- A mate of a primitive point. -/
structure IsMate (a b p q : Int) : Prop where
  det : a * q - b * p = 1
  p0 : a ≠ 0 → 0 ≤ p ∧ p < a.natAbs
  z : a = 0 → p = -b ∧ q = 0
  pb : -1000000 ≤ p ∧ p ≤ 1000000
  qb : -1000000000001 ≤ q ∧ q ≤ 1000000000001

theorem mate_ok (k : Nat) (hk : 1000000000 < k) {a b : Int} (ha : -1000000 ≤ a) (ha1 : a ≤ 1000000) (hb : -1000000 ≤ b) (hb1 : b ≤ 1000000) (hg : gcdI a b = 1) : ∃ p q : Int, IsMate a b p q ∧
    (∀ r : Int → Int → Option α, spec_l01Base k a b r = r p q) ∧ (∀ r : Int → Int → Option α, impl_Point_mate k a b r = r p q) := by
  by_cases h0 : a = 0
  · subst h0
    unfold gcdI at hg
    rw [Int.gcd_zero_left] at hg
    have w : w64 (0 - b) = -b := by rw [w64_of (by omega) (by omega)]; omega
    refine ⟨-b, 0, ⟨?_, fun h => absurd rfl h, fun _ => ⟨rfl, rfl⟩, by omega, by omega⟩, fun r => ?_, fun r => ?_⟩
    · rcases (show b = 1 ∨ b = -1 by omega) with rfl | rfl <;> rfl
    · unfold spec_l01Base; rw [decide_eq_true rfl, cond_true, w]
    · unfold impl_Point_mate; rw [decide_eq_true rfl, cond_true, w]
  · obtain ⟨p, q, h1, h2, h3, h4, h5, h6, h7⟩ := mate_both (α := α) k hk h0 ha ha1 hb hb1
    exact ⟨p, q, ⟨h5 hg, fun _ => ⟨h1, h2⟩, fun e => absurd e h0, by omega, by omega⟩, h6, h7⟩

theorem mate_uniq {a b p q p' q' : Int} (h0 : a ≠ 0) (h : a * q - b * p = 1) (h' : a * q' - b * p' = 1) (b1 : 0 ≤ p ∧ p < a.natAbs) (b2 : 0 ≤ p' ∧ p' < a.natAbs) : p = p' ∧ q = q' := by
  have e : a * (q - q') = b * (p - p') := by grind
  have hd : a ∣ p - p' := by
    have e1 : p - p' = a * (q * (p - p') - p * (q - q')) := by
      have e2 : (a * q - b * p) * (p - p') = p - p' := by rw [h, Int.one_mul]
      grind
    rw [e1]; exact Int.dvd_mul_right _ _
  have hp : p - p' = 0 := Int.eq_zero_of_dvd_of_natAbs_lt_natAbs hd (by omega)
  have hq : a * (q - q') = 0 := by rw [e, hp, Int.mul_zero]
  rcases Int.mul_eq_zero.1 hq with e | e
  · exact absurd e h0
  · omega

/-- The mate. -/
def mateI (a b : Int) : Int × Int := if a = 0 then (-b, 0) else
  match (List.range a.natAbs).find? (fun p : Nat => decide ((1 + b * (p : Int)) % a = 0)) with
  | some p => ((p : Int), (1 + b * (p : Int)) / a)
  | none => (0, 0)

theorem mateI_is {a b p q : Int} (h : IsMate a b p q) : mateI a b = (p, q) := by
  unfold mateI
  split
  · rename_i h0
    have := h.z h0
    rw [this.1, this.2]
  · rename_i h0
    have hp := h.p0 h0
    split
    · rename_i p' hf
      have h1 := List.find?_some hf
      have h2 := List.mem_range.1 (List.mem_of_find?_eq_some hf)
      simp only [decide_eq_true_eq] at h1
      have h3 := Int.mul_ediv_cancel' (Int.dvd_of_emod_eq_zero h1)
      have := mate_uniq h0 h.det (q' := (1 + b * (p' : Int)) / a) (p' := (p' : Int)) (by omega) hp ⟨by omega, by omega⟩
      rw [this.1, this.2]
    · rename_i hf
      have := List.find?_eq_none.1 hf p.toNat (List.mem_range.2 (by omega))
      rw [show ((p.toNat : Nat) : Int) = p by omega] at this
      refine absurd ?_ this
      rw [decide_eq_true_iff, show 1 + b * p = a * q by have := h.det; omega]
      exact Int.mul_emod_right _ _

def shS (k : Nat) (a b c d e f p0 p1 q0 q1 s0 s1 : Int) (r : Int → Int → Int → Option α) : Option α :=
  spec_l01Plus k q0 q1 p0 p1 (-1) fun v v1 =>
  spec_l01Plus k s0 s1 p0 p1 (-1) fun v2 v3 =>
  spec_l01Part k v v1 fun v4 v5 =>
  spec_l01Length k p0 p1 q0 q1 fun v6 =>
  spec_l04Area k a b c d e f fun v7 =>
  bif decide (v6 = 0) then none else
  spec_l01Base k v4 v5 fun v8 v9 =>
  spec_l01Det k v2 v3 v8 v9 fun v10 =>
  spec_l01Rest k (w64 (Int.tdiv v7 v6)) v10 fun v11 =>
  r v6 v11 (w64 (Int.tdiv v7 v6))

def shI (k : Nat) (a b c d e f p0 p1 q0 q1 s0 s1 : Int) (r : Int → Int → Int → Option α) : Option α :=
  impl_Point_less k q0 q1 p0 p1 fun v v1 =>
  impl_Point_less k s0 s1 p0 p1 fun v2 v3 =>
  impl_Point_length k v v1 fun v4 =>
  impl_Triangle_area k a b c d e f fun v5 =>
  bif decide (v4 = 0) then none else
  impl_Point_primitive k v v1 fun v6 v7 =>
  impl_Point_mate k v6 v7 fun v8 v9 =>
  impl_det k v2 v3 v8 v9 fun v10 =>
  impl_mod k v10 (w64 (Int.tdiv v5 v4)) fun v11 =>
  r v4 v11 (w64 (Int.tdiv v5 v4))

theorem shS01 (k : Nat) (a b c d e f : Int) (r : Int → Int → Int → Option α) : spec_l04Shape k a b c d e f 0 1 r = shS k a b c d e f a b c d e f r := by rfl

theorem shS02 (k : Nat) (a b c d e f : Int) (r : Int → Int → Int → Option α) : spec_l04Shape k a b c d e f 0 2 r = shS k a b c d e f a b e f c d r := by rfl

theorem shS10 (k : Nat) (a b c d e f : Int) (r : Int → Int → Int → Option α) : spec_l04Shape k a b c d e f 1 0 r = shS k a b c d e f c d a b e f r := by rfl

theorem shS12 (k : Nat) (a b c d e f : Int) (r : Int → Int → Int → Option α) : spec_l04Shape k a b c d e f 1 2 r = shS k a b c d e f c d e f a b r := by rfl

theorem shS20 (k : Nat) (a b c d e f : Int) (r : Int → Int → Int → Option α) : spec_l04Shape k a b c d e f 2 0 r = shS k a b c d e f e f a b c d r := by rfl

theorem shS21 (k : Nat) (a b c d e f : Int) (r : Int → Int → Int → Option α) : spec_l04Shape k a b c d e f 2 1 r = shS k a b c d e f e f c d a b r := by rfl

theorem shI01 (k : Nat) (a b c d e f : Int) (r : Int → Int → Int → Option α) : impl_Triangle_shape k a b c d e f 0 1 r = shI k a b c d e f a b c d e f r := by rfl

theorem shI02 (k : Nat) (a b c d e f : Int) (r : Int → Int → Int → Option α) : impl_Triangle_shape k a b c d e f 0 2 r = shI k a b c d e f a b e f c d r := by rfl

theorem shI10 (k : Nat) (a b c d e f : Int) (r : Int → Int → Int → Option α) : impl_Triangle_shape k a b c d e f 1 0 r = shI k a b c d e f c d a b e f r := by rfl

theorem shI12 (k : Nat) (a b c d e f : Int) (r : Int → Int → Int → Option α) : impl_Triangle_shape k a b c d e f 1 2 r = shI k a b c d e f c d e f a b r := by rfl

theorem shI20 (k : Nat) (a b c d e f : Int) (r : Int → Int → Int → Option α) : impl_Triangle_shape k a b c d e f 2 0 r = shI k a b c d e f e f a b c d r := by rfl

theorem shI21 (k : Nat) (a b c d e f : Int) (r : Int → Int → Int → Option α) : impl_Triangle_shape k a b c d e f 2 1 r = shI k a b c d e f e f c d a b r := by rfl

theorem gcd_prim {a b : Int} (h : a ≠ 0 ∨ b ≠ 0) : gcdI (prim a b).1 (prim a b).2 = 1 := by
  have hp := gcdI_pos h
  unfold prim gcdI at *
  simp only
  have d1 := Int.gcd_dvd_left a b
  have d2 := Int.gcd_dvd_right a b
  rw [Int.tdiv_eq_ediv_of_dvd d1, Int.tdiv_eq_ediv_of_dvd d2, Int.gcd_ediv d1 d2]
  rw [Int.natAbs_natCast, Nat.div_self (by omega)]
  rfl

theorem prim_le {a b B : Int} (ha : -B ≤ a ∧ a ≤ B) (hb : -B ≤ b ∧ b ≤ B) : (-B ≤ (prim a b).1 ∧ (prim a b).1 ≤ B) ∧ -B ≤ (prim a b).2 ∧ (prim a b).2 ≤ B := by
  have h1 := tdiv_abs a (gcdI a b)
  have h2 := tdiv_abs b (gcdI a b)
  unfold prim
  simp only
  omega

theorem prim_mul (a b : Int) : (prim a b).1 * gcdI a b = a ∧ (prim a b).2 * gcdI a b = b := by
  unfold prim gcdI
  exact ⟨Int.tdiv_mul_cancel (Int.gcd_dvd_left a b), Int.tdiv_mul_cancel (Int.gcd_dvd_right a b)⟩

theorem exists_mate {a b : Int} (ha : -1000000 ≤ a ∧ a ≤ 1000000) (hb : -1000000 ≤ b ∧ b ≤ 1000000) (hg : gcdI a b = 1) : ∃ m : Int × Int, IsMate a b m.1 m.2 := by
  obtain ⟨p, q, h, _⟩ := mate_ok (α := Int) 1000000001 (by omega) ha.1 ha.2 hb.1 hb.2 hg
  exact ⟨(p, q), h⟩

theorem mateI_ok {a b : Int} (ha : -1000000 ≤ a ∧ a ≤ 1000000) (hb : -1000000 ≤ b ∧ b ≤ 1000000) (hg : gcdI a b = 1) : IsMate a b (mateI a b).1 (mateI a b).2 := by
  obtain ⟨m, h⟩ := exists_mate ha hb hg
  rw [mateI_is h]
  exact h

theorem mateI_eq (k : Nat) (hk : 1000000000 < k) {a b : Int} (ha : -1000000 ≤ a ∧ a ≤ 1000000) (hb : -1000000 ≤ b ∧ b ≤ 1000000) (hg : gcdI a b = 1) :
    (∀ r : Int → Int → Option α, spec_l01Base k a b r = r (mateI a b).1 (mateI a b).2) ∧ (∀ r : Int → Int → Option α, impl_Point_mate k a b r = r (mateI a b).1 (mateI a b).2) := by
  obtain ⟨p, q, h, h1, h2⟩ := mate_ok (α := α) k hk ha.1 ha.2 hb.1 hb.2 hg
  rw [mateI_is h]
  exact ⟨h1, h2⟩

def detS (p0 p1 q0 q1 s0 s1 : Int) : Int := (q0 - p0) * (s1 - p1) - (q1 - p1) * (s0 - p0)

def absI (x : Int) : Int := max x (-x)

def shapeI (p0 p1 q0 q1 s0 s1 : Int) : Int × Int × Int :=
  (gcdI (q0 - p0) (q1 - p1),
   ((s0 - p0) * (mateI (prim (q0 - p0) (q1 - p1)).1 (prim (q0 - p0) (q1 - p1)).2).2 - (s1 - p1) * (mateI (prim (q0 - p0) (q1 - p1)).1 (prim (q0 - p0) (q1 - p1)).2).1) % (absI (detS p0 p1 q0 q1 s0 s1) / gcdI (q0 - p0) (q1 - p1)),
   absI (detS p0 p1 q0 q1 s0 s1) / gcdI (q0 - p0) (q1 - p1))

theorem shape_facts {p0 p1 q0 q1 s0 s1 : Int} (hp0 : inT p0) (hp1 : inT p1) (hq0 : inT q0) (hq1 : inT q1) (hs0 : inT s0) (hs1 : inT s1) (hne : detS p0 p1 q0 q1 s0 s1 ≠ 0) :
    (q0 - p0 ≠ 0 ∨ q1 - p1 ≠ 0) ∧ 1 ≤ gcdI (q0 - p0) (q1 - p1) ∧ gcdI (q0 - p0) (q1 - p1) ≤ 2000 ∧ gcdI (q0 - p0) (q1 - p1) ∣ absI (detS p0 p1 q0 q1 s0 s1) ∧ 1 ≤ absI (detS p0 p1 q0 q1 s0 s1) ∧ absI (detS p0 p1 q0 q1 s0 s1) ≤ 8000000 ∧ 1 ≤ absI (detS p0 p1 q0 q1 s0 s1) / gcdI (q0 - p0) (q1 - p1) ∧ absI (detS p0 p1 q0 q1 s0 s1) / gcdI (q0 - p0) (q1 - p1) ≤ 8000000 := by
  have h1 := hq0.sub2 hp0
  have h2 := hq1.sub2 hp1
  have h3 := hs0.sub2 hp0
  have h4 := hs1.sub2 hp1
  have m1 := mul_bound h1.1 h1.2 h4.1 h4.2
  have m2 := mul_bound h2.1 h2.2 h3.1 h3.2
  have hz : q0 - p0 ≠ 0 ∨ q1 - p1 ≠ 0 := by
    rcases Classical.em (q0 - p0 = 0) with e1 | e1
    · rcases Classical.em (q1 - p1 = 0) with e2 | e2
      · exact absurd (by unfold detS; rw [e1, e2]; simp) hne
      · exact .inr e2
    · exact .inl e1
  have hg := gcdI_pos hz
  have hgl := gcdI_le h1.1 h1.2 h2.1 h2.2
  have hd : gcdI (q0 - p0) (q1 - p1) ∣ detS p0 p1 q0 q1 s0 s1 := by
    unfold detS gcdI
    exact Int.dvd_sub (Int.dvd_trans (Int.gcd_dvd_left _ _) (Int.dvd_mul_right _ _)) (Int.dvd_trans (Int.gcd_dvd_right _ _) (Int.dvd_mul_right _ _))
  have hda : gcdI (q0 - p0) (q1 - p1) ∣ absI (detS p0 p1 q0 q1 s0 s1) := by
    unfold absI
    rcases (show max (detS p0 p1 q0 q1 s0 s1) (-detS p0 p1 q0 q1 s0 s1) = detS p0 p1 q0 q1 s0 s1 ∨ max (detS p0 p1 q0 q1 s0 s1) (-detS p0 p1 q0 q1 s0 s1) = -detS p0 p1 q0 q1 s0 s1 by omega) with e | e
    · rw [e]; exact hd
    · rw [e]; exact (Int.dvd_neg).2 hd
  have ha : 1 ≤ absI (detS p0 p1 q0 q1 s0 s1) ∧ absI (detS p0 p1 q0 q1 s0 s1) ≤ 8000000 := by
    unfold absI
    unfold detS at *
    omega
  refine ⟨hz, hg, by omega, hda, ha.1, ha.2, ?_, ?_⟩
  · have := Int.le_of_dvd (by omega) hda
    rw [Int.le_ediv_iff_mul_le hg]
    omega
  · have := Int.ediv_le_self (gcdI (q0 - p0) (q1 - p1)) (show 0 ≤ absI (detS p0 p1 q0 q1 s0 s1) by omega)
    omega

theorem shape_both (k : Nat) (hk : 1000000000 < k) {a b c d e f p0 p1 q0 q1 s0 s1 : Int} (h : InT6 a b c d e f) (hp0 : inT p0) (hp1 : inT p1) (hq0 : inT q0) (hq1 : inT q1) (hs0 : inT s0) (hs1 : inT s1) (hne : detS p0 p1 q0 q1 s0 s1 ≠ 0) (hA : absI (detS a b c d e f) = absI (detS p0 p1 q0 q1 s0 s1)) :
    (∀ r : Int → Int → Int → Option α, shS k a b c d e f p0 p1 q0 q1 s0 s1 r = r (shapeI p0 p1 q0 q1 s0 s1).1 (shapeI p0 p1 q0 q1 s0 s1).2.1 (shapeI p0 p1 q0 q1 s0 s1).2.2) ∧
    (∀ r : Int → Int → Int → Option α, shI k a b c d e f p0 p1 q0 q1 s0 s1 r = r (shapeI p0 p1 q0 q1 s0 s1).1 (shapeI p0 p1 q0 q1 s0 s1).2.1 (shapeI p0 p1 q0 q1 s0 s1).2.2) := by
  obtain ⟨hz, g1, g2, gd, a1, a2, z1, z2⟩ := shape_facts hp0 hp1 hq0 hq1 hs0 hs1 hne
  have h1 := hq0.sub2 hp0
  have h2 := hq1.sub2 hp1
  have h3 := hs0.sub2 hp0
  have h4 := hs1.sub2 hp1
  have hpl := prim_le h1 h2
  have hm := mateI_ok (a := (prim (q0 - p0) (q1 - p1)).1) (b := (prim (q0 - p0) (q1 - p1)).2) (by omega) (by omega) (gcd_prim hz)
  have he := mateI_eq (α := α) k hk (a := (prim (q0 - p0) (q1 - p1)).1) (b := (prim (q0 - p0) (q1 - p1)).2) (by omega) (by omega) (gcd_prim hz)
  have hpb := hm.pb
  have hqb := hm.qb
  have hA1 : max ((c - a) * (f - b) - (d - b) * (e - a)) (-((c - a) * (f - b) - (d - b) * (e - a))) = absI (detS p0 p1 q0 q1 s0 s1) := hA
  have htd : Int.tdiv (absI (detS p0 p1 q0 q1 s0 s1)) (gcdI (q0 - p0) (q1 - p1)) = absI (detS p0 p1 q0 q1 s0 s1) / gcdI (q0 - p0) (q1 - p1) := Int.tdiv_eq_ediv_of_nonneg (by omega)
  have hsh : shapeI p0 p1 q0 q1 s0 s1 = (gcdI (q0 - p0) (q1 - p1), ((s0 - p0) * (mateI (prim (q0 - p0) (q1 - p1)).1 (prim (q0 - p0) (q1 - p1)).2).2 - (s1 - p1) * (mateI (prim (q0 - p0) (q1 - p1)).1 (prim (q0 - p0) (q1 - p1)).2).1) % (absI (detS p0 p1 q0 q1 s0 s1) / gcdI (q0 - p0) (q1 - p1)), absI (detS p0 p1 q0 q1 s0 s1) / gcdI (q0 - p0) (q1 - p1)) := rfl
  rw [hsh]
  simp only
  have hp1' := fun r => spec_l01Part_eq (α := α) k (q0 - p0) (q1 - p1) r (by omega) (by omega) (by omega) (by omega) hk hz
  have hp2' := fun r => impl_primitive_eq (α := α) k (q0 - p0) (q1 - p1) r (by omega) (by omega) (by omega) (by omega) hk hz
  generalize (prim (q0 - p0) (q1 - p1)).1 = u at *
  generalize (prim (q0 - p0) (q1 - p1)).2 = v at *
  generalize (mateI u v).1 = x at *
  generalize (mateI u v).2 = y at *
  generalize absI (detS p0 p1 q0 q1 s0 s1) = A at *
  generalize A / gcdI (q0 - p0) (q1 - p1) = H at *
  have m1 := mul_bound h3.1 h3.2 hqb.1 hqb.2
  have m2 := mul_bound h4.1 h4.2 hpb.1 hpb.2
  have g0 : decide (gcdI (q0 - p0) (q1 - p1) = 0) = false := decide_eq_false (by omega)
  constructor
  · intro r
    unfold shS
    rw [spec_less_eq k _ _ _ _ _ hq0.wide hq1.wide hp0.wide hp1.wide, spec_less_eq k _ _ _ _ _ hs0.wide hs1.wide hp0.wide hp1.wide, hp1', spec_length_eq k hk hp0 hp1 hq0 hq1]
    have ea : ∀ r0 : Int → Option α, spec_l04Area k a b c d e f r0 = spec_l01Area k a b c d e f r0 := fun _ => rfl
    rw [ea, spec_area_eq k h.a h.b h.c h.d h.e h.f, hA1, g0, cond_false, he.1, htd, w64_of (n := H) (by omega) (by omega)]
    simp only [spec_l01Det]
    rw [w64_of (n := (s0 - p0) * y) (by omega) (by omega), w64_of (n := (s1 - p1) * x) (by omega) (by omega), w64_of (by omega) (by omega), spec_l01Rest_eq k H _ _ (by omega) (by omega)]
  · intro r
    unfold shI
    rw [impl_less_eq k _ _ _ _ _ hq0.wide hq1.wide hp0.wide hp1.wide, impl_less_eq k _ _ _ _ _ hs0.wide hs1.wide hp0.wide hp1.wide, impl_length_eq k hk h1 h2]
    have ea : ∀ r0 : Int → Option α, impl_Triangle_area k a b c d e f r0 = impl_area k a b c d e f r0 := fun _ => rfl
    rw [ea, impl_area_eq k h.a h.b h.c h.d h.e h.f, hA1, g0, cond_false, hp2', he.2, htd, w64_of (n := H) (by omega) (by omega)]
    simp only [impl_det]
    rw [w64_of (n := (s0 - p0) * y) (by omega) (by omega), w64_of (n := (s1 - p1) * x) (by omega) (by omega), w64_of (by omega) (by omega), impl_mod_eq k _ H _ (by omega) (by omega) (by omega) (by omega)]

/-- The points of a triangle in the order i, j, and the third. -/
def shapeT (a b c d e f : Int) : Int → Int → Int × Int × Int
  | 0, 1 => shapeI a b c d e f
  | 0, 2 => shapeI a b e f c d
  | 1, 0 => shapeI c d a b e f
  | 1, 2 => shapeI c d e f a b
  | 2, 0 => shapeI e f a b c d
  | 2, 1 => shapeI e f c d a b
  | _, _ => (0, 0, 0)

theorem shapes_eq (k : Nat) (hk : 1000000000 < k) {a b c d e f : Int} (h : IsT a b c d e f) {i j : Int} (hi : 0 ≤ i ∧ i ≤ 2) (hj : 0 ≤ j ∧ j ≤ 2) (hij : i ≠ j) :
    (∀ r : Int → Int → Int → Option α, spec_l04Shape k a b c d e f i j r = r (shapeT a b c d e f i j).1 (shapeT a b c d e f i j).2.1 (shapeT a b c d e f i j).2.2) ∧
    (∀ r : Int → Int → Int → Option α, impl_Triangle_shape k a b c d e f i j r = r (shapeT a b c d e f i j).1 (shapeT a b c d e f i j).2.1 (shapeT a b c d e f i j).2.2) := by
  have h6 : InT6 a b c d e f := ⟨h.a, h.b, h.c, h.d, h.e, h.f⟩
  have hne : detS a b c d e f ≠ 0 := h.ne
  have e02 : detS a b e f c d = -detS a b c d e f := by unfold detS; grind
  have e10 : detS c d a b e f = -detS a b c d e f := by unfold detS; grind
  have e12 : detS c d e f a b = detS a b c d e f := by unfold detS; grind
  have e20 : detS e f a b c d = detS a b c d e f := by unfold detS; grind
  have e21 : detS e f c d a b = -detS a b c d e f := by unfold detS; grind
  have ea : absI (-detS a b c d e f) = absI (detS a b c d e f) := by unfold absI; omega
  have t01 := shape_both (α := α) k hk h6 h.a h.b h.c h.d h.e h.f hne rfl
  have t02 := shape_both (α := α) k hk h6 h.a h.b h.e h.f h.c h.d (by omega) (by rw [e02, ea])
  have t10 := shape_both (α := α) k hk h6 h.c h.d h.a h.b h.e h.f (by omega) (by rw [e10, ea])
  have t12 := shape_both (α := α) k hk h6 h.c h.d h.e h.f h.a h.b (by omega) (by rw [e12])
  have t20 := shape_both (α := α) k hk h6 h.e h.f h.a h.b h.c h.d (by omega) (by rw [e20])
  have t21 := shape_both (α := α) k hk h6 h.e h.f h.c h.d h.a h.b (by omega) (by rw [e21, ea])
  rcases (show (i = 0 ∧ j = 1) ∨ (i = 0 ∧ j = 2) ∨ (i = 1 ∧ j = 0) ∨ (i = 1 ∧ j = 2) ∨ (i = 2 ∧ j = 0) ∨ (i = 2 ∧ j = 1) by omega) with ⟨rfl, rfl⟩ | ⟨rfl, rfl⟩ | ⟨rfl, rfl⟩ | ⟨rfl, rfl⟩ | ⟨rfl, rfl⟩ | ⟨rfl, rfl⟩
  · exact ⟨fun r => (shS01 k a b c d e f r).trans (t01.1 r), fun r => (shI01 k a b c d e f r).trans (t01.2 r)⟩
  · exact ⟨fun r => (shS02 k a b c d e f r).trans (t02.1 r), fun r => (shI02 k a b c d e f r).trans (t02.2 r)⟩
  · exact ⟨fun r => (shS10 k a b c d e f r).trans (t10.1 r), fun r => (shI10 k a b c d e f r).trans (t10.2 r)⟩
  · exact ⟨fun r => (shS12 k a b c d e f r).trans (t12.1 r), fun r => (shI12 k a b c d e f r).trans (t12.2 r)⟩
  · exact ⟨fun r => (shS20 k a b c d e f r).trans (t20.1 r), fun r => (shI20 k a b c d e f r).trans (t20.2 r)⟩
  · exact ⟨fun r => (shS21 k a b c d e f r).trans (t21.1 r), fun r => (shI21 k a b c d e f r).trans (t21.2 r)⟩

def cmpI (x y : Int) : Int := if x < y then -1 else if y < x then 1 else 0

theorem cmp_Compare_eq (k : Nat) (x y : Int) (r : Int → Option α) : cmp_Compare_int64 k x y r = r (cmpI x y) := by
  simp only [cmp_Compare_int64, cmp_isNaN_int64, decide_true, Bool.not_true, cond_false]
  unfold cmpI
  by_cases h : x < y
  · simp [h]
  · by_cases h2 : y < x <;> simp [h, h2]

def or3 (a b c : Int) : Int := if a ≠ 0 then a else if b ≠ 0 then b else c

theorem cmp_Or3 (k : Nat) (hk : 4 ≤ k) (a b c : Int) (r : Int → Option α) : cmp_Or_int k [a, b, c] r = r (or3 a b c) := by
  obtain ⟨k, rfl⟩ : ∃ k', k = k' + 4 := ⟨k - 4, by omega⟩
  have w1 : w64 (0 + 1) = 1 := by decide
  have w2 : w64 (1 + 1) = 2 := by decide
  have w3 : w64 (2 + 1) = 3 := by decide
  unfold cmp_Or_int or3
  rw [cmp_Or_int_l3]
  simp only [List.length_cons, List.length_nil, w1]
  by_cases ha : a = 0
  · rw [cmp_Or_int_l3]
    simp only [List.length_cons, List.length_nil, w2]
    by_cases hb : b = 0
    · rw [cmp_Or_int_l3]
      simp only [List.length_cons, List.length_nil, w3]
      by_cases hc : c = 0
      · rw [cmp_Or_int_l3]
        simp [ha, hb, hc]
      · simp [ha, hb, hc]
    · simp [ha, hb]
  · simp [ha]

/-- Which shape comes ahead. -/
def bef (x y : Int × Int × Int) : Bool := bif !decide (x.1 = y.1) then decide (x.1 < y.1) else bif !decide (x.2.1 = y.2.1) then decide (x.2.1 < y.2.1) else decide (x.2.2 < y.2.2)

theorem spec_before_eq (k : Nat) (x1 x2 x3 y1 y2 y3 : Int) (r : Bool → Option α) : spec_l04Before k x1 x2 x3 y1 y2 y3 r = r (bef (x1, x2, x3) (y1, y2, y3)) := by
  simp only [spec_l04Before, bef]
  by_cases h1 : x1 = y1
  · by_cases h2 : x2 = y2 <;> simp [h1, h2]
  · simp [h1]

def ordS (x y : Int × Int × Int) : Int := or3 (cmpI x.1 y.1) (cmpI x.2.1 y.2.1) (cmpI x.2.2 y.2.2)

theorem impl_order_eq (k : Nat) (hk : 4 ≤ k) (x1 x2 x3 y1 y2 y3 : Int) (r : Int → Option α) : impl_shapeOrder k x1 x2 x3 y1 y2 y3 r = r (ordS (x1, x2, x3) (y1, y2, y3)) := by
  simp only [impl_shapeOrder, cmp_Compare_eq]
  rw [cmp_Or3 k hk]
  rfl

theorem ordS_bef (x y : Int × Int × Int) : decide (ordS x y < 0) = bef x y := by
  unfold ordS or3 cmpI bef
  by_cases h1 : x.1 < y.1
  · have : x.1 ≠ y.1 := by omega
    simp [h1, this]
  · by_cases h2 : y.1 < x.1
    · have : x.1 ≠ y.1 := by omega
      simp [h1, h2, this]
    · have e1 : x.1 = y.1 := by omega
      by_cases h3 : x.2.1 < y.2.1
      · have : x.2.1 ≠ y.2.1 := by omega
        simp [e1, h3, this]
      · by_cases h4 : y.2.1 < x.2.1
        · have : x.2.1 ≠ y.2.1 := by omega
          simp [e1, h3, h4, this]
        · have e2 : x.2.1 = y.2.1 := by omega
          by_cases h5 : x.2.2 < y.2.2
          · simp [e1, e2, h5]
          · by_cases h6 : y.2.2 < x.2.2 <;> simp [e1, e2, h5, h6]

def lessS (x out : Int × Int × Int) : Int × Int × Int := bif bef x out then x else out

/-- The normal shape of a triangle. -/
def normS (a b c d e f : Int) : Int × Int × Int :=
  lessS (shapeT a b c d e f 2 1) (lessS (shapeT a b c d e f 2 0) (lessS (shapeT a b c d e f 1 2) (lessS (shapeT a b c d e f 1 0) (lessS (shapeT a b c d e f 0 2) (lessS (shapeT a b c d e f 0 1) (shapeT a b c d e f 0 1))))))

theorem spec_round0 (k : Nat) (hk : 1000000000 < k) {a b c d e f : Int} (h : IsT a b c d e f) (x x1 x2 o1 o2 o3 : Int) (b0) (r0 : Int → Int → Int → Option α) :
    spec_l04Normal_l3 (k + 1) 0 a b c d e f x x1 x2 o1 o2 o3 b0 r0 = spec_l04Normal_l3 k 1 a b c d e f x x1 x2 (lessS (shapeT a b c d e f 0 2) (lessS (shapeT a b c d e f 0 1) (o1, o2, o3))).1 (lessS (shapeT a b c d e f 0 2) (lessS (shapeT a b c d e f 0 1) (o1, o2, o3))).2.1 (lessS (shapeT a b c d e f 0 2) (lessS (shapeT a b c d e f 0 1) (o1, o2, o3))).2.2 b0 r0 := by
  have w : w64 (0 + 1) = 1 := by decide
  have ta := (shapes_eq (α := α) k hk h (i := 0) (j := 1) (by omega) (by omega) (by omega)).1
  have tb := (shapes_eq (α := α) k hk h (i := 0) (j := 2) (by omega) (by omega) (by omega)).1
  rw [spec_l04Normal_l3]
  simp only [show decide ((0 : Int) < 3) = true from rfl, show decide ((0 : Int) = 0) = true from rfl, show decide ((0 : Int) = 1) = false from rfl, show decide ((0 : Int) = 2) = false from rfl, Bool.not_true, Bool.not_false, cond_true, cond_false, ta, tb, w, spec_before_eq]
  generalize shapeT a b c d e f 0 1 = za
  generalize shapeT a b c d e f 0 2 = zb
  unfold lessS
  cases h1 : bef za (o1, o2, o3) with
  | true => cases h2 : bef zb za <;> simp [h1, h2]
  | false => cases h2 : bef zb (o1, o2, o3) <;> simp [h1, h2]

theorem spec_round1 (k : Nat) (hk : 1000000000 < k) {a b c d e f : Int} (h : IsT a b c d e f) (x x1 x2 o1 o2 o3 : Int) (b0) (r0 : Int → Int → Int → Option α) :
    spec_l04Normal_l3 (k + 1) 1 a b c d e f x x1 x2 o1 o2 o3 b0 r0 = spec_l04Normal_l3 k 2 a b c d e f x x1 x2 (lessS (shapeT a b c d e f 1 2) (lessS (shapeT a b c d e f 1 0) (o1, o2, o3))).1 (lessS (shapeT a b c d e f 1 2) (lessS (shapeT a b c d e f 1 0) (o1, o2, o3))).2.1 (lessS (shapeT a b c d e f 1 2) (lessS (shapeT a b c d e f 1 0) (o1, o2, o3))).2.2 b0 r0 := by
  have w : w64 (1 + 1) = 2 := by decide
  have ta := (shapes_eq (α := α) k hk h (i := 1) (j := 0) (by omega) (by omega) (by omega)).1
  have tb := (shapes_eq (α := α) k hk h (i := 1) (j := 2) (by omega) (by omega) (by omega)).1
  rw [spec_l04Normal_l3]
  simp only [show decide ((1 : Int) < 3) = true from rfl, show decide ((1 : Int) = 0) = false from rfl, show decide ((1 : Int) = 1) = true from rfl, show decide ((1 : Int) = 2) = false from rfl, Bool.not_true, Bool.not_false, cond_true, cond_false, ta, tb, w, spec_before_eq]
  generalize shapeT a b c d e f 1 0 = za
  generalize shapeT a b c d e f 1 2 = zb
  unfold lessS
  cases h1 : bef za (o1, o2, o3) with
  | true => cases h2 : bef zb za <;> simp [h1, h2]
  | false => cases h2 : bef zb (o1, o2, o3) <;> simp [h1, h2]

theorem spec_round2 (k : Nat) (hk : 1000000000 < k) {a b c d e f : Int} (h : IsT a b c d e f) (x x1 x2 o1 o2 o3 : Int) (b0) (r0 : Int → Int → Int → Option α) :
    spec_l04Normal_l3 (k + 1) 2 a b c d e f x x1 x2 o1 o2 o3 b0 r0 = spec_l04Normal_l3 k 3 a b c d e f x x1 x2 (lessS (shapeT a b c d e f 2 1) (lessS (shapeT a b c d e f 2 0) (o1, o2, o3))).1 (lessS (shapeT a b c d e f 2 1) (lessS (shapeT a b c d e f 2 0) (o1, o2, o3))).2.1 (lessS (shapeT a b c d e f 2 1) (lessS (shapeT a b c d e f 2 0) (o1, o2, o3))).2.2 b0 r0 := by
  have w : w64 (2 + 1) = 3 := by decide
  have ta := (shapes_eq (α := α) k hk h (i := 2) (j := 0) (by omega) (by omega) (by omega)).1
  have tb := (shapes_eq (α := α) k hk h (i := 2) (j := 1) (by omega) (by omega) (by omega)).1
  rw [spec_l04Normal_l3]
  simp only [show decide ((2 : Int) < 3) = true from rfl, show decide ((2 : Int) = 0) = false from rfl, show decide ((2 : Int) = 1) = false from rfl, show decide ((2 : Int) = 2) = true from rfl, Bool.not_true, Bool.not_false, cond_true, cond_false, ta, tb, w, spec_before_eq]
  generalize shapeT a b c d e f 2 0 = za
  generalize shapeT a b c d e f 2 1 = zb
  unfold lessS
  cases h1 : bef za (o1, o2, o3) with
  | true => cases h2 : bef zb za <;> simp [h1, h2]
  | false => cases h2 : bef zb (o1, o2, o3) <;> simp [h1, h2]

theorem impl_round0 (k : Nat) (hk : 1000000000 < k) {a b c d e f : Int} (h : IsT a b c d e f) (x x1 x2 o1 o2 o3 : Int) (b0) (r0 : Int → Int → Int → Option α) :
    impl_Triangle_normal_l3 (k + 1) 0 a b c d e f x x1 x2 o1 o2 o3 b0 r0 = impl_Triangle_normal_l3 k 1 a b c d e f x x1 x2 (lessS (shapeT a b c d e f 0 2) (lessS (shapeT a b c d e f 0 1) (o1, o2, o3))).1 (lessS (shapeT a b c d e f 0 2) (lessS (shapeT a b c d e f 0 1) (o1, o2, o3))).2.1 (lessS (shapeT a b c d e f 0 2) (lessS (shapeT a b c d e f 0 1) (o1, o2, o3))).2.2 b0 r0 := by
  have w : w64 (0 + 1) = 1 := by decide
  have ta := (shapes_eq (α := α) k hk h (i := 0) (j := 1) (by omega) (by omega) (by omega)).2
  have tb := (shapes_eq (α := α) k hk h (i := 0) (j := 2) (by omega) (by omega) (by omega)).2
  rw [impl_Triangle_normal_l3]
  simp only [show decide ((0 : Int) < 3) = true from rfl, show decide ((0 : Int) = 0) = true from rfl, show decide ((0 : Int) = 1) = false from rfl, show decide ((0 : Int) = 2) = false from rfl, Bool.not_true, Bool.not_false, cond_true, cond_false, ta, tb, w, impl_order_eq k (by omega), ordS_bef]
  generalize shapeT a b c d e f 0 1 = za
  generalize shapeT a b c d e f 0 2 = zb
  unfold lessS
  cases h1 : bef za (o1, o2, o3) with
  | true => cases h2 : bef zb za <;> simp [h1, h2]
  | false => cases h2 : bef zb (o1, o2, o3) <;> simp [h1, h2]

theorem impl_round1 (k : Nat) (hk : 1000000000 < k) {a b c d e f : Int} (h : IsT a b c d e f) (x x1 x2 o1 o2 o3 : Int) (b0) (r0 : Int → Int → Int → Option α) :
    impl_Triangle_normal_l3 (k + 1) 1 a b c d e f x x1 x2 o1 o2 o3 b0 r0 = impl_Triangle_normal_l3 k 2 a b c d e f x x1 x2 (lessS (shapeT a b c d e f 1 2) (lessS (shapeT a b c d e f 1 0) (o1, o2, o3))).1 (lessS (shapeT a b c d e f 1 2) (lessS (shapeT a b c d e f 1 0) (o1, o2, o3))).2.1 (lessS (shapeT a b c d e f 1 2) (lessS (shapeT a b c d e f 1 0) (o1, o2, o3))).2.2 b0 r0 := by
  have w : w64 (1 + 1) = 2 := by decide
  have ta := (shapes_eq (α := α) k hk h (i := 1) (j := 0) (by omega) (by omega) (by omega)).2
  have tb := (shapes_eq (α := α) k hk h (i := 1) (j := 2) (by omega) (by omega) (by omega)).2
  rw [impl_Triangle_normal_l3]
  simp only [show decide ((1 : Int) < 3) = true from rfl, show decide ((1 : Int) = 0) = false from rfl, show decide ((1 : Int) = 1) = true from rfl, show decide ((1 : Int) = 2) = false from rfl, Bool.not_true, Bool.not_false, cond_true, cond_false, ta, tb, w, impl_order_eq k (by omega), ordS_bef]
  generalize shapeT a b c d e f 1 0 = za
  generalize shapeT a b c d e f 1 2 = zb
  unfold lessS
  cases h1 : bef za (o1, o2, o3) with
  | true => cases h2 : bef zb za <;> simp [h1, h2]
  | false => cases h2 : bef zb (o1, o2, o3) <;> simp [h1, h2]

theorem impl_round2 (k : Nat) (hk : 1000000000 < k) {a b c d e f : Int} (h : IsT a b c d e f) (x x1 x2 o1 o2 o3 : Int) (b0) (r0 : Int → Int → Int → Option α) :
    impl_Triangle_normal_l3 (k + 1) 2 a b c d e f x x1 x2 o1 o2 o3 b0 r0 = impl_Triangle_normal_l3 k 3 a b c d e f x x1 x2 (lessS (shapeT a b c d e f 2 1) (lessS (shapeT a b c d e f 2 0) (o1, o2, o3))).1 (lessS (shapeT a b c d e f 2 1) (lessS (shapeT a b c d e f 2 0) (o1, o2, o3))).2.1 (lessS (shapeT a b c d e f 2 1) (lessS (shapeT a b c d e f 2 0) (o1, o2, o3))).2.2 b0 r0 := by
  have w : w64 (2 + 1) = 3 := by decide
  have ta := (shapes_eq (α := α) k hk h (i := 2) (j := 0) (by omega) (by omega) (by omega)).2
  have tb := (shapes_eq (α := α) k hk h (i := 2) (j := 1) (by omega) (by omega) (by omega)).2
  rw [impl_Triangle_normal_l3]
  simp only [show decide ((2 : Int) < 3) = true from rfl, show decide ((2 : Int) = 0) = false from rfl, show decide ((2 : Int) = 1) = false from rfl, show decide ((2 : Int) = 2) = true from rfl, Bool.not_true, Bool.not_false, cond_true, cond_false, ta, tb, w, impl_order_eq k (by omega), ordS_bef]
  generalize shapeT a b c d e f 2 0 = za
  generalize shapeT a b c d e f 2 1 = zb
  unfold lessS
  cases h1 : bef za (o1, o2, o3) with
  | true => cases h2 : bef zb za <;> simp [h1, h2]
  | false => cases h2 : bef zb (o1, o2, o3) <;> simp [h1, h2]

theorem normal_eq (k : Nat) (hk : 1000000100 < k) {a b c d e f : Int} (h : IsT a b c d e f) :
    (∀ r : Int → Int → Int → Option α, spec_l04Normal k a b c d e f r = r (normS a b c d e f).1 (normS a b c d e f).2.1 (normS a b c d e f).2.2) ∧
    (∀ r : Int → Int → Int → Option α, impl_Triangle_normal k a b c d e f r = r (normS a b c d e f).1 (normS a b c d e f).2.1 (normS a b c d e f).2.2) := by
  obtain ⟨k, rfl⟩ : ∃ k', k = k' + 1 + 1 + 1 + 1 := ⟨k - 4, by omega⟩
  have t := shapes_eq (α := α) (k + 1 + 1 + 1 + 1) (by omega) h (i := 0) (j := 1) (by omega) (by omega) (by omega)
  constructor
  · intro r
    unfold spec_l04Normal
    rw [t.1, spec_round0 (k + 1 + 1 + 1) (by omega) h, spec_round1 (k + 1 + 1) (by omega) h, spec_round2 (k + 1) (by omega) h, spec_l04Normal_l3]
    rfl
  · intro r
    unfold impl_Triangle_normal
    rw [t.2, impl_round0 (k + 1 + 1 + 1) (by omega) h, impl_round1 (k + 1 + 1) (by omega) h, impl_round2 (k + 1) (by omega) h, impl_Triangle_normal_l3]
    rfl

theorem eqShape_same (k : Nat) (x y z : Int) (r : Bool → Option α) : laws_eqShape k x y z x y z r = r true := by
  simp [laws_eqShape]

theorem IsT.six {a b c d e f : Int} (h : IsT a b c d e f) : InT6 a b c d e f := ⟨h.a, h.b, h.c, h.d, h.e, h.f⟩

/-- A shape, of a side and the other one. -/
def shV (v1 v2 o1 o2 : Int) : Int × Int × Int :=
  (gcdI v1 v2, (o1 * (mateI (prim v1 v2).1 (prim v1 v2).2).2 - o2 * (mateI (prim v1 v2).1 (prim v1 v2).2).1) % (absI (v1 * o2 - v2 * o1) / gcdI v1 v2), absI (v1 * o2 - v2 * o1) / gcdI v1 v2)

theorem shapeI_V (p0 p1 q0 q1 s0 s1 : Int) : shapeI p0 p1 q0 q1 s0 s1 = shV (q0 - p0) (q1 - p1) (s0 - p0) (s1 - p1) := rfl

theorem gcd_unit {u1 u2 m1 m2 g : Int} (hm : u1 * m2 - u2 * m1 = 1) (hg : 0 ≤ g) : gcdI (u1 * g) (u2 * g) = g := by
  have h1 : Int.gcd u1 u2 = 1 := by
    have d1 := Int.dvd_trans (Int.gcd_dvd_left u1 u2) (Int.dvd_mul_right u1 m2)
    have d2 := Int.dvd_trans (Int.gcd_dvd_right u1 u2) (Int.dvd_mul_right u2 m1)
    have d := Int.dvd_sub d1 d2
    rw [hm] at d
    have := Int.natCast_dvd_natCast.1 (show ((Int.gcd u1 u2 : Nat) : Int) ∣ ((1 : Nat) : Int) from d)
    exact Nat.dvd_one.1 this
  unfold gcdI
  rw [Int.gcd_mul_right, h1]
  omega

theorem absI_mul {a b : Int} (hb : 0 ≤ b) : absI (a * b) = absI a * b := by
  unfold absI
  rcases Int.le_total 0 a with h | h
  · have := Int.mul_nonneg h hb
    rw [Int.max_eq_left (by omega), Int.max_eq_left (by omega)]
  · have := Int.mul_nonneg (show 0 ≤ -a by omega) hb
    rw [Int.max_eq_right (by grind), Int.max_eq_right (by omega)]
    grind

/-- A shape by whichever mate. -/
theorem shV_char {u1 u2 m1 m2 g o1 o2 : Int} (hm : u1 * m2 - u2 * m1 = 1) (hg : 0 < g) (h1 : -1000000 ≤ u1 * g ∧ u1 * g ≤ 1000000) (h2 : -1000000 ≤ u2 * g ∧ u2 * g ≤ 1000000) :
    shV (u1 * g) (u2 * g) o1 o2 = (g, (o1 * m2 - o2 * m1) % absI (u1 * o2 - u2 * o1), absI (u1 * o2 - u2 * o1)) := by
  have hgc := gcd_unit hm (Int.le_of_lt hg)
  have hp := prim_mul (u1 * g) (u2 * g)
  rw [hgc] at hp
  have e1 : (prim (u1 * g) (u2 * g)).1 = u1 := Int.eq_of_mul_eq_mul_right (by omega) hp.1
  have e2 : (prim (u1 * g) (u2 * g)).2 = u2 := Int.eq_of_mul_eq_mul_right (by omega) hp.2
  have hpl := prim_le (B := 1000000) h1 h2
  rw [e1, e2] at hpl
  have hgu : gcdI u1 u2 = 1 := by
    have := gcd_unit hm (show (0 : Int) ≤ 1 by omega)
    rwa [Int.mul_one, Int.mul_one] at this
  have hmt := mateI_ok hpl.1 hpl.2 hgu
  have hH : absI (u1 * g * o2 - u2 * g * o1) / g = absI (u1 * o2 - u2 * o1) := by
    rw [show u1 * g * o2 - u2 * g * o1 = (u1 * o2 - u2 * o1) * g by grind, absI_mul (Int.le_of_lt hg), Int.mul_ediv_cancel _ (by omega)]
  unfold shV
  rw [hgc, e1, e2, hH]
  generalize mateI u1 u2 = mm at *
  obtain ⟨x, y⟩ := mm
  have hd := hmt.det
  simp only at hd ⊢
  have hx : x = (x * m2 - y * m1) * u1 + m1 := by grind
  have hy : y = (x * m2 - y * m1) * u2 + m2 := by grind
  have key : o1 * y - o2 * x = (o1 * m2 - o2 * m1) + -(x * m2 - y * m1) * (u1 * o2 - u2 * o1) := by grind
  rw [key]
  congr 2
  generalize u1 * o2 - u2 * o1 = w
  generalize -(x * m2 - y * m1) = k
  generalize o1 * m2 - o2 * m1 = z
  unfold absI
  rcases Int.le_total 0 w with hw | hw
  · rw [Int.max_eq_left (by omega), Int.add_mul_emod_self_right]
  · rw [Int.max_eq_right (by omega), show z + k * w = z + (-k) * (-w) by grind, Int.add_mul_emod_self_right]

/-- A unimodular map. -/
structure UniM (a b c d : Int) : Prop where
  det : a * d - b * c = 1 ∨ a * d - b * c = -1

theorem shV_map {a b c d v1 v2 o1 o2 : Int} (hM : UniM a b c d) (hv : v1 ≠ 0 ∨ v2 ≠ 0) (h1 : -1000000 ≤ v1 ∧ v1 ≤ 1000000) (h2 : -1000000 ≤ v2 ∧ v2 ≤ 1000000) (h3 : -1000000 ≤ a * v1 + b * v2 ∧ a * v1 + b * v2 ≤ 1000000) (h4 : -1000000 ≤ c * v1 + d * v2 ∧ c * v1 + d * v2 ≤ 1000000) :
    shV (a * v1 + b * v2) (c * v1 + d * v2) (a * o1 + b * o2) (c * o1 + d * o2) = shV v1 v2 o1 o2 := by
  have hg := gcdI_pos hv
  have hp := prim_mul v1 v2
  have hpl := prim_le (B := 1000000) h1 h2
  have hmt := mateI_ok hpl.1 hpl.2 (gcd_prim hv)
  have hdm := hmt.det
  generalize gcdI v1 v2 = g at *
  generalize (prim v1 v2).1 = u1 at *
  generalize (prim v1 v2).2 = u2 at *
  generalize (mateI u1 u2).1 = m1 at *
  generalize (mateI u1 u2).2 = m2 at *
  obtain ⟨rfl, rfl⟩ := hp
  have e1 : a * (u1 * g) + b * (u2 * g) = (a * u1 + b * u2) * g := by grind
  have e2 : c * (u1 * g) + d * (u2 * g) = (c * u1 + d * u2) * g := by grind
  rw [shV_char hdm hg h1 h2]
  rw [e1] at h3 ⊢
  rw [e2] at h4 ⊢
  rcases hM.det with hd | hd
  · rw [shV_char (m1 := a * m1 + b * m2) (m2 := c * m1 + d * m2) (by grind) hg h3 h4]
    rw [show (a * o1 + b * o2) * (c * m1 + d * m2) - (c * o1 + d * o2) * (a * m1 + b * m2) = o1 * m2 - o2 * m1 by grind, show (a * u1 + b * u2) * (c * o1 + d * o2) - (c * u1 + d * u2) * (a * o1 + b * o2) = u1 * o2 - u2 * o1 by grind]
  · rw [shV_char (m1 := -(a * m1 + b * m2)) (m2 := -(c * m1 + d * m2)) (by grind) hg h3 h4]
    rw [show (a * o1 + b * o2) * -(c * m1 + d * m2) - (c * o1 + d * o2) * -(a * m1 + b * m2) = o1 * m2 - o2 * m1 by grind, show (a * u1 + b * u2) * (c * o1 + d * o2) - (c * u1 + d * u2) * (a * o1 + b * o2) = -(u1 * o2 - u2 * o1) by grind]
    have : absI (-(u1 * o2 - u2 * o1)) = absI (u1 * o2 - u2 * o1) := by unfold absI; omega
    rw [this]

/-- A shape's triangle is the triangle, led by a unimodular map. -/
theorem shape_map {v1 v2 o1 o2 : Int} (hv : v1 ≠ 0 ∨ v2 ≠ 0) (h1 : -1000000 ≤ v1 ∧ v1 ≤ 1000000) (h2 : -1000000 ≤ v2 ∧ v2 ≤ 1000000) (hne : v1 * o2 - v2 * o1 ≠ 0) :
    ∃ a b c d, UniM a b c d ∧ a * v1 + b * v2 = (shV v1 v2 o1 o2).1 ∧ c * v1 + d * v2 = 0 ∧ a * o1 + b * o2 = (shV v1 v2 o1 o2).2.1 ∧ c * o1 + d * o2 = (shV v1 v2 o1 o2).2.2 := by
  have hg := gcdI_pos hv
  have hp := prim_mul v1 v2
  have hpl := prim_le (B := 1000000) h1 h2
  have hmt := mateI_ok hpl.1 hpl.2 (gcd_prim hv)
  have hdm := hmt.det
  generalize gcdI v1 v2 = g at *
  generalize (prim v1 v2).1 = u1 at *
  generalize (prim v1 v2).2 = u2 at *
  generalize (mateI u1 u2).1 = m1 at *
  generalize (mateI u1 u2).2 = m2 at *
  obtain ⟨rfl, rfl⟩ := hp
  rw [shV_char hdm hg h1 h2]
  simp only
  have hb : u1 * o2 - u2 * o1 ≠ 0 := by
    intro e
    apply hne
    rw [show u1 * g * o2 - u2 * g * o1 = (u1 * o2 - u2 * o1) * g by grind, e]
    simp
  have hdiv := Int.mul_ediv_add_emod (o1 * m2 - o2 * m1) (absI (u1 * o2 - u2 * o1))
  generalize hz : (o1 * m2 - o2 * m1) / absI (u1 * o2 - u2 * o1) = k at *
  generalize hr : (o1 * m2 - o2 * m1) % absI (u1 * o2 - u2 * o1) = r at *
  rcases Int.lt_or_le 0 (u1 * o2 - u2 * o1) with hw | hw
  · have ha : absI (u1 * o2 - u2 * o1) = u1 * o2 - u2 * o1 := by unfold absI; omega
    rw [ha] at hdiv ⊢
    refine ⟨m2 + k * u2, -m1 - k * u1, -u2, u1, ⟨.inl (by grind)⟩, by grind, by grind, by grind, by grind⟩
  · have ha : absI (u1 * o2 - u2 * o1) = -(u1 * o2 - u2 * o1) := by unfold absI; omega
    rw [ha] at hdiv ⊢
    refine ⟨m2 - k * u2, -m1 + k * u1, u2, -u1, ⟨.inr (by grind)⟩, by grind, by grind, by grind, by grind⟩

theorem bef_iff {x y : Int × Int × Int} : bef x y = true ↔ x.1 < y.1 ∨ (x.1 = y.1 ∧ (x.2.1 < y.2.1 ∨ (x.2.1 = y.2.1 ∧ x.2.2 < y.2.2))) := by
  unfold bef
  by_cases h1 : x.1 = y.1
  · by_cases h2 : x.2.1 = y.2.1
    · simp [h1, h2]
    · simp [h1, h2]
  · simp [h1]

theorem bef_false {x y : Int × Int × Int} : bef x y = false ↔ ¬ (x.1 < y.1 ∨ (x.1 = y.1 ∧ (x.2.1 < y.2.1 ∨ (x.2.1 = y.2.1 ∧ x.2.2 < y.2.2)))) := by
  rw [← bef_iff]
  cases bef x y <;> simp

theorem bef_eq {x y : Int × Int × Int} (h1 : bef x y = false) (h2 : bef y x = false) : x = y := by
  rw [bef_false] at h1 h2
  obtain ⟨x1, x2, x3⟩ := x
  obtain ⟨y1, y2, y3⟩ := y
  simp only at h1 h2
  have e1 : x1 = y1 := by omega
  have e2 : x2 = y2 := by omega
  have e3 : x3 = y3 := by omega
  rw [e1, e2, e3]

theorem bef_nt {x y z : Int × Int × Int} (h1 : bef y x = false) (h2 : bef z y = false) : bef z x = false := by
  rw [bef_false] at *
  omega

theorem bef_irr (x : Int × Int × Int) : bef x x = false := by rw [bef_false]; omega

def minL (l : List (Int × Int × Int)) (o : Int × Int × Int) : Int × Int × Int := l.foldl (fun o x => lessS x o) o

theorem minL_spec : ∀ (l : List (Int × Int × Int)) (o : Int × Int × Int), minL l o ∈ o :: l ∧ ∀ y ∈ o :: l, bef y (minL l o) = false
  | [], o => ⟨by simp [minL], fun y hy => by simp at hy; subst hy; exact bef_irr _⟩
  | x :: l, o => by
    obtain ⟨h1, h2⟩ := minL_spec l (lessS x o)
    have e : minL (x :: l) o = minL l (lessS x o) := rfl
    rw [e]
    have hb := h2 (lessS x o) List.mem_cons_self
    unfold lessS at h1 h2 hb ⊢
    cases hx : bef x o with
    | true =>
      rw [hx, cond_true] at h1 h2 hb
      rw [cond_true]
      refine ⟨List.mem_cons_of_mem _ h1, fun y hy => ?_⟩
      rcases List.mem_cons.1 hy with rfl | hy
      · refine bef_nt hb ?_
        rw [bef_iff] at hx
        rw [bef_false]
        omega
      · exact h2 y hy
    | false =>
      rw [hx, cond_false] at h1 h2 hb
      rw [cond_false]
      refine ⟨?_, fun y hy => ?_⟩
      · rcases List.mem_cons.1 h1 with h1 | h1
        · rw [h1]; exact List.mem_cons_self
        · exact List.mem_cons_of_mem _ (List.mem_cons_of_mem _ h1)
      · rcases List.mem_cons.1 hy with rfl | hy
        · exact hb
        · rcases List.mem_cons.1 hy with rfl | hy
          · exact bef_nt hb hx
          · exact h2 y (List.mem_cons_of_mem _ hy)

def six (a b c d e f : Int) : List (Int × Int × Int) := [shapeI a b c d e f, shapeI a b e f c d, shapeI c d a b e f, shapeI c d e f a b, shapeI e f a b c d, shapeI e f c d a b]

theorem normS_min (a b c d e f : Int) : normS a b c d e f ∈ six a b c d e f ∧ ∀ y ∈ six a b c d e f, bef y (normS a b c d e f) = false := by
  have h := minL_spec (six a b c d e f) (shapeI a b c d e f)
  have e : minL (six a b c d e f) (shapeI a b c d e f) = normS a b c d e f := rfl
  rw [e] at h
  refine ⟨?_, fun y hy => h.2 y (List.mem_cons_of_mem _ hy)⟩
  rcases List.mem_cons.1 h.1 with h1 | h1
  · rw [h1]; exact List.mem_cons_self
  · exact h1

theorem normS_of {a b c d e f a' b' c' d' e' f' : Int} (h : ∀ y, y ∈ six a b c d e f ↔ y ∈ six a' b' c' d' e' f') : normS a b c d e f = normS a' b' c' d' e' f' := by
  obtain ⟨h1, h2⟩ := normS_min a b c d e f
  obtain ⟨h3, h4⟩ := normS_min a' b' c' d' e' f'
  exact bef_eq (h4 _ ((h _).1 h1)) (h2 _ ((h _).2 h3))

/-- The six shapes of a shape's triangle. -/
theorem six_T {p0 p1 q0 q1 s0 s1 : Int} (hp0 : inT p0) (hp1 : inT p1) (hq0 : inT q0) (hq1 : inT q1) (hs0 : inT s0) (hs1 : inT s1) (hne : detS p0 p1 q0 q1 s0 s1 ≠ 0)
    (hL : (shapeI p0 p1 q0 q1 s0 s1).1 ≤ 1000) (hx0 : 0 ≤ (shapeI p0 p1 q0 q1 s0 s1).2.1) (hx : (shapeI p0 p1 q0 q1 s0 s1).2.1 ≤ 1000) (hH : (shapeI p0 p1 q0 q1 s0 s1).2.2 ≤ 1000) (hH0 : 0 ≤ (shapeI p0 p1 q0 q1 s0 s1).2.2) :
    six 0 0 (shapeI p0 p1 q0 q1 s0 s1).1 0 (shapeI p0 p1 q0 q1 s0 s1).2.1 (shapeI p0 p1 q0 q1 s0 s1).2.2 = six p0 p1 q0 q1 s0 s1 := by
  have hf := shape_facts hp0 hp1 hq0 hq1 hs0 hs1 hne
  have v1 := hq0.sub2 hp0
  have v2 := hq1.sub2 hp1
  have o1 := hs0.sub2 hp0
  have o2 := hs1.sub2 hp1
  obtain ⟨a, b, c, d, hM, e1, e2, e3, e4⟩ := shape_map (v1 := q0 - p0) (v2 := q1 - p1) (o1 := s0 - p0) (o2 := s1 - p1) hf.1 (by omega) (by omega) hne
  have hL0 : 0 ≤ (shapeI p0 p1 q0 q1 s0 s1).1 := by
    show 0 ≤ gcdI _ _
    omega
  rw [← shapeI_V] at e1 e3 e4
  generalize hs : shapeI p0 p1 q0 q1 s0 s1 = S at *
  obtain ⟨L, x, H⟩ := S
  simp only at *
  have nv := hf.1
  have no : s0 - p0 ≠ 0 ∨ s1 - p1 ≠ 0 := by
    rcases Classical.em (s0 - p0 = 0) with h1 | h1
    · rcases Classical.em (s1 - p1 = 0) with h2 | h2
      · exact absurd (by unfold detS; rw [h1, h2]; simp) hne
      · exact .inr h2
    · exact .inl h1
  have nd : s0 - q0 ≠ 0 ∨ s1 - q1 ≠ 0 := by
    rcases Classical.em (s0 - q0 = 0) with h1 | h1
    · rcases Classical.em (s1 - q1 = 0) with h2 | h2
      · refine absurd ?_ hne
        unfold detS
        rw [show s0 = q0 by omega, show s1 = q1 by omega]
        grind
      · exact .inr h2
    · exact .inl h1
  have d1 := hs0.sub2 hq0
  have d2 := hs1.sub2 hq1
  have mp := fun (w1 w2 z1 z2 W1 W2 Z1 Z2 : Int) (hw : w1 ≠ 0 ∨ w2 ≠ 0) (hw1 : -2000 ≤ w1 ∧ w1 ≤ 2000) (hw2 : -2000 ≤ w2 ∧ w2 ≤ 2000) (hW1 : -2000 ≤ W1 ∧ W1 ≤ 2000) (hW2 : -2000 ≤ W2 ∧ W2 ≤ 2000) (k1 : a * w1 + b * w2 = W1) (k2 : c * w1 + d * w2 = W2) (k3 : a * z1 + b * z2 = Z1) (k4 : c * z1 + d * z2 = Z2) =>
    (show shV W1 W2 Z1 Z2 = shV w1 w2 z1 z2 by
      have := shV_map (o1 := z1) (o2 := z2) hM hw (by omega) (by omega) (by rw [k1]; omega) (by rw [k2]; omega)
      rw [k1, k2, k3, k4] at this
      exact this)
  unfold six
  simp only [shapeI_V]
  rw [mp (q0 - p0) (q1 - p1) (s0 - p0) (s1 - p1) (L - 0) (0 - 0) (x - 0) (H - 0) nv (by omega) (by omega) (by omega) (by omega) (by omega) (by omega) (by omega) (by omega),
    mp (s0 - p0) (s1 - p1) (q0 - p0) (q1 - p1) (x - 0) (H - 0) (L - 0) (0 - 0) no (by omega) (by omega) (by omega) (by omega) (by omega) (by omega) (by omega) (by omega),
    mp (p0 - q0) (p1 - q1) (s0 - q0) (s1 - q1) (0 - L) (0 - 0) (x - L) (H - 0) (by omega) (by omega) (by omega) (by omega) (by omega) (by grind) (by grind) (by grind) (by grind),
    mp (s0 - q0) (s1 - q1) (p0 - q0) (p1 - q1) (x - L) (H - 0) (0 - L) (0 - 0) nd (by omega) (by omega) (by omega) (by omega) (by grind) (by grind) (by grind) (by grind),
    mp (p0 - s0) (p1 - s1) (q0 - s0) (q1 - s1) (0 - x) (0 - H) (L - x) (0 - H) (by omega) (by omega) (by omega) (by omega) (by omega) (by grind) (by grind) (by grind) (by grind),
    mp (q0 - s0) (q1 - s1) (p0 - s0) (p1 - s1) (L - x) (0 - H) (0 - x) (0 - H) (by omega) (by omega) (by omega) (by omega) (by omega) (by grind) (by grind) (by grind) (by grind)]

theorem six_perm (a b c d e f : Int) :
    (∀ y, y ∈ six a b e f c d ↔ y ∈ six a b c d e f) ∧ (∀ y, y ∈ six c d a b e f ↔ y ∈ six a b c d e f) ∧ (∀ y, y ∈ six c d e f a b ↔ y ∈ six a b c d e f) ∧
    (∀ y, y ∈ six e f a b c d ↔ y ∈ six a b c d e f) ∧ (∀ y, y ∈ six e f c d a b ↔ y ∈ six a b c d e f) := by
  refine ⟨fun y => ?_, fun y => ?_, fun y => ?_, fun y => ?_, fun y => ?_⟩ <;>
  · simp only [six, List.mem_cons, List.not_mem_nil, or_false]
    constructor <;> (rintro (h | h | h | h | h | h) <;> simp [h])

/-- What is known of a shape. -/
def GoodS (n : Int) (s : Int × Int × Int) : Prop := 1 ≤ s.1 ∧ 0 ≤ s.2.1 ∧ s.2.1 < s.2.2 ∧ s.1 * s.2.2 = n

theorem shape_good {p0 p1 q0 q1 s0 s1 : Int} (hp0 : inT p0) (hp1 : inT p1) (hq0 : inT q0) (hq1 : inT q1) (hs0 : inT s0) (hs1 : inT s1) (hne : detS p0 p1 q0 q1 s0 s1 ≠ 0) : GoodS (absI (detS p0 p1 q0 q1 s0 s1)) (shapeI p0 p1 q0 q1 s0 s1) := by
  have hf := shape_facts hp0 hp1 hq0 hq1 hs0 hs1 hne
  obtain ⟨_, h1, _, hd, h2, _, h3, _⟩ := hf
  unfold GoodS shapeI
  simp only
  refine ⟨h1, Int.emod_nonneg _ (by omega), Int.emod_lt_of_pos _ (by omega), ?_⟩
  rw [Int.mul_comm]
  exact Int.ediv_mul_cancel hd

theorem GoodS.le {n : Int} {s : Int × Int × Int} (h : GoodS n s) : s.1 ≤ n ∧ s.2.2 ≤ n ∧ s.2.1 < n := by
  obtain ⟨h1, h2, h3, h4⟩ := h
  have a1 := Int.mul_nonneg (show 0 ≤ s.1 - 1 by omega) (show 0 ≤ s.2.2 by omega)
  have a2 := Int.mul_nonneg (show 0 ≤ s.1 by omega) (show 0 ≤ s.2.2 - 1 by omega)
  rw [Int.sub_mul] at a1
  rw [Int.mul_sub] at a2
  omega

theorem norm_one {p0 p1 q0 q1 s0 s1 : Int} (hp0 : inT p0) (hp1 : inT p1) (hq0 : inT q0) (hq1 : inT q1) (hs0 : inT s0) (hs1 : inT s1) (hne : detS p0 p1 q0 q1 s0 s1 ≠ 0) (hA : absI (detS p0 p1 q0 q1 s0 s1) ≤ 1000) :
    normS 0 0 (shapeI p0 p1 q0 q1 s0 s1).1 0 (shapeI p0 p1 q0 q1 s0 s1).2.1 (shapeI p0 p1 q0 q1 s0 s1).2.2 = normS p0 p1 q0 q1 s0 s1 := by
  have hg := shape_good hp0 hp1 hq0 hq1 hs0 hs1 hne
  have hl := hg.le
  obtain ⟨g1, g2, g3, _⟩ := hg
  exact normS_of fun y => by rw [six_T hp0 hp1 hq0 hq1 hs0 hs1 hne (by omega) (by omega) (by omega) (by omega) (by omega)]

/-- The normal shape of the normal shape's triangle. -/
theorem norm_idem {a b c d e f : Int} (h : IsT a b c d e f) (hA : absI (detS a b c d e f) ≤ 1000) :
    GoodS (absI (detS a b c d e f)) (normS a b c d e f) ∧ normS 0 0 (normS a b c d e f).1 0 (normS a b c d e f).2.1 (normS a b c d e f).2.2 = normS a b c d e f := by
  have hne : detS a b c d e f ≠ 0 := h.ne
  have e02 : detS a b e f c d = -detS a b c d e f := by unfold detS; grind
  have e10 : detS c d a b e f = -detS a b c d e f := by unfold detS; grind
  have e12 : detS c d e f a b = detS a b c d e f := by unfold detS; grind
  have e20 : detS e f a b c d = detS a b c d e f := by unfold detS; grind
  have e21 : detS e f c d a b = -detS a b c d e f := by unfold detS; grind
  have ea : absI (-detS a b c d e f) = absI (detS a b c d e f) := by unfold absI; omega
  obtain ⟨s1, s2, s3, s4, s5⟩ := six_perm a b c d e f
  have key : ∀ {p0 p1 q0 q1 s0 s1 : Int}, inT p0 → inT p1 → inT q0 → inT q1 → inT s0 → inT s1 → detS p0 p1 q0 q1 s0 s1 ≠ 0 → absI (detS p0 p1 q0 q1 s0 s1) = absI (detS a b c d e f) → (∀ y, y ∈ six p0 p1 q0 q1 s0 s1 ↔ y ∈ six a b c d e f) → normS a b c d e f = shapeI p0 p1 q0 q1 s0 s1 →
      GoodS (absI (detS a b c d e f)) (normS a b c d e f) ∧ normS 0 0 (normS a b c d e f).1 0 (normS a b c d e f).2.1 (normS a b c d e f).2.2 = normS a b c d e f := by
    intro p0 p1 q0 q1 s0 s1 h1 h2 h3 h4 h5 h6 hn hab hm hs
    have g := shape_good h1 h2 h3 h4 h5 h6 hn
    have g2 := norm_one h1 h2 h3 h4 h5 h6 hn (by omega)
    rw [normS_of hm] at g2
    rw [hab] at g
    rw [← hs] at g g2
    exact ⟨g, g2⟩
  have hm := (normS_min a b c d e f).1
  simp only [six, List.mem_cons, List.not_mem_nil, or_false] at hm
  rcases hm with hm | hm | hm | hm | hm | hm
  · exact key h.a h.b h.c h.d h.e h.f hne rfl (fun _ => Iff.rfl) hm
  · exact key h.a h.b h.e h.f h.c h.d (by omega) (by rw [e02, ea]) s1 hm
  · exact key h.c h.d h.a h.b h.e h.f (by omega) (by rw [e10, ea]) s2 hm
  · exact key h.c h.d h.e h.f h.a h.b (by omega) (by rw [e12]) s3 hm
  · exact key h.e h.f h.a h.b h.c h.d (by omega) (by rw [e20]) s4 hm
  · exact key h.e h.f h.c h.d h.a h.b (by omega) (by rw [e21, ea]) s5 hm

/-- Each comes ahead of those behind it. -/
def Asc (l : List (Int × Int × Int)) : Prop := l.Pairwise fun x y => bef x y = true

theorem bef_trans {x y z : Int × Int × Int} (h1 : bef x y = true) (h2 : bef y z = true) : bef x z = true := by
  rw [bef_iff] at *
  omega

theorem asc_uniq : ∀ {l m : List (Int × Int × Int)}, Asc l → Asc m → (∀ x, x ∈ l ↔ x ∈ m) → l = m
  | [], [], _, _, _ => rfl
  | [], y :: m, _, _, h => absurd ((h y).2 List.mem_cons_self) (by simp)
  | x :: l, [], _, _, h => absurd ((h x).1 List.mem_cons_self) (by simp)
  | x :: l, y :: m, hl, hm, h => by
    have hl' := List.pairwise_cons.1 hl
    have hm' := List.pairwise_cons.1 hm
    have irr : ∀ {z}, bef z z = true → False := fun {z} hz => by rw [bef_irr] at hz; cases hz
    have hxy : x = y := by
      rcases List.mem_cons.1 ((h x).1 List.mem_cons_self) with e | e
      · exact e
      · rcases List.mem_cons.1 ((h y).2 List.mem_cons_self) with e2 | e2
        · exact e2.symm
        · exact (irr (bef_trans (hl'.1 y e2) (hm'.1 x e))).elim
    subst hxy
    rw [asc_uniq hl'.2 hm'.2 fun z => ?_]
    constructor
    · intro hz
      rcases List.mem_cons.1 ((h z).1 (List.mem_cons_of_mem _ hz)) with e | e
      · subst e; exact (irr (hl'.1 _ hz)).elim
      · exact e
    · intro hz
      rcases List.mem_cons.1 ((h z).2 (List.mem_cons_of_mem _ hz)) with e | e
      · subst e; exact (irr (hm'.1 _ hz)).elim
      · exact e

def ddR : (Int × Int × Int) → List (Int × Int × Int) → List (Int × Int × Int)
  | _, [] => []
  | p, y :: r => if y = p then ddR y r else y :: ddR y r

def ddS : List (Int × Int × Int) → List (Int × Int × Int)
  | [] => []
  | x :: r => x :: ddR x r

theorem ddR_mem : ∀ (p : Int × Int × Int) (l : List (Int × Int × Int)) (z : Int × Int × Int), z = p ∨ z ∈ ddR p l ↔ z = p ∨ z ∈ l
  | p, [], z => by simp [ddR]
  | p, y :: r, z => by
    have ih := ddR_mem y r z
    unfold ddR
    by_cases h : y = p
    · rw [if_pos h]
      subst h
      rw [ih]
      simp
    · rw [if_neg h]
      simp only [List.mem_cons]
      constructor
      · rintro (h | h | h)
        · exact .inl h
        · exact .inr (.inl h)
        · rcases ih.1 (.inr h) with h | h
          · exact .inr (.inl h)
          · exact .inr (.inr h)
      · rintro (h | h | h)
        · exact .inl h
        · exact .inr (.inl h)
        · rcases ih.2 (.inr h) with h | h
          · exact .inr (.inl h)
          · exact .inr (.inr h)

theorem ddS_mem (l : List (Int × Int × Int)) (z : Int × Int × Int) : z ∈ ddS l ↔ z ∈ l := by
  cases l with
  | nil => simp [ddS]
  | cons x r =>
    unfold ddS
    simp only [List.mem_cons]
    exact ddR_mem x r z

theorem ddR_asc : ∀ (p : Int × Int × Int) (l : List (Int × Int × Int)), (p :: l).Pairwise (fun x y => bef y x = false) → (p :: ddR p l).Pairwise fun x y => bef x y = true
  | p, [], _ => by simp [ddR]
  | p, y :: r, h => by
    have h1 := List.pairwise_cons.1 h
    have h2 := List.pairwise_cons.1 h1.2
    have ih := ddR_asc y r h1.2
    unfold ddR
    by_cases e : y = p
    · rw [if_pos e]
      subst e
      exact ih
    · rw [if_neg e]
      refine List.pairwise_cons.2 ⟨fun z hz => ?_, ih⟩
      have hyp : bef p y = true := by
        cases hb : bef p y with
        | true => rfl
        | false => exact absurd (bef_eq (h1.1 y List.mem_cons_self) hb) e
      rcases List.mem_cons.1 hz with rfl | hz
      · exact hyp
      · exact bef_trans hyp ((List.pairwise_cons.1 ih).1 z hz)

theorem ddS_asc {l : List (Int × Int × Int)} (h : l.Pairwise fun x y => bef y x = false) : Asc (ddS l) := by
  cases l with
  | nil => exact List.Pairwise.nil
  | cons x r => exact ddR_asc x r h

def colA (L H : Int) : Nat → Int → List (Int × Int × Int)
  | 0, _ => []
  | m + 1, x => (L, x, H) :: colA L H m (x + 1)

def allA (n : Int) : Nat → Int → List (Int × Int × Int)
  | 0, _ => []
  | m + 1, L => (if n % L = 0 then colA L (n / L) (n / L).toNat 0 else []) ++ allA n m (L + 1)

theorem colA_mem {L H : Int} : ∀ {m : Nat} {x : Int} {s : Int × Int × Int}, s ∈ colA L H m x ↔ s.1 = L ∧ x ≤ s.2.1 ∧ s.2.1 < x + m ∧ s.2.2 = H
  | 0, x, s => by simp [colA]; omega
  | m + 1, x, s => by
    unfold colA
    rw [List.mem_cons, colA_mem]
    obtain ⟨a, b, c⟩ := s
    simp only [Prod.mk.injEq]
    constructor
    · rintro (⟨rfl, rfl, rfl⟩ | ⟨rfl, h1, h2, rfl⟩)
      · refine ⟨rfl, ?_, ?_, rfl⟩ <;> omega
      · refine ⟨rfl, ?_, ?_, rfl⟩ <;> omega
    · rintro ⟨rfl, h1, h2, rfl⟩
      by_cases h : b = x
      · exact .inl ⟨rfl, h, rfl⟩
      · exact .inr ⟨rfl, by omega, by omega, rfl⟩

theorem colA_asc {L H : Int} : ∀ (m : Nat) (x : Int), Asc (colA L H m x)
  | 0, x => List.Pairwise.nil
  | m + 1, x => by
    unfold colA
    refine List.pairwise_cons.2 ⟨fun s hs => ?_, colA_asc m (x + 1)⟩
    obtain ⟨h1, h2, h3, h4⟩ := colA_mem.1 hs
    rw [bef_iff]
    simp only
    omega

theorem colA_len {L H : Int} : ∀ (m : Nat) (x : Int), (colA L H m x).length = m
  | 0, x => rfl
  | m + 1, x => by unfold colA; rw [List.length_cons, colA_len]

theorem allA_mem {n : Int} : ∀ {m : Nat} {L : Int} {s : Int × Int × Int}, 1 ≤ L → 0 ≤ n → (s ∈ allA n m L ↔ L ≤ s.1 ∧ s.1 < L + m ∧ n % s.1 = 0 ∧ 0 ≤ s.2.1 ∧ s.2.1 < n / s.1 ∧ s.2.2 = n / s.1)
  | 0, L, s, h, hn => by simp [allA]; omega
  | m + 1, L, s, h, hn => by
    unfold allA
    rw [List.mem_append, allA_mem (by omega) hn]
    have hq : 0 ≤ n / L := Int.ediv_nonneg hn (by omega)
    constructor
    · rintro (h1 | ⟨h1, h2, h3, h4, h5, h6⟩)
      · by_cases hd : n % L = 0
        · rw [if_pos hd, colA_mem] at h1
          obtain ⟨e1, e2, e3, e4⟩ := h1
          rw [e1]
          exact ⟨by omega, by omega, hd, e2, by omega, e4⟩
        · rw [if_neg hd] at h1
          cases h1
      · exact ⟨by omega, by omega, h3, h4, h5, h6⟩
    · rintro ⟨h1, h2, h3, h4, h5, h6⟩
      by_cases e : s.1 = L
      · rw [e] at h3 h5 h6
        refine .inl ?_
        rw [if_pos h3, colA_mem]
        exact ⟨e, h4, by omega, h6⟩
      · exact .inr ⟨by omega, by omega, h3, h4, h5, h6⟩

theorem allA_asc {n : Int} (hn : 0 ≤ n) : ∀ (m : Nat) (L : Int), 1 ≤ L → Asc (allA n m L)
  | 0, L, _ => List.Pairwise.nil
  | m + 1, L, h => by
    unfold allA
    refine List.pairwise_append.2 ⟨?_, allA_asc hn m (L + 1) (by omega), fun x hx y hy => ?_⟩
    · split
      · exact colA_asc _ _
      · exact List.Pairwise.nil
    · have h1 : x.1 = L := by
        split at hx
        · exact (colA_mem.1 hx).1
        · cases hx
      have h2 := ((allA_mem (by omega) hn).1 hy).1
      rw [bef_iff]
      omega

theorem allA_good {n : Int} (hn : 1 ≤ n) {s : Int × Int × Int} : s ∈ allA n n.toNat 1 ↔ GoodS n s := by
  rw [allA_mem (by omega) (by omega)]
  unfold GoodS
  constructor
  · rintro ⟨h1, h2, h3, h4, h5, h6⟩
    refine ⟨h1, h4, by omega, ?_⟩
    rw [h6]
    exact Int.mul_ediv_cancel' (Int.dvd_of_emod_eq_zero h3)
  · rintro ⟨h1, h2, h3, h4⟩
    have hl := GoodS.le (n := n) (s := s) ⟨h1, h2, h3, h4⟩
    have hd : s.1 ∣ n := ⟨s.2.2, h4.symm⟩
    have he : n / s.1 = s.2.2 := by rw [← h4, Int.mul_ediv_cancel_left _ (by omega)]
    refine ⟨h1, by omega, Int.emod_eq_zero_of_dvd hd, h2, by omega, he.symm⟩

theorem allA_len {n : Int} (hn : 0 ≤ n) (hn2 : n ≤ 200) : ∀ (m : Nat) (L : Int), 1 ≤ L → (allA n m L).length ≤ 200 * m
  | 0, L, _ => by simp [allA]
  | m + 1, L, h => by
    unfold allA
    rw [List.length_append]
    have ih := allA_len hn hn2 m (L + 1) (by omega)
    have : (if n % L = 0 then colA L (n / L) (n / L).toNat 0 else []).length ≤ 200 := by
      split
      · rw [colA_len]
        have := Int.ediv_le_self L hn
        omega
      · simp
    omega

/-- The normal shape of a shape's triangle. -/
def normT (s : Int × Int × Int) : Int × Int × Int := normS 0 0 s.1 0 s.2.1 s.2.2

theorem isT_of_good {n : Int} {s : Int × Int × Int} (hn : n ≤ 200) (h : GoodS n s) : IsT 0 0 s.1 0 s.2.1 s.2.2 ∧ absI (detS 0 0 s.1 0 s.2.1 s.2.2) = n := by
  have hl := h.le
  obtain ⟨h1, h2, h3, h4⟩ := h
  have hn0 : 0 < n := by rw [← h4]; exact Int.mul_pos (by omega) (by omega)
  have e : (s.1 - 0) * (s.2.2 - 0) - (0 - 0) * (s.2.1 - 0) = n := by
    rw [Int.sub_zero, Int.sub_zero, h4]
    omega
  refine ⟨⟨by rw [e]; omega, ?_, ?_, ?_, ?_, ?_, ?_⟩, ?_⟩
  all_goals first | (unfold inT; omega) | skip
  unfold absI detS
  rw [e]
  omega

theorem normT_good {n : Int} {s : Int × Int × Int} (hn : n ≤ 200) (h : GoodS n s) : GoodS n (normT s) ∧ normT (normT s) = normT s := by
  obtain ⟨h1, h2⟩ := isT_of_good hn h
  have := norm_idem h1 (by omega)
  rw [h2] at this
  exact this

/-- Both lists are one. -/
theorem area_lists {n : Int} (h1 : 1 ≤ n) (hn : n ≤ 200) {srt : List (Int × Int × Int)} (hs : srt.Pairwise fun x y => bef y x = false) (hm : ∀ z, z ∈ srt ↔ z ∈ (allA n n.toNat 1).map normT) :
    ddS srt = (allA n n.toNat 1).filter fun s => decide (normT s = s) := by
  refine asc_uniq (ddS_asc hs) ((allA_asc (by omega) _ _ (by omega)).filter _) fun z => ?_
  rw [ddS_mem, hm, List.mem_map, List.mem_filter, allA_good h1]
  constructor
  · rintro ⟨s, hs, rfl⟩
    obtain ⟨g1, g2⟩ := normT_good hn ((allA_good h1).1 hs)
    exact ⟨g1, by simp [g2]⟩
  · rintro ⟨hg, he⟩
    exact ⟨z, (allA_good h1).2 hg, by simpa using he⟩

def markedS : Nat → Int → List (Int × Int × Int)
  | 0, _ => []
  | n + 1, m => (m, m + 1, m + 2) :: markedS n (m + 3)

theorem markedS_length : ∀ (n : Nat) (m : Int), (markedS n m).length = n
  | 0, _ => rfl
  | n + 1, m => by simp [markedS, markedS_length n]

theorem eqShapeS_l4_same : ∀ (rest : List (Int × Int × Int)) (k i : Nat) (s : List (Int × Int × Int)) b (r : Bool → Option α), s.drop i = rest → s.length ≤ big → i ≤ s.length → rest.length < k → laws_eqShapeS_l4 k i s s b r = b s.length s s
  | [], k + 1, i, s, b, r, hd, hb, hi, _ => by
    have h1 := drop_nil hd
    have h2 : i = s.length := by omega
    subst h2
    rw [laws_eqShapeS_l4, dec_lt_f (by omega)]
    rfl
  | e :: rest, k + 1, i, s, b, r, hd, hb, hi, hk => by
    obtain ⟨h1, h2, h3⟩ := drop_cons hd
    rw [big_val] at hb
    rw [laws_eqShapeS_l4, dec_lt_t (by omega), dec_le_t (by omega), cond_true, Bool.and_true, cond_true, Int.toNat_natCast, h1, Option.bind_some, cond_true]
    have e1 : w64 ((i : Int) + 1) = ((i + 1 : Nat) : Int) := by rw [w64_of (by omega) (by omega)]; omega
    simp only [Option.bind_some, eqShape_same, Bool.not_true, cond_false, e1]
    exact eqShapeS_l4_same rest k (i + 1) s b r h2 (by rw [big_val]; omega) (by omega) (by simp at hk; omega)
  | _, 0, _, _, _, _, _, _, _, hk => by omega

theorem eqShapeS_same (k : Nat) (s : List (Int × Int × Int)) (r : Bool → Option α) (hs : s.length ≤ big) (hk : s.length < k) : laws_eqShapeS k s s r = r true := by
  unfold laws_eqShapeS
  have h := eqShapeS_l4_same (α := α) s k 0 s (fun _ _ _ => r true) r (by simp) hs (by omega) hk
  simpa using h

theorem markShapeS_l2_ok : ∀ (rest : List (Int × Int × Int)) (k : Nat) (pre : List (Int × Int × Int)) (m : Int) b (r : Int → List (Int × Int × Int) → Option α), pre.length + rest.length ≤ big → 0 ≤ m → m + 3 * rest.length ≤ 1000000000000000 → rest.length < k →
    laws_markShapeS_l2 k m pre.length (pre ++ rest) b r = b (m + 3 * rest.length) (pre.length + rest.length : Nat) (pre ++ markedS rest.length m)
  | [], k + 1, pre, m, b, r, hb, h0, hm, _ => by
    rw [laws_markShapeS_l2, dec_lt_f (by simp)]
    simp [markedS]
  | e :: rest, k + 1, pre, m, b, r, hb, h0, hm, hk => by
    rw [big_val] at hb
    simp only [List.length_cons] at hb hk hm
    have hl : (pre ++ e :: rest).length = pre.length + (rest.length + 1) := by simp
    have e1 : w64 ((pre.length : Int) + 1) = ((pre ++ [(m, m + 1, m + 2)]).length : Int) := by rw [w64_of (by omega) (by omega)]; simp
    have e2 : w64 (m + 1) = m + 1 := w64_of (by omega) (by omega)
    have e3 : w64 (m + 1 + 1) = m + 2 := by rw [w64_of (by omega) (by omega)]; omega
    have hg : (pre ++ e :: rest)[pre.length]? = some e := by simp
    have e4 : w64 (m + 2 + 1) = m + 3 := by rw [w64_of (by omega) (by omega)]; omega
    have hg2 : ∀ y, ((pre ++ e :: rest).set pre.length y)[pre.length]? = some y := fun y => by rw [set_mid]; simp
    have hs2 : ∀ y, (pre ++ e :: rest).set pre.length y = (pre ++ [y]) ++ rest := fun y => set_mid _ _ _ _
    rw [laws_markShapeS_l2, hl, dec_lt_t (by omega), dec_le_t (by omega), cond_true, Bool.and_true, cond_true, Int.toNat_natCast, hg, Option.bind_some]
    simp only [List.set_set, List.length_set, hl, dec_lt_t (show (pre.length : Int) < ((pre.length + (rest.length + 1) : Nat) : Int) by omega), Bool.and_self, cond_true, hg2, Option.bind_some, e2, e3, e4]
    rw [hs2, e1]
    rw [markShapeS_l2_ok rest k (pre ++ [(m, m + 1, m + 2)]) (m + 3) b r (by rw [big_val]; simp; omega) (by omega) (by omega) (by omega)]
    simp only [markedS, List.append_assoc, List.singleton_append, List.length_cons, List.length_append, List.length_nil]
    congr 1
    · omega
    · omega
  | _, 0, _, _, _, _, _, _, _, hk => by omega

theorem markShapeS_ok (k : Nat) (s : List (Int × Int × Int)) (m : Int) (r : Int → List (Int × Int × Int) → Option α) (hs : s.length ≤ big) (h0 : 0 ≤ m) (hm : m + 3 * s.length ≤ 1000000000000000) (hk : s.length < k) : laws_markShapeS k s m r = r (m + 3 * s.length) (markedS s.length m) := by
  unfold laws_markShapeS
  have h := markShapeS_l2_ok (α := α) s k [] m (fun a _ c => r a c) r (by simpa using hs) h0 hm hk
  simpa using h

theorem heldShapeS_l2_ok : ∀ (n : Nat) (k : Nat) (pre : List (Int × Int × Int)) (m : Int) b (r : Int → Option α), pre.length + n ≤ big → 0 ≤ m → m + 3 * n ≤ 1000000000000000 → n < k →
    laws_heldShapeS_l2 k m pre.length (pre ++ markedS n m) b r = b (m + 3 * n) (pre.length + n : Nat) (pre ++ markedS n m)
  | 0, k + 1, pre, m, b, r, hb, h0, hm, _ => by
    rw [laws_heldShapeS_l2, dec_lt_f (by simp [markedS])]
    simp [markedS]
  | n + 1, k + 1, pre, m, b, r, hb, h0, hm, hk => by
    rw [big_val] at hb
    have hl : (pre ++ markedS (n + 1) m).length = pre.length + (n + 1) := by simp [markedS_length]
    have e1 : w64 ((pre.length : Int) + 1) = ((pre ++ [(m, m + 1, m + 2)]).length : Int) := by rw [w64_of (by omega) (by omega)]; simp
    have e2 : w64 (m + 1) = m + 1 := w64_of (by omega) (by omega)
    have e3 : w64 (m + 1 + 1) = m + 2 := by rw [w64_of (by omega) (by omega)]; omega
    have e4 : w64 (m + 2 + 1) = m + 3 := by rw [w64_of (by omega) (by omega)]; omega
    have hg : (pre ++ markedS (n + 1) m)[pre.length]? = some (m, m + 1, m + 2) := by simp [markedS]
    have ha : pre ++ markedS (n + 1) m = (pre ++ [(m, m + 1, m + 2)]) ++ markedS n (m + 3) := by simp [markedS]
    rw [laws_heldShapeS_l2, hl, dec_lt_t (by omega), dec_le_t (by omega), cond_true, Bool.and_true, cond_true, Int.toNat_natCast, hg, Option.bind_some]
    simp only [decide_true, Bool.not_true, cond_false, cond_true, Option.bind_some, e2, e3, e4, e1]
    rw [ha, heldShapeS_l2_ok n k (pre ++ [(m, m + 1, m + 2)]) (m + 3) b r (by rw [big_val]; simp; omega) (by omega) (by omega) (by omega)]
    congr 1
    · omega
    · simp; omega
  | _, 0, _, _, _, _, _, _, _, hk => by omega

theorem heldShapeS_ok (k n : Nat) (m : Int) (r : Int → Option α) (hs : n ≤ big) (h0 : 0 ≤ m) (hm : m + 3 * n ≤ 1000000000000000) (hk : n < k) : laws_heldShapeS k (markedS n m) m r = r (m + 3 * n) := by
  unfold laws_heldShapeS
  have h := heldShapeS_l2_ok (α := α) n k [] m (fun a _ _ => r a) r (by simpa using hs) h0 hm hk
  simpa using h

theorem cpt_l9 (l : List (Int × Int × Int)) (hl : l.length ≤ 1000000) : ∀ (rest : List (Int × Int × Int)) (k w k0 p : Nat) (cur : List (Int × Int × Int)) (prev : Int × Int × Int), l.drop p = rest → 1 ≤ k0 → k0 < p → p ≤ l.length → w + 1 ≤ p → cur.length = l.length → cur.drop w = l.drop w → l[p - 1]? = some prev → rest.length < k →
    ∃ w' cur' k2, cur'.length = l.length ∧ w' ≤ l.length ∧ cur'.take w' = cur.take w ++ ddR prev rest ∧ ∀ (b : Int → Nat → Nat → Int → List (Int × Int × Int) → Option α) (r : List (Int × Int × Int) → Option α),
      slices_Compact_impl_Shape_impl_Shape_l9 k (w : Int) k0 (l.length - k0) ((p - k0 : Nat) : Int) cur b r = b (w' : Nat) k0 (l.length - k0) k2 cur'
  | [], k + 1, w, k0, p, cur, prev, hd, h1, hp, hpl, hw, hc, hs, hprev, _ => by
    have hlp : p = l.length := by have := drop_nil hd; omega
    refine ⟨w, cur, ((p - k0 : Nat) : Int), hc, by omega, by simp [ddR], fun b r => ?_⟩
    rw [slices_Compact_impl_Shape_impl_Shape_l9, dec_lt_f (by omega)]
    rfl
  | y :: rest, k + 1, w, k0, p, cur, prev, hd, h1, hp, hpl, hw, hc, hs, hprev, hk => by
    obtain ⟨g1, g2, g3⟩ := drop_cons hd
    have en : w64 (((p - k0 : Nat) : Int) + 1) = ((p + 1 - k0 : Nat) : Int) := by rw [w64_of (by omega) (by omega)]; omega
    have em : w64 (((p - k0 : Nat) : Int) - 1) = ((p - 1 - k0 : Nat) : Int) := by rw [w64_of (by omega) (by omega)]; omega
    have ew : w64 ((w : Int) + 1) = ((w + 1 : Nat) : Int) := by rw [w64_of (by omega) (by omega)]; omega
    have m1 : ∀ q : Nat, k0 ≤ q → moved k0 (q - k0) 1 = q := fun q hq => by
      unfold moved
      have : Nat.beq k0 0 = false := by cases hb : Nat.beq k0 0 with | false => rfl | true => have := Nat.eq_of_beq_eq_true hb; omega
      rw [this, cond_false]
      omega
    have at_ : ∀ q, w ≤ q → cur[q]? = l[q]? := fun q hq => by
      have e1 : (cur.drop w)[q - w]? = (l.drop w)[q - w]? := by rw [hs]
      rw [List.getElem?_drop, List.getElem?_drop, show w + (q - w) = q by omega] at e1
      exact e1
    have hy : cur[p]? = some y := by rw [at_ p (by omega)]; exact g1
    have hp1 : cur[p - 1]? = some prev := by rw [at_ (p - 1) (by omega)]; exact hprev
    have hnext : l[p + 1 - 1]? = some y := by rw [Nat.add_sub_cancel]; exact g1
    have hwc : w < cur.length := by omega
    obtain ⟨cw, hcw⟩ : ∃ c, cur[w]? = some c := ⟨cur[w], List.getElem?_eq_getElem hwc⟩
    have hstep : (decide (y.1 = prev.1) && (decide (y.2.1 = prev.2.1) && decide (y.2.2 = prev.2.2))) = decide (y = prev) := by
      rw [Bool.eq_iff_iff]
      simp [Prod.ext_iff]
    by_cases e : y = prev
    · obtain ⟨w', cur', k2, i1, i2, i3, i4⟩ := cpt_l9 l hl rest k w k0 (p + 1) cur y g2 h1 (by omega) (by omega) (by omega) hc hs hnext (by simp at hk; omega)
      refine ⟨w', cur', k2, i1, i2, ?_, fun b r => ?_⟩
      · rw [i3]
        congr 1
        conv => rhs; unfold ddR
        rw [if_pos e]
      · rw [slices_Compact_impl_Shape_impl_Shape_l9, dec_lt_t (by omega), dec_le_t (by omega), cond_true, Bool.and_self, cond_true, Int.toNat_natCast, m1 p (by omega), hy, Option.bind_some, em, dec_le_t (by omega), dec_lt_t (by omega), Bool.and_self, cond_true, Int.toNat_natCast, m1 (p - 1) (by omega), hp1, Option.bind_some, hstep, decide_eq_true e, Bool.not_true, cond_false, en]
        exact i4 b r
    · have hset : (cur.set w (y.1, y.2.1, y.2.2)).length = l.length := by rw [List.length_set]; exact hc
      have hdrop : (cur.set w (y.1, y.2.1, y.2.2)).drop (w + 1) = l.drop (w + 1) := by
        have e1 : (cur.drop w).drop 1 = (l.drop w).drop 1 := by rw [hs]
        rw [List.drop_drop, List.drop_drop] at e1
        rw [List.drop_set, if_pos (by omega)]
        exact e1
      obtain ⟨w', cur', k2, i1, i2, i3, i4⟩ := cpt_l9 l hl rest k (w + 1) k0 (p + 1) (cur.set w (y.1, y.2.1, y.2.2)) y g2 h1 (by omega) (by omega) (by omega) hset hdrop hnext (by simp at hk; omega)
      refine ⟨w', cur', k2, i1, i2, ?_, fun b r => ?_⟩
      · have ht : (cur.set w (y.1, y.2.1, y.2.2)).take (w + 1) = cur.take w ++ [y] := by
          have hlw : (cur.take w).length = w := by rw [List.length_take]; omega
          rw [List.take_set, List.take_add_one, hcw, List.set_append_right _ _ (by omega), hlw, Nat.sub_self]
          rfl
        rw [i3, ht, List.append_assoc]
        congr 1
        conv => rhs; unfold ddR
        rw [if_neg e]
        rfl
      · rw [slices_Compact_impl_Shape_impl_Shape_l9, dec_lt_t (by omega), dec_le_t (by omega), cond_true, Bool.and_self, cond_true, Int.toNat_natCast, m1 p (by omega), hy, Option.bind_some, em, dec_le_t (by omega), dec_lt_t (by omega), Bool.and_self, cond_true, Int.toNat_natCast, m1 (p - 1) (by omega), hp1, Option.bind_some, hstep, decide_eq_false e, Bool.not_false, cond_true, cond_true, Option.bind_some, Int.toNat_natCast, dec_le_t (by omega), dec_lt_t (by omega), Bool.and_self, cond_true, hcw, Option.bind_some, en, ew]
        exact i4 b r
  | _, 0, _, _, _, _, _, _, _, _, _, _, _, _, _, hk => by omega

theorem cpt_l4 (l : List (Int × Int × Int)) (hl : l.length ≤ 1000000) (r : List (Int × Int × Int) → Option α) : ∀ (rest : List (Int × Int × Int)) (k p : Nat) (prev : Int × Int × Int), l.drop p = rest → 1 ≤ p → p ≤ l.length → l[p - 1]? = some prev → 2 * rest.length + 2 < k →
    slices_Compact_impl_Shape_impl_Shape_l4 k (p : Int) l (fun _ s => r s) r = r (l.take p ++ ddR prev rest)
  | [], k + 1, p, prev, hd, h1, hpl, hprev, _ => by
    have hlp : p = l.length := by have := drop_nil hd; omega
    rw [slices_Compact_impl_Shape_impl_Shape_l4, dec_lt_f (by omega), cond_false]
    simp [ddR, hlp]
  | y :: rest, k + 1, p, prev, hd, h1, hpl, hprev, hk => by
    obtain ⟨g1, g2, g3⟩ := drop_cons hd
    have en : w64 ((p : Int) + 1) = ((p + 1 : Nat) : Int) := by rw [w64_of (by omega) (by omega)]; omega
    have em : w64 ((p : Int) - 1) = ((p - 1 : Nat) : Int) := by rw [w64_of (by omega) (by omega)]; omega
    have hnext : l[p + 1 - 1]? = some y := by rw [Nat.add_sub_cancel]; exact g1
    have hstep : (decide (y.1 = prev.1) && (decide (y.2.1 = prev.2.1) && decide (y.2.2 = prev.2.2))) = decide (y = prev) := by
      rw [Bool.eq_iff_iff]
      simp [Prod.ext_iff]
    have ht : l.take (p + 1) = l.take p ++ [y] := by
      rw [List.take_add_one, g1]
      rfl
    rw [slices_Compact_impl_Shape_impl_Shape_l4, dec_lt_t (by omega), dec_le_t (by omega), cond_true, Bool.and_self, cond_true, Int.toNat_natCast, g1, Option.bind_some, em, dec_le_t (by omega), dec_lt_t (by omega), Bool.and_self, cond_true, Int.toNat_natCast, hprev, Option.bind_some, hstep]
    by_cases e : y = prev
    · rw [decide_eq_true e, cond_true, dec_le_t (show ((p : Nat) : Int) ≤ (l.length : Nat) by omega), Bool.and_self, cond_true]
      obtain ⟨w', cur', k2, i1, i2, i3, i4⟩ := cpt_l9 (α := α) l hl rest k p p (p + 1) l y g2 h1 (by omega) (by omega) (by omega) rfl rfl hnext (by simp at hk; omega)
      have i5 := fun b r => i4 b r
      rw [show ((p + 1 - p : Nat) : Int) = 1 by omega] at i5
      rw [i5, dec_le_t (by omega), dec_le_t (by omega), Bool.and_self, cond_true, Int.toNat_natCast]
      have hlen : ((cur'.take w' ++ List.replicate (cur'.length - w') ((0 : Int), (0 : Int), (0 : Int))) ++ cur'.drop (w' + (cur'.length - w'))).length = cur'.length := by simp; omega
      rw [hlen, dec_le_t (by omega), Bool.and_self, cond_true]
      have htk : ((cur'.take w' ++ List.replicate (cur'.length - w') ((0 : Int), (0 : Int), (0 : Int))) ++ cur'.drop (w' + (cur'.length - w'))).take (w' - 0) = cur'.take w' := by
        rw [Nat.sub_zero, List.append_assoc, List.take_append_of_le_length (by simp; omega), List.take_take, Nat.min_self]
      rw [htk, i3]
      congr 2
      conv => rhs; unfold ddR
      rw [if_pos e]
    · rw [decide_eq_false e, cond_false, en, cpt_l4 l hl r rest k (p + 1) y g2 (by omega) (by omega) hnext (by simp at hk; omega), ht, List.append_assoc]
      congr 2
      conv => rhs; unfold ddR
      rw [if_neg e]
      rfl
  | _, 0, _, _, _, _, _, _, hk => by omega

theorem compact_eq (k : Nat) {l : List (Int × Int × Int)} (hl : l.length ≤ 1000000) (hk : 2000010 < k) (r : List (Int × Int × Int) → Option α) : slices_Compact_impl_Shape_impl_Shape k l r = r (ddS l) := by
  unfold slices_Compact_impl_Shape_impl_Shape
  match l with
  | [] => rfl
  | [x] => rfl
  | x :: y :: t =>
    rw [dec_lt_f (by simp; omega), cond_false]
    have := cpt_l4 (α := α) (x :: y :: t) hl r (y :: t) k 1 x rfl (by omega) (by simp) rfl (by simp only [List.length_cons] at hl ⊢; omega)
    simpa [ddS] using this

theorem tdiv_w {n L : Int} (h1 : 1 ≤ n) (h2 : n ≤ 200) (hL : 1 ≤ L) : w64 (Int.tdiv n L) = n / L ∧ 0 ≤ n / L ∧ n / L ≤ 200 := by
  have e : Int.tdiv n L = n / L := Int.tdiv_eq_ediv_of_nonneg (by omega)
  have a := Int.ediv_nonneg (show 0 ≤ n by omega) (show 0 ≤ L by omega)
  have b := Int.ediv_le_self L (show 0 ≤ n by omega)
  rw [e, w64_of (by omega) (by omega)]
  exact ⟨rfl, a, by omega⟩

theorem tmod_d {n L : Int} (h1 : 1 ≤ n) : decide (Int.tmod n L = 0) = decide (n % L = 0) := by
  rw [Int.tmod_eq_emod_of_nonneg (by omega)]

theorem trip_dec (x y z : Int) (s : Int × Int × Int) : (decide (s.1 = x) && (decide (s.2.1 = y) && decide (s.2.2 = z))) = decide (s = (x, y, z)) := by
  rw [Bool.eq_iff_iff]
  simp [Prod.ext_iff]

theorem sp_l9 {n L : Int} (h1 : 1 ≤ n) (h2 : n ≤ 200) (hL : 1 ≤ L) (hd : n % L = 0) : ∀ (m k : Nat) (x : Int) (out : List (Int × Int × Int)) (b : Int → Int → Int → List (Int × Int × Int) → Option α) (r0 : Int → Option α) (r1 : List (Int × Int × Int) → Int → Option α), x + m = n / L → 0 ≤ x → out.length + m ≤ 1000000 → m + 1000000200 < k →
    spec_TrianglesOfArea_l9 k n L x out b r0 r1 = b n L (n / L) (out ++ (colA L (n / L) m x).filter fun s => decide (normT s = s))
  | 0, k + 1, x, out, b, r0, r1, hx, h0, hl, hk => by
    have hw := tdiv_w h1 h2 hL
    rw [spec_TrianglesOfArea_l9, dec_eq_f (show L ≠ 0 by omega), cond_false, hw.1, dec_lt_f (by omega), cond_false, show x = n / L by omega]
    simp [colA]
  | m + 1, k + 1, x, out, b, r0, r1, hx, h0, hl, hk => by
    have hw := tdiv_w h1 h2 hL
    have hg : GoodS n (L, x, n / L) := ⟨hL, h0, by simp only; omega, Int.mul_ediv_cancel' (Int.dvd_of_emod_eq_zero hd)⟩
    have hT := (isT_of_good h2 hg).1
    have ne := (normal_eq (α := α) k (by omega) hT).1
    have en : w64 (x + 1) = x + 1 := w64_of (by omega) (by omega)
    have hb : decide (out.length + 1 ≤ big) = true := decide_eq_true (by rw [big_val]; omega)
    rw [spec_TrianglesOfArea_l9, dec_eq_f (show L ≠ 0 by omega), cond_false, hw.1, dec_lt_t (by omega), cond_true, cond_false]
    simp only [spec_l04Of, ne, en, hb, cond_true]
    have e : (decide ((normS 0 0 L 0 x (n / L)).1 = L) && (decide ((normS 0 0 L 0 x (n / L)).2.1 = x) && decide ((normS 0 0 L 0 x (n / L)).2.2 = n / L))) = decide (normT (L, x, n / L) = (L, x, n / L)) := trip_dec L x (n / L) _
    rw [e]
    have hc : colA L (n / L) (m + 1) x = (L, x, n / L) :: colA L (n / L) m (x + 1) := rfl
    rw [hc]
    by_cases hn : normT (L, x, n / L) = (L, x, n / L)
    · rw [decide_eq_true hn, cond_true, sp_l9 h1 h2 hL hd m k (x + 1) _ b r0 r1 (by omega) (by omega) (by simp; omega) (by omega), List.filter_cons, if_pos (by simpa using hn), List.append_assoc]
      rfl
    · rw [decide_eq_false hn, cond_false, sp_l9 h1 h2 hL hd m k (x + 1) _ b r0 r1 (by omega) (by omega) (by omega) (by omega), List.filter_cons, if_neg (by simpa using hn)]
  | _, 0, _, _, _, _, _, _, _, _, hk => by omega

theorem sp_l5 {n : Int} (h1 : 1 ≤ n) (h2 : n ≤ 200) : ∀ (m k : Nat) (L : Int) (out : List (Int × Int × Int)) (b : Int → Int → List (Int × Int × Int) → Option α) (r0 : Int → Option α) (r1 : List (Int × Int × Int) → Int → Option α), L + m = n + 1 → 1 ≤ L → out.length + 200 * m ≤ 900000 → m + 1000000500 < k →
    spec_TrianglesOfArea_l5 k n L out b r0 r1 = b n (n + 1) (out ++ (allA n m L).filter fun s => decide (normT s = s))
  | 0, k + 1, L, out, b, r0, r1, hx, h0, hl, hk => by
    rw [spec_TrianglesOfArea_l5, dec_le_f (by omega), cond_false, show L = n + 1 by omega]
    simp [allA]
  | m + 1, k + 1, L, out, b, r0, r1, hx, h0, hl, hk => by
    have hw := tdiv_w h1 h2 h0
    have en : w64 (L + 1) = L + 1 := w64_of (by omega) (by omega)
    rw [spec_TrianglesOfArea_l5, dec_le_t (by omega), cond_true, dec_eq_f (show L ≠ 0 by omega), cond_false, tmod_d h1]
    have hc : allA n (m + 1) L = (if n % L = 0 then colA L (n / L) (n / L).toNat 0 else []) ++ allA n m (L + 1) := rfl
    rw [hc]
    by_cases hd : n % L = 0
    · have hlen : ((colA L (n / L) (n / L).toNat 0).filter fun s => decide (normT s = s)).length ≤ 200 := by
        have a := List.length_filter_le (fun s => decide (normT s = s)) (colA L (n / L) (n / L).toNat 0)
        rw [colA_len] at a
        omega
      rw [decide_eq_true hd, Bool.not_true, cond_false, if_pos hd, sp_l9 h1 h2 h0 hd (n / L).toNat k 0 out _ r0 r1 (by omega) (by omega) (by omega) (by omega), en, sp_l5 h1 h2 m k (L + 1) _ b r0 r1 (by omega) (by omega) (by rw [List.length_append]; omega) (by omega), List.filter_append, List.append_assoc]
    · rw [decide_eq_false hd, Bool.not_false, cond_true, if_neg hd, en, sp_l5 h1 h2 m k (L + 1) _ b r0 r1 (by omega) (by omega) (by omega) (by omega)]
      rfl
  | _, 0, _, _, _, _, _, _, _, _, hk => by omega

theorem im_l9 {n L : Int} (h1 : 1 ≤ n) (h2 : n ≤ 200) (hL : 1 ≤ L) (hd : n % L = 0) : ∀ (m k : Nat) (x : Int) (out : List (Int × Int × Int)) (b : Int → Int → Int → Int → List (Int × Int × Int) → Option α) (r0 : Int → Option α) (r1 : List (Int × Int × Int) → Int → Option α), x + m = n / L → 0 ≤ x → out.length + m ≤ 1000000 → m + 1000000200 < k →
    impl_TrianglesOfArea_l9 k n L (n / L) x out b r0 r1 = b n L (n / L) (n / L) (out ++ (colA L (n / L) m x).map normT)
  | 0, k + 1, x, out, b, r0, r1, hx, h0, hl, hk => by
    rw [impl_TrianglesOfArea_l9, dec_lt_f (by omega), cond_false, show x = n / L by omega]
    simp [colA]
  | m + 1, k + 1, x, out, b, r0, r1, hx, h0, hl, hk => by
    have hw := tdiv_w h1 h2 hL
    have hg : GoodS n (L, x, n / L) := ⟨hL, h0, by simp only; omega, Int.mul_ediv_cancel' (Int.dvd_of_emod_eq_zero hd)⟩
    have hT := (isT_of_good h2 hg).1
    have ne := (normal_eq (α := α) k (by omega) hT).2
    have en : w64 (x + 1) = x + 1 := w64_of (by omega) (by omega)
    have hb : decide (out.length + 1 ≤ big) = true := decide_eq_true (by rw [big_val]; omega)
    rw [impl_TrianglesOfArea_l9, dec_lt_t (by omega), cond_true, dec_eq_f (show L ≠ 0 by omega), cond_false, hw.1]
    simp only [impl_Shape_triangle, ne, en, hb, cond_true]
    have hc : colA L (n / L) (m + 1) x = (L, x, n / L) :: colA L (n / L) m (x + 1) := rfl
    rw [hc, im_l9 h1 h2 hL hd m k (x + 1) _ b r0 r1 (by omega) (by omega) (by simp; omega) (by omega), List.map_cons, List.append_assoc]
    rfl
  | _, 0, _, _, _, _, _, _, _, _, hk => by omega

theorem im_l5 {n : Int} (h1 : 1 ≤ n) (h2 : n ≤ 200) : ∀ (m k : Nat) (L : Int) (out : List (Int × Int × Int)) (b : Int → Int → List (Int × Int × Int) → Option α) (r0 : Int → Option α) (r1 : List (Int × Int × Int) → Int → Option α), L + m = n + 1 → 1 ≤ L → out.length + 200 * m ≤ 900000 → m + 1000000500 < k →
    impl_TrianglesOfArea_l5 k n L out b r0 r1 = b n (n + 1) (out ++ (allA n m L).map normT)
  | 0, k + 1, L, out, b, r0, r1, hx, h0, hl, hk => by
    rw [impl_TrianglesOfArea_l5, dec_le_f (by omega), cond_false, show L = n + 1 by omega]
    simp [allA]
  | m + 1, k + 1, L, out, b, r0, r1, hx, h0, hl, hk => by
    have hw := tdiv_w h1 h2 h0
    have en : w64 (L + 1) = L + 1 := w64_of (by omega) (by omega)
    rw [impl_TrianglesOfArea_l5, dec_le_t (by omega), cond_true, dec_eq_f (show L ≠ 0 by omega), cond_false, tmod_d h1]
    have hc : allA n (m + 1) L = (if n % L = 0 then colA L (n / L) (n / L).toNat 0 else []) ++ allA n m (L + 1) := rfl
    rw [hc]
    by_cases hd : n % L = 0
    · have hlen : ((colA L (n / L) (n / L).toNat 0).map normT).length ≤ 200 := by
        rw [List.length_map, colA_len]
        omega
      rw [decide_eq_true hd, Bool.not_true, cond_false, cond_false, if_pos hd, hw.1, im_l9 h1 h2 h0 hd (n / L).toNat k 0 out _ r0 r1 (by omega) (by omega) (by omega) (by omega), en, im_l5 h1 h2 m k (L + 1) _ b r0 r1 (by omega) (by omega) (by rw [List.length_append]; omega) (by omega), List.map_append, List.append_assoc]
    · rw [decide_eq_false hd, Bool.not_false, cond_true, if_neg hd, en, im_l5 h1 h2 m k (L + 1) _ b r0 r1 (by omega) (by omega) (by omega) (by omega)]
      rfl
  | _, 0, _, _, _, _, _, _, _, _, hk => by omega

theorem shapes_ok (k : Nat) (hk : 4 ≤ k) : SortOK (fun (p q : Int × Int × Int) => impl_shapeOrder (α := Int) k p.1 p.2.1 p.2.2 q.1 q.2.1 q.2.2) ∧ ∀ x y, Go.Proofs.ltOf (cfOf fun (p q : Int × Int × Int) => impl_shapeOrder (α := Int) k p.1 p.2.1 p.2.2 q.1 q.2.1 q.2.2) x y = bef x y := by
  have hc : ∀ x y, cfOf (fun (p q : Int × Int × Int) => impl_shapeOrder (α := Int) k p.1 p.2.1 p.2.2 q.1 q.2.1 q.2.2) x y = ordS x y := fun x y => by
    show (impl_shapeOrder (α := Int) k x.1 x.2.1 x.2.2 y.1 y.2.1 y.2.2 some).getD 0 = ordS x y
    rw [impl_order_eq k hk]
    rfl
  have hb : ∀ x y, Go.Proofs.ltOf (cfOf fun (p q : Int × Int × Int) => impl_shapeOrder (α := Int) k p.1 p.2.1 p.2.2 q.1 q.2.1 q.2.2) x y = bef x y := fun x y => by
    unfold Go.Proofs.ltOf
    rw [hc, ordS_bef]
  refine ⟨⟨fun x y => ⟨ordS x y, impl_order_eq k hk _ _ _ _ _ _ _⟩, ⟨fun x => by rw [hb]; exact bef_irr x, fun x y z h1 h2 => ?_, fun x y z h1 h2 => ?_⟩, fun x y h1 h2 => ?_⟩, hb⟩
  · rw [hb] at *
    exact bef_trans h1 h2
  · rw [hb] at *
    exact bef_nt h2 h1
  · rw [hb] at h1 h2
    exact bef_eq h1 h2

theorem sortShapes (k : Nat) (hk : 4 ≤ k) {l : List (Int × Int × Int)} (hl : l.length ≤ 1000000) : ∃ s : List (Int × Int × Int), s.length = l.length ∧ s.Pairwise (fun x y => bef y x = false) ∧ (∀ z, z ∈ s ↔ z ∈ l) ∧ ∀ r : List (Int × Int × Int) → Option α, slices_SortFunc_impl_Shape_impl_Shape_1F_impl_shapeOrder k l r = r s := by
  obtain ⟨h1, h2⟩ := shapes_ok k hk
  refine ⟨sortBy (cfOf fun (p q : Int × Int × Int) => impl_shapeOrder k p.1 p.2.1 p.2.2 q.1 q.2.1 q.2.2) l, List.length_mergeSort _, ?_, fun z => (List.mergeSort_perm _ _).mem_iff, fun r => ?_⟩
  · have := List.pairwise_mergeSort (le := fun x y => !(bef y x)) (fun a b c h1 h2 => by
      simp only [Bool.not_eq_true'] at *
      exact bef_nt h1 h2) (fun a b => by
      cases h1 : bef b a with
      | false => rfl
      | true =>
        have : bef a b = false := by
          rw [bef_iff] at h1
          rw [bef_false]
          omega
        simp [this]) l
    unfold sortBy
    have e : (fun x y => !(Go.Proofs.ltOf (cfOf fun (p q : Int × Int × Int) => impl_shapeOrder (α := Int) k p.1 p.2.1 p.2.2 q.1 q.2.1 q.2.2)) y x) = fun x y => !(bef y x) := by
      funext x y
      rw [h2]
    rw [e]
    exact this.imp fun h => by simpa using h
  · unfold slices_SortFunc_impl_Shape_impl_Shape_1F_impl_shapeOrder sortK
    rw [if_pos ⟨h1, by omega⟩]

theorem areas_both (k : Nat) (hk : 1003000000 < k) (n : Int) : (∃ z, (∀ r0 r1, spec_TrianglesOfArea (α := α) k n r0 r1 = r0 z) ∧ ∀ r0 r1, impl_TrianglesOfArea (α := α) k n r0 r1 = r0 z) ∨
    ∃ l, l.length ≤ 40000 ∧ (∀ r0 r1, spec_TrianglesOfArea (α := α) k n r0 r1 = r1 l 0) ∧ ∀ r0 r1, impl_TrianglesOfArea (α := α) k n r0 r1 = r1 l 0 := by
  simp only [spec_TrianglesOfArea, impl_TrianglesOfArea, spec_l01In_eq, impl_in_eq]
  cases hi : inB n 1 200 with
  | false => exact .inl ⟨2, fun r0 r1 => by simp, fun r0 r1 => by simp⟩
  | true =>
    obtain ⟨h1, h2⟩ := inB_iff.1 hi
    have hlen := allA_len (n := n) (by omega) h2 n.toNat 1 (by omega)
    obtain ⟨s, q1, q2, q3, q4⟩ := sortShapes (α := α) k (by omega) (l := (allA n n.toNat 1).map normT) (by rw [List.length_map]; omega)
    rw [List.length_map] at q1
    have hL := area_lists h1 h2 q2 q3
    refine .inr ⟨(allA n n.toNat 1).filter fun s => decide (normT s = s), ?_, fun r0 r1 => ?_, fun r0 r1 => ?_⟩
    · have := List.length_filter_le (fun s => decide (normT s = s)) (allA n n.toNat 1)
      omega
    · rw [Bool.not_true, cond_false, sp_l5 h1 h2 n.toNat k 1 [] _ r0 r1 (by omega) (by omega) (by simp; omega) (by omega)]
      rfl
    · rw [Bool.not_true, cond_false, im_l5 h1 h2 n.toNat k 1 [] _ r0 r1 (by omega) (by omega) (by simp; omega) (by omega), List.nil_append, q4, compact_eq k (by omega) (by omega), hL]

theorem law_TrianglesOfArea (k : Nat) (hk : 1003000000 < k) (n : Int) (r : Bool → Option α) : laws_FnExactTrianglesOfArea k n r = r true := by
  simp only [laws_FnExactTrianglesOfArea]
  rcases areas_both (α := α) k hk n with ⟨z, h1, h2⟩ | ⟨l, hl, h1, h2⟩
  · simp [h1, h2, laws_eqShapeS_0N_1N, laws_markShapeS_0N, laws_heldShapeS_0N]
  · simp only [h1, h2]
    have hb : l.length ≤ big := by rw [big_val]; omega
    rw [eqShapeS_same k l _ hb (by omega), markShapeS_ok k l 1 _ hb (by omega) (by omega) (by omega), heldShapeS_ok k l.length 1 _ hb (by omega) (by omega) (by omega), eqShapeS_same k l _ hb (by omega), heldShapeS_ok k l.length 1 _ hb (by omega) (by omega) (by omega)]
    rw [dec_lt_f (by omega)]
    simp

end Go.Sh
