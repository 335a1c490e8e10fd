/- Plain laws: what the readings without memory answer. -/
import Derived.Test.YtglpddfibcikgaaShLPointMaps
namespace Go.Sh
open Go Go.Ev

variable {α : Type}

theorem spec_l01In_eq (k : Nat) (n low high : Int) (r : Bool → Option α) : spec_l01In k n low high r = r (inB n low high) := by
  unfold spec_l01In inB
  cases decide (low ≤ n) <;> rfl

theorem spec_l01Fits_eq (k : Nat) (n : Int) (r : Bool → Option α) : spec_l01Fits k n r = r (crd n) := by
  simp only [spec_l01Fits, spec_l01In_eq]; rfl

theorem spec_l01Is_eq (k : Nat) (a b : Int) (r : Bool → Option α) : spec_l01Is k a b r = r (crd a && crd b) := by
  simp only [spec_l01Is, spec_l01Fits_eq]
  cases crd a <;> rfl

theorem impl_in_eq (k : Nat) (n low high : Int) (r : Bool → Option α) : impl_in k n low high r = r (inB n low high) := by
  unfold impl_in inB
  cases decide (low ≤ n) <;> rfl

theorem impl_isCoord_eq (k : Nat) (n : Int) (r : Bool → Option α) : impl_isCoord k n r = r (crd n) := by
  simp only [impl_isCoord, impl_in_eq]; rfl

theorem impl_IsPoint_eq (k : Nat) (a b : Int) (r : Bool → Option α) : impl_IsPoint k a b r = r (crd a && crd b) := by
  simp only [impl_IsPoint, impl_isCoord_eq]
  cases crd a <;> rfl

theorem spec_l01Matrix_eq (k : Nat) (a b c d : Int) (r : Bool → Option α) : spec_l01Matrix k a b c d r = r (crd a && (crd b && (crd c && crd d))) := by
  simp only [spec_l01Matrix, spec_l01Fits_eq]
  cases crd a <;> cases crd b <;> cases crd c <;> rfl

theorem impl_points_find (k : Nat) (s : List (Int × Int)) (hs : s.length ≤ big) (hk : s.length < k) (r : Bool → Option α) : impl_points k s r = r (s.all fun e => crd e.1 && crd e.2) := by
  unfold impl_points slices_ContainsFunc_impl_Point_impl_Point_1F_impl_points_1 slices_IndexFunc_impl_Point_impl_Point_1F_impl_points_1
  have h := find_loop (α := α) (p := fun e : Int × Int => !(crd e.1 && crd e.2)) (L := slices_IndexFunc_impl_Point_impl_Point_1F_impl_points_1_l2)
    (fun k x i s b r => by simp only [slices_IndexFunc_impl_Point_impl_Point_1F_impl_points_1_l2, impl_points_1, impl_IsPoint_eq]) s k 0 s
  have h0 : ((0 : Nat) : Int) = 0 := rfl
  rw [h0] at h
  rw [h _ _ (by simp) hs (by omega) hk]
  cases hf : s.findIdx? (fun e : Int × Int => !(crd e.1 && crd e.2)) with
  | none =>
    rw [List.findIdx?_eq_none_iff] at hf
    have : (s.all fun e => crd e.1 && crd e.2) = true := List.all_eq_true.2 fun e he => by simpa using hf e he
    simp [this]
  | some j =>
    rw [List.findIdx?_eq_some_iff_getElem] at hf
    obtain ⟨hj, hp, _⟩ := hf
    have : (s.all fun e => crd e.1 && crd e.2) = false := by
      rw [List.all_eq_false]
      exact ⟨s[j], List.getElem_mem hj, by cases h1 : crd s[j].1 <;> cases h2 : crd s[j].2 <;> simp_all⟩
    rw [this]
    simp

theorem impl_points2 (k : Nat) (hk : 3 ≤ k) (a b c d : Int) (r : Bool → Option α) : impl_points k [(a, b), (c, d)] r = r (crd a && crd b && (crd c && crd d)) := by
  rw [impl_points_find _ _ (by rw [big_val]; simp) (by simp; omega)]
  simp

theorem impl_IsMatrix_eq (k : Nat) (hk : 3 ≤ k) (a b c d : Int) (r : Bool → Option α) : impl_IsMatrix k a b c d r = r (crd a && (crd b && (crd c && crd d))) := by
  simp only [impl_IsMatrix, impl_points2 k hk, Bool.and_assoc]

theorem spec_l01Rest_eq (k : Nat) (n x : Int) (r : Int → Option α) (hn : 0 < n) (hn2 : n ≤ 1000000000000000000) : spec_l01Rest k n x r = r (x % n) := by
  have h1 : -n < Int.tmod x n := Int.lt_tmod_of_pos x hn
  have h2 : Int.tmod x n < n := Int.tmod_lt_of_pos x hn
  simp only [spec_l01Rest, dec_eq_f (show n ≠ 0 by omega), cond_false]
  rw [w64_of (by omega) (by omega), rest_eq hn]

theorem impl_floor_eq (k : Nat) (a b : Int) (r : Int → Option α) (hb : 0 < b) (ha : -1000000000000000000 ≤ a) (ha2 : a ≤ 1000000000000000000) : impl_floor k a b r = r (a / b) := by
  have hq := tdiv_abs a b
  simp only [impl_floor, dec_eq_f (show b ≠ 0 by omega), cond_false, w64_of (n := Int.tdiv a b) (by omega) (by omega), w64_of (n := Int.tdiv a b - 1) (by omega) (by omega)]
  rw [← tdiv_floor a b hb]
  cases (!decide (Int.tmod a b = 0)) <;> cases (!(decide (a < 0) == decide (b < 0))) <;> rfl

theorem impl_mod_eq (k : Nat) (a b : Int) (r : Int → Option α) (hb : 0 < b) (hb2 : b ≤ 1000000000000000000) (ha : -1000000000000000000 ≤ a) (ha2 : a ≤ 1000000000000000000) : impl_mod k a b r = r (a % b) := by
  simp only [impl_mod, impl_floor_eq k a b _ hb ha ha2]
  have h1 := Int.emod_add_mul_ediv a b
  have h2 := Int.emod_nonneg a (b := b) (by omega)
  have h3 := Int.emod_lt_of_pos a hb
  rw [w64_of (n := b * (a / b)) (by omega) (by omega), w64_of (by omega) (by omega)]
  congr 1
  omega

theorem impl_size_eq (k : Nat) (n : Int) (r : Int → Option α) (h0 : -1000000000000000000 ≤ n) (h1 : n ≤ 1000000000000000000) : impl_size k n r = r (max n (-n)) := by
  simp only [impl_size]
  rw [w64_of (by omega) (by omega), Int.zero_sub]

def detP (a b c d : Int) : Int := a * d - b * c

def gcdI (a b : Int) : Int := (Int.gcd a b : Int)

theorem gcdI_le {a b B : Int} (ha : -B ≤ a) (ha1 : a ≤ B) (hb : -B ≤ b) (hb1 : b ≤ B) : 0 ≤ gcdI a b ∧ gcdI a b ≤ B := by
  unfold gcdI
  refine ⟨by omega, ?_⟩
  by_cases h : a = 0
  · subst h
    rw [Int.gcd_zero_left]
    omega
  · have := Int.gcd_le_natAbs_left (a := a) b h
    omega

theorem gcdI_pos {a b : Int} (h : a ≠ 0 ∨ b ≠ 0) : 0 < gcdI a b := by
  unfold gcdI
  have : Int.gcd a b ≠ 0 := fun e => by
    rw [Int.gcd_eq_zero_iff] at e
    omega
  omega

theorem gcd_step (a b : Int) : Int.gcd b (Int.tmod a b) = Int.gcd a b := by
  unfold Int.gcd
  rw [Int.natAbs_tmod, Nat.gcd_comm, ← Nat.gcd_rec, Nat.gcd_comm]

theorem tmod_lt_abs (a : Int) {b : Int} (h : b ≠ 0) : (Int.tmod a b).natAbs < b.natAbs := by
  rw [Int.natAbs_tmod]
  exact Nat.mod_lt _ (by omega)

theorem spec_gcd_l1 : ∀ (n k : Nat) (a b : Int) b0 (r0 : Int → Option α), b.natAbs ≤ n → n < k → ∃ g : Int, g.natAbs = Int.gcd a b ∧ spec_l01Gcd_l1 k a b b0 r0 = b0 g 0
  | n, k + 1, a, b, b0, r0, hn, hk => by
    by_cases h : b = 0
    · subst h
      exact ⟨a, by simp, by simp [spec_l01Gcd_l1]⟩
    · cases n with
      | zero => omega
      | succ n =>
        have := tmod_lt_abs a h
        obtain ⟨g, h1, h2⟩ := spec_gcd_l1 n k b (Int.tmod a b) b0 r0 (by omega) (by omega)
        refine ⟨g, by rw [h1, gcd_step], ?_⟩
        rw [spec_l01Gcd_l1, dec_eq_f h]
        exact h2
  | _, 0, _, _, _, _, _, hk => by omega

theorem impl_gcd_l1_ok : ∀ (n k : Nat) (a b : Int) b0 (r0 : Int → Option α), b.natAbs ≤ n → n < k → ∃ g : Int, g.natAbs = Int.gcd a b ∧ impl_gcd_l1 k a b b0 r0 = b0 g 0
  | n, k + 1, a, b, b0, r0, hn, hk => by
    by_cases h : b = 0
    · subst h
      exact ⟨a, by simp, by simp [impl_gcd_l1]⟩
    · cases n with
      | zero => omega
      | succ n =>
        have := tmod_lt_abs a h
        obtain ⟨g, h1, h2⟩ := impl_gcd_l1_ok n k b (Int.tmod a b) b0 r0 (by omega) (by omega)
        refine ⟨g, by rw [h1, gcd_step], ?_⟩
        rw [impl_gcd_l1, dec_eq_f h]
        exact h2
  | _, 0, _, _, _, _, _, hk => by omega

theorem spec_l01Gcd_eq (k : Nat) (a b : Int) (r : Int → Option α) (ha : -1000000000 ≤ a) (ha1 : a ≤ 1000000000) (hb : -1000000000 ≤ b) (hb1 : b ≤ 1000000000) (hk : 1000000000 < k) : spec_l01Gcd k a b r = r (gcdI a b) := by
  unfold spec_l01Gcd
  obtain ⟨g, h1, h2⟩ := spec_gcd_l1 (α := α) 1000000000 k a b (fun a2 b_2 => r (max a2 (w64 (0 - a2)))) r (by omega) hk
  have hb := gcdI_le ha ha1 hb hb1
  unfold gcdI at hb ⊢
  rw [h2, w64_of (by omega) (by omega)]
  congr 1
  omega

theorem impl_gcd_eq (k : Nat) (a b : Int) (r : Int → Option α) (ha : -1000000000 ≤ a) (ha1 : a ≤ 1000000000) (hb : -1000000000 ≤ b) (hb1 : b ≤ 1000000000) (hk : 1000000000 < k) : impl_gcd k a b r = r (gcdI a b) := by
  unfold impl_gcd
  obtain ⟨g, h1, h2⟩ := impl_gcd_l1_ok (α := α) 1000000000 k a b (fun a2 b_2 => impl_size k a2 fun v => r v) r (by omega) hk
  have hb := gcdI_le ha ha1 hb hb1
  unfold gcdI at hb ⊢
  rw [h2, impl_size_eq _ _ _ (by omega) (by omega)]
  congr 1
  omega

/-- A point's primitive one. -/
def prim (a b : Int) : Int × Int := (Int.tdiv a (gcdI a b), Int.tdiv b (gcdI a b))

theorem spec_l01Part_eq (k : Nat) (a b : Int) (r : Int → Int → Option α) (ha : -1000000000 ≤ a) (ha1 : a ≤ 1000000000) (hb : -1000000000 ≤ b) (hb1 : b ≤ 1000000000) (hk : 1000000000 < k) (h : a ≠ 0 ∨ b ≠ 0) : spec_l01Part k a b r = r (prim a b).1 (prim a b).2 := by
  have hp := gcdI_pos h
  have h1 := tdiv_abs a (gcdI a b)
  have h2 := tdiv_abs b (gcdI a b)
  unfold spec_l01Part prim
  rw [spec_l01Gcd_eq k a b _ ha ha1 hb hb1 hk]
  simp only
  rw [dec_eq_f (show gcdI a b ≠ 0 by omega), w64_of (by omega) (by omega), w64_of (by omega) (by omega)]
  rfl

theorem impl_primitive_eq (k : Nat) (a b : Int) (r : Int → Int → Option α) (ha : -1000000000 ≤ a) (ha1 : a ≤ 1000000000) (hb : -1000000000 ≤ b) (hb1 : b ≤ 1000000000) (hk : 1000000000 < k) (h : a ≠ 0 ∨ b ≠ 0) : impl_Point_primitive k a b r = r (prim a b).1 (prim a b).2 := by
  have hp := gcdI_pos h
  have h1 := tdiv_abs a (gcdI a b)
  have h2 := tdiv_abs b (gcdI a b)
  unfold impl_Point_primitive impl_Point_length prim
  rw [impl_gcd_eq k a b _ ha ha1 hb hb1 hk]
  simp only
  rw [dec_eq_f (show gcdI a b ≠ 0 by omega), w64_of (by omega) (by omega), w64_of (by omega) (by omega)]
  rfl

theorem less_w {a b : Int} (ha : -1000000000 ≤ a) (ha1 : a ≤ 1000000000) (hb : -1000000000 ≤ b) (hb1 : b ≤ 1000000000) : w64 (a + w64 (-1 * b)) = a - b := by
  rw [w64_of (n := -1 * b) (by omega) (by omega), w64_of (by omega) (by omega)]
  omega

theorem spec_less_eq (k : Nat) (a b c d : Int) (r : Int → Int → Option α) (ha : -1000000000 ≤ a ∧ a ≤ 1000000000) (hb : -1000000000 ≤ b ∧ b ≤ 1000000000) (hc : -1000000000 ≤ c ∧ c ≤ 1000000000) (hd : -1000000000 ≤ d ∧ d ≤ 1000000000) : spec_l01Plus k a b c d (-1) r = r (a - c) (b - d) := by
  unfold spec_l01Plus
  rw [less_w ha.1 ha.2 hc.1 hc.2, less_w hb.1 hb.2 hd.1 hd.2]

theorem impl_less_eq (k : Nat) (a b c d : Int) (r : Int → Int → Option α) (ha : -1000000000 ≤ a ∧ a ≤ 1000000000) (hb : -1000000000 ≤ b ∧ b ≤ 1000000000) (hc : -1000000000 ≤ c ∧ c ≤ 1000000000) (hd : -1000000000 ≤ d ∧ d ≤ 1000000000) : impl_Point_less k a b c d r = r (a - c) (b - d) := by
  unfold impl_Point_less impl_Point_plus
  rw [less_w ha.1 ha.2 hc.1 hc.2, less_w hb.1 hb.2 hd.1 hd.2]

theorem det_w {a b c d : Int} (ha : -1000000000 ≤ a ∧ a ≤ 1000000000) (hb : -1000000000 ≤ b ∧ b ≤ 1000000000) (hc : -1000000000 ≤ c ∧ c ≤ 1000000000) (hd : -1000000000 ≤ d ∧ d ≤ 1000000000) : w64 (w64 (a * d) - w64 (b * c)) = a * d - b * c ∧ -2000000000000000000 ≤ a * d - b * c ∧ a * d - b * c ≤ 2000000000000000000 := by
  have h1 := mul_bound ha.1 ha.2 hd.1 hd.2
  have h2 := mul_bound hb.1 hb.2 hc.1 hc.2
  rw [w64_of (n := a * d) (by omega) (by omega), w64_of (n := b * c) (by omega) (by omega), w64_of (by omega) (by omega)]
  exact ⟨rfl, by omega, by omega⟩

theorem euclid_both : ∀ (m : Nat) (n β s u v rest next : Int), (s = 1 ∨ s = -1) → 0 ≤ u → u ≤ n → 0 ≤ v → v ≤ n → 0 ≤ rest → rest ≤ n → 0 ≤ next → next ≤ n → n ≤ 1000000000 → u * next + v * rest = n → n ∣ s * u * β - rest → n ∣ -s * v * β - next → next ≤ m →
    ∃ X g bef : Int, -n ≤ X ∧ X ≤ n ∧ n ∣ X * β - g ∧ g = gcdI rest next ∧ (∀ k, m < k → ∀ a2 a3 p q b0 (r0 : Int → Int → Option α), spec_l01Base_l5 k n (s * u) (-s * v) rest next a2 a3 p q b0 r0 = b0 n X bef g 0 a2 a3 p q) ∧
      (∀ k, m < k → ∀ b0 (r0 : Int → Option α), impl_bezout_l2 k n rest next (s * u) (-s * v) b0 r0 = b0 n g 0 X bef)
  | m, n, β, s, u, v, rest, next, hs, hu, hu2, hv, hv2, hr, hr2, hn, hn2, hb, he, d1, d2, hm => by
    by_cases hz : next = 0
    · subst hz
      refine ⟨s * u, rest, -s * v, ?_, ?_, d1, ?_, fun k hk a2 a3 p q b0 r0 => ?_, fun k hk b0 r0 => ?_⟩
      · rcases hs with rfl | rfl <;> omega
      · rcases hs with rfl | rfl <;> omega
      · unfold gcdI; rw [Int.gcd_zero_right]; omega
      · obtain ⟨k, rfl⟩ : ∃ k', k = k' + 1 := ⟨k - 1, by omega⟩
        rw [spec_l01Base_l5]; rfl
      · obtain ⟨k, rfl⟩ : ∃ k', k = k' + 1 := ⟨k - 1, by omega⟩
        rw [impl_bezout_l2]; rfl
    · have hpos : 0 < next := by omega
      have hq : Int.tdiv rest next = rest / next := Int.tdiv_eq_ediv_of_nonneg hr
      have hq0 : 0 ≤ rest / next := Int.ediv_nonneg hr (by omega)
      have hd := ediv_bounds (a := rest) hpos
      generalize rest / next = t at hq hq0 hd
      have c1 : next * t = t * next := Int.mul_comm _ _
      have tv : 0 ≤ t * v := Int.mul_nonneg hq0 hv
      have e2 : v * (rest - t * next) + (u + t * v) * next = n := by rw [← he]; grind
      have p1 : 0 ≤ v * (rest - t * next) := Int.mul_nonneg hv (by omega)
      have p2 : (u + t * v) * 1 ≤ (u + t * v) * next := Int.mul_le_mul_of_nonneg_left (by omega) (by omega)
      have tn : 0 ≤ t * next := Int.mul_nonneg hq0 hn
      have d2' : n ∣ -s * v * β - next := d2
      have d3 : n ∣ - -s * (u + t * v) * β - (rest - t * next) := by
        have e : - -s * (u + t * v) * β - (rest - t * next) = (s * u * β - rest) - t * (-s * v * β - next) := by grind
        rw [e]
        exact Int.dvd_sub d1 (Int.dvd_trans d2 (Int.dvd_mul_left _ _))
      obtain ⟨X, g, bef, x1, x2, x3, x4, f1, f2⟩ := euclid_both (m - 1) n β (-s) v (u + t * v) next (rest - t * next) (by omega) hv hv2 (by omega) (by omega) hn hn2 (by omega) (by omega) hb e2 d2' d3 (by omega)
      have eb : -s * (-s * v) = -s * -s * v := by grind
      have ex : s * u - t * (-s * v) = - -s * (u + t * v) := by grind
      have w1 : w64 (t * (-s * v)) = t * (-s * v) := by
        have : t * (-s * v) = -s * (t * v) := by grind
        rw [this]
        rcases hs with rfl | rfl
        · exact w64_of (by omega) (by omega)
        · exact w64_of (by omega) (by omega)
      have w2 : w64 (s * u - t * (-s * v)) = - -s * (u + t * v) := by
        rw [ex]
        rcases hs with rfl | rfl
        · exact w64_of (by omega) (by omega)
        · exact w64_of (by omega) (by omega)
      have w3 : w64 (t * next) = t * next := w64_of (by omega) (by omega)
      have w4 : w64 (rest - t * next) = rest - t * next := w64_of (by omega) (by omega)
      have w5 : w64 t = t := by
        have : t * 1 ≤ t * next := Int.mul_le_mul_of_nonneg_left (by omega) hq0
        exact w64_of (by omega) (by omega)
      refine ⟨X, g, bef, x1, x2, x3, ?_, fun k hk a2 a3 p q b0 r0 => ?_, fun k hk b0 r0 => ?_⟩
      · rw [x4]; unfold gcdI
        rw [Int.gcd_sub_mul_right_right, Int.gcd_comm]
      · obtain ⟨k, rfl⟩ : ∃ k', k = k' + 1 := ⟨k - 1, by omega⟩
        rw [spec_l01Base_l5, decide_eq_false hz, Bool.not_false, cond_true, cond_false, hq, w5, w1, w2, w3, w4]
        exact f1 k (by omega) a2 a3 p q b0 r0
      · obtain ⟨k, rfl⟩ : ∃ k', k = k' + 1 := ⟨k - 1, by omega⟩
        rw [impl_bezout_l2, decide_eq_false hz, Bool.not_false, cond_true, cond_false, hq, w5, w1, w2, w3, w4]
        exact f2 k (by omega) b0 r0
  termination_by m => m
  decreasing_by omega

/-- Base point and mate: what both programs hand back. -/
theorem mate_both (k : Nat) (hk : 1000000000 < k) {a b : Int} (h0 : a ≠ 0) (ha : -1000000 ≤ a) (ha1 : a ≤ 1000000) (hb : -1000000 ≤ b) (hb1 : b ≤ 1000000) : ∃ p q : Int, 0 ≤ p ∧ p < a.natAbs ∧ -1000000000001 ≤ q ∧ q ≤ 1000000000001 ∧ (gcdI a b = 1 → a * q - b * p = 1) ∧
    (∀ r : Int → Int → Option α, spec_l01Base k a b r = r p q) ∧ (∀ r : Int → Int → Option α, impl_Point_mate k a b r = r p q) := by
  have hn : max a (w64 (0 - a)) = max a (-a) := by rw [w64_of (by omega) (by omega)]; omega
  generalize hN : max a (-a) = n at hn
  have n0 : 1 ≤ n := by omega
  have n1 : n ≤ 1000000 := by omega
  have r0 := Int.emod_nonneg b (b := n) (by omega)
  have r1 := Int.emod_lt_of_pos b (show 0 < n by omega)
  have d1 : n ∣ 1 * 1 * b - b % n := ⟨b / n, by have := Int.emod_add_mul_ediv b n; omega⟩
  have d2 : n ∣ -1 * 0 * b - n := ⟨-1, by omega⟩
  obtain ⟨X, g, bef, x1, x2, x3, x4, f1, f2⟩ := euclid_both (α := α) 1000000000 n b 1 1 0 (b % n) n (.inl rfl) (by omega) (by omega) (by omega) (by omega) r0 (by omega) (by omega) (by omega) (by omega) (by omega) d1 d2 (by omega)
  rw [show (1 : Int) * 1 = 1 from rfl, show -(1 : Int) * 0 = 0 from rfl] at f1 f2
  have p0 := Int.emod_nonneg (0 - X) (b := n) (by omega)
  have p1 := Int.emod_lt_of_pos (0 - X) (show 0 < n by omega)
  have q0 := Int.emod_nonneg X (b := n) (by omega)
  have q1 := Int.emod_lt_of_pos X (show 0 < n by omega)
  have hm := mul_bound hb hb1 (show -1000000 ≤ (0 - X) % n by omega) (show (0 - X) % n ≤ 1000000 by omega)
  have hq := tdiv_abs (1 + b * ((0 - X) % n)) a
  have epq : (0 - X % n) % n = (0 - X) % n := by
    have e := Int.emod_add_mul_ediv X n
    have : 0 - X % n = (0 - X) + n * (X / n) := by omega
    rw [this, Int.add_mul_emod_self_left]
  refine ⟨(0 - X) % n, Int.tdiv (1 + b * ((0 - X) % n)) a, p0, by omega, by omega, by omega, fun hg => ?_, fun r => ?_, fun r => ?_⟩
  · have eg : g = 1 := by
      rw [x4, ← hg]; unfold gcdI
      have e1 : Int.gcd (b % n) n = Int.gcd b n := by
        rw [Int.emod_def, Int.gcd_sub_mul_left_left]
      have e2 : Int.gcd b n = Int.gcd a b := by
        rw [Int.gcd_comm a b]
        rcases (show n = a ∨ n = -a by omega) with e | e
        · rw [e]
        · rw [e, Int.gcd_neg]
      rw [e1, e2]
    subst eg
    have e3 := Int.emod_add_mul_ediv (0 - X) n
    have hdv : a ∣ 1 + b * ((0 - X) % n) := by
      have hna : a ∣ n := by
        rcases (show n = a ∨ n = -a by omega) with e | e
        · rw [e]; exact Int.dvd_refl _
        · rw [e]; exact (Int.dvd_neg).2 (Int.dvd_refl _)
      obtain ⟨c, hc⟩ := x3
      have e4 : 1 + b * ((0 - X) % n) = n * (-c - b * ((0 - X) / n)) := by
        have e5 : (0 - X) % n = 0 - X - n * ((0 - X) / n) := by omega
        rw [e5]; grind
      rw [e4]
      exact Int.dvd_trans hna (Int.dvd_mul_right _ _)
    have := Int.mul_tdiv_cancel' hdv
    omega
  · unfold spec_l01Base
    rw [decide_eq_false h0, cond_false, hn, spec_l01Rest_eq k n b _ (by omega) (by omega), f1 k hk]
    rw [w64_of (n := 0 - X) (by omega) (by omega), spec_l01Rest_eq k n _ _ (by omega) (by omega)]
    simp only [decide_eq_false h0, cond_false]
    rw [w64_of (n := b * ((0 - X) % n)) (by omega) (by omega), w64_of (n := 1 + b * ((0 - X) % n)) (by omega) (by omega), w64_of (by omega) (by omega)]
  · unfold impl_Point_mate impl_bezout
    rw [decide_eq_false h0, cond_false, impl_size_eq _ _ _ (by omega) (by omega), hN, impl_mod_eq _ _ _ _ (by omega) (by omega) (by omega) (by omega), f2 k hk]
    simp only
    rw [impl_mod_eq _ _ _ _ (by omega) (by omega) (by omega) (by omega), impl_size_eq _ _ _ (by omega) (by omega), hN, w64_of (n := 0 - X % n) (by omega) (by omega), impl_mod_eq _ _ _ _ (by omega) (by omega) (by omega) (by omega), epq]
    simp only [cond_false]
    rw [w64_of (n := b * ((0 - X) % n)) (by omega) (by omega), w64_of (n := 1 + b * ((0 - X) % n)) (by omega) (by omega), w64_of (by omega) (by omega)]

/-- A mate of a primitive point. -/
structure IsMate (a b p q : Int) : Prop where
  det : a * q - b * p = 1
  p0 : a ≠ 0 → 0 ≤ p ∧ p < a.natAbs
  z : a = 0 → p = -b ∧ q = 0
  pb : -1000000 ≤ p ∧ p ≤ 1000000
  qb : -1000000000001 ≤ q ∧ q ≤ 1000000000001

theorem mate_ok (k : Nat) (hk : 1000000000 < k) {a b : Int} (ha : -1000000 ≤ a) (ha1 : a ≤ 1000000) (hb : -1000000 ≤ b) (hb1 : b ≤ 1000000) (hg : gcdI a b = 1) : ∃ p q : Int, IsMate a b p q ∧
    (∀ r : Int → Int → Option α, spec_l01Base k a b r = r p q) ∧ (∀ r : Int → Int → Option α, impl_Point_mate k a b r = r p q) := by
  by_cases h0 : a = 0
  · subst h0
    unfold gcdI at hg
    rw [Int.gcd_zero_left] at hg
    have w : w64 (0 - b) = -b := by rw [w64_of (by omega) (by omega)]; omega
    refine ⟨-b, 0, ⟨?_, fun h => absurd rfl h, fun _ => ⟨rfl, rfl⟩, by omega, by omega⟩, fun r => ?_, fun r => ?_⟩
    · rcases (show b = 1 ∨ b = -1 by omega) with rfl | rfl <;> rfl
    · unfold spec_l01Base; rw [decide_eq_true rfl, cond_true, w]
    · unfold impl_Point_mate; rw [decide_eq_true rfl, cond_true, w]
  · obtain ⟨p, q, h1, h2, h3, h4, h5, h6, h7⟩ := mate_both (α := α) k hk h0 ha ha1 hb hb1
    exact ⟨p, q, ⟨h5 hg, fun _ => ⟨h1, h2⟩, fun e => absurd e h0, by omega, by omega⟩, h6, h7⟩

def detS (p0 p1 q0 q1 s0 s1 : Int) : Int := (q0 - p0) * (s1 - p1) - (q1 - p1) * (s0 - p0)

def absI (x : Int) : Int := max x (-x)

/-- Which shape comes ahead. -/
def bef (x y : Int × Int × Int) : Bool := bif !decide (x.1 = y.1) then decide (x.1 < y.1) else bif !decide (x.2.1 = y.2.1) then decide (x.2.1 < y.2.1) else decide (x.2.2 < y.2.2)

/-- A code. -/
structure IsCode (l : List Int) : Prop where
  len : l.length ≤ 4096
  byte : ∀ x ∈ l, 0 ≤ x ∧ x ≤ 255

/-- How far a code is read. -/
def AtC (l : List Int) (a : Int) : Prop := 0 ≤ a ∧ a ≤ l.length

theorem mask_b (h : Int) : 0 ≤ w64 (IntKind.wrap .u64 ((BitVec.ofInt 64 h &&& BitVec.ofInt 64 1073741823).toNat : Nat)) ∧ w64 (IntKind.wrap .u64 ((BitVec.ofInt 64 h &&& BitVec.ofInt 64 1073741823).toNat : Nat)) ≤ 1073741823 := by
  have h1 : (BitVec.ofInt 64 h &&& BitVec.ofInt 64 1073741823).toNat ≤ 1073741823 := by
    rw [BitVec.toNat_and]
    exact Nat.le_trans Nat.and_le_right (by decide)
  rw [IntWalk.u64_in _ (by omega), w64_of (by omega) (by omega)]
  omega

/-- The next hash, and the number that it tells. -/
def lcg (h : Int) : Int := IntKind.wrap .u64 ((IntKind.wrap .u64 (h * 6364136223846793005)) + 1442695040888963407)

def lcgX (h : Int) : Int := w64 (IntKind.wrap .u64 ((BitVec.ofInt 64 (Int.fdiv (lcg h) (2 ^ 31)) &&& BitVec.ofInt 64 1073741823).toNat : Nat))

theorem lcgX_b (h : Int) : 0 ≤ lcgX h ∧ lcgX h ≤ 1073741823 := mask_b _

theorem next_eq (l : List Int) (a : Int) (k : Nat) (h n : Int) (r : Int → Int → Int → Option α) : spec_l01Next k l a h n r = bif decide (n < 1) then r 0 a h else bif decide (a < (l.length : Nat)) then (bif decide (0 ≤ a) && decide (a < (l.length : Nat)) then (l[a.toNat]?).bind fun e => bif decide (n = 0) then none else r (Int.tmod (w64 (lcgX h + w64 e)) n) (w64 (a + 1)) (lcg h) else none) else bif decide (n = 0) then none else r (Int.tmod (lcgX h) n) a (lcg h) := rfl

theorem next_ok {l : List Int} (hl : IsCode l) {a : Int} (ha : AtC l a) (k : Nat) (h n : Int) : ∃ v a' h', AtC l a' ∧ 0 ≤ v ∧ (v < n ∨ (n < 1 ∧ v = 0)) ∧ ∀ r : Int → Int → Int → Option α, spec_l01Next k l a h n r = r v a' h' := by
  have hlen := hl.len
  unfold AtC at ha
  by_cases h1 : n < 1
  · exact ⟨0, a, h, ha, by omega, .inr ⟨h1, rfl⟩, fun r => by rw [next_eq, dec_lt_t h1, cond_true]⟩
  · have hz : decide (n = 0) = false := decide_eq_false (by omega)
    have h1' : decide (n < 1) = false := decide_eq_false h1
    obtain ⟨m1, m2⟩ := lcgX_b h
    by_cases h2 : a < l.length
    · have hlt : a.toNat < l.length := by omega
      have hb := hl.byte l[a.toNat] (List.getElem_mem hlt)
      refine ⟨Int.tmod (lcgX h + l[a.toNat]) n, a + 1, lcg h, by unfold AtC; omega, Int.tmod_nonneg _ (by omega), .inl (Int.tmod_lt_of_pos _ (by omega)), fun r => ?_⟩
      rw [next_eq, h1', cond_false, dec_lt_t h2, cond_true, dec_le_t ha.1, Bool.and_true, cond_true, List.getElem?_eq_getElem hlt, Option.bind_some, hz, cond_false, w64_of (n := a + 1) (by omega) (by omega), w64_of (n := l[a.toNat]) (by omega) (by omega), w64_of (n := lcgX h + l[a.toNat]) (by omega) (by omega)]
    · refine ⟨Int.tmod (lcgX h) n, a, lcg h, ha, Int.tmod_nonneg _ (by omega), .inl (Int.tmod_lt_of_pos _ (by omega)), fun r => ?_⟩
      rw [next_eq, h1', cond_false, dec_lt_f (by omega), cond_false, hz, cond_false]

theorem from_l3 {l : List Int} (hl : IsCode l) : ∀ (m k i : Nat) (s h : Int) (r : Int → Int → Option α), i + m = l.length → m < k → ∃ h', ∀ (r : Int → Int → Option α), spec_l01From_l3 k i l s h (fun _ _ s1 s2 => r s1 s2) r = r s h'
  | 0, k + 1, i, s, h, r, hi, _ => ⟨h, fun r => by
    rw [spec_l01From_l3, dec_lt_f (by omega), cond_false]⟩
  | m + 1, k + 1, i, s, h, r, hi, hk => by
    have hlen := hl.len
    have en : w64 ((i : Int) + 1) = ((i + 1 : Nat) : Int) := by rw [w64_of (by omega) (by omega)]; omega
    have hlt : i < l.length := by omega
    obtain ⟨h', ih⟩ := from_l3 hl m k (i + 1) s (IntKind.wrap .u64 ((IntKind.wrap .u64 ((IntKind.wrap .u64 (h * 1099511628211)) + (IntKind.wrap .u64 l[i]))) + 107)) r (by omega) (by omega)
    refine ⟨h', fun r => ?_⟩
    rw [spec_l01From_l3, dec_lt_t (by omega), cond_true, dec_lt_t (by omega), cond_true, dec_le_t (by omega), Bool.and_true, cond_true, Int.toNat_natCast, List.getElem?_eq_getElem hlt, Option.bind_some, en]
    exact ih r
  | _, 0, _, _, _, _, _, hk => by omega

theorem from_ok {l : List Int} (hl : IsCode l) (k : Nat) (hk : 4096 < k) : ∃ h, AtC l 0 ∧ ∀ r : Int → Int → Option α, spec_l01From k l r = r 0 h := by
  have hlen := hl.len
  obtain ⟨h', e⟩ := from_l3 (α := α) hl l.length k 0 0 (IntKind.wrap .u64 (12971 + (IntKind.wrap .u64 (((List.length l) : Nat) : Int)))) (fun _ _ => none) (by omega) (by omega)
  exact ⟨h', ⟨by omega, by omega⟩, fun r => e r⟩

theorem pick_ok {l : List Int} (hl : IsCode l) {a : Int} (ha : AtC l a) (k : Nat) (h : Int) {list : List Int} (h0 : 0 < list.length) (h1 : list.length ≤ 1000) : ∃ v a' h', AtC l a' ∧ v ∈ list ∧ ∀ r : Int → Int → Int → Option α, spec_l01Pick k l a h list r = r v a' h' := by
  obtain ⟨v, a', h', i1, i2, i3, i4⟩ := next_ok (α := α) hl ha k h (list.length : Int)
  have hv : v < list.length := by omega
  have hlt : v.toNat < list.length := by omega
  refine ⟨list[v.toNat], a', h', i1, List.getElem_mem hlt, fun r => ?_⟩
  unfold spec_l01Pick
  rw [i4, dec_le_t i2, dec_lt_t hv, Bool.and_true, cond_true, List.getElem?_eq_getElem hlt, Option.bind_some]

theorem point_ok {l : List Int} (hl : IsCode l) {a : Int} (ha : AtC l a) (k : Nat) (h : Int) {most : Int} (h0 : 0 ≤ most) (h1 : most ≤ 1000000000) : ∃ x y a' h', AtC l a' ∧ (-most ≤ x ∧ x ≤ most) ∧ (-most ≤ y ∧ y ≤ most) ∧ ∀ r : Int → Int → Int → Int → Option α, spec_l01DrawPoint k l a h most r = r x y a' h' := by
  have w : w64 ((w64 (2 * most)) + 1) = 2 * most + 1 := by rw [w64_of (n := 2 * most) (by omega) (by omega), w64_of (by omega) (by omega)]
  obtain ⟨v, a1, h1', i1, i2, i3, i4⟩ := next_ok (α := α) hl ha k h (w64 ((w64 (2 * most)) + 1))
  obtain ⟨u, a2, h2', j1, j2, j3, j4⟩ := next_ok (α := α) hl i1 k h1' (w64 ((w64 (2 * most)) + 1))
  refine ⟨v - most, u - most, a2, h2', j1, by omega, by omega, fun r => ?_⟩
  unfold spec_l01DrawPoint
  rw [i4, j4, w64_of (n := v - most) (by omega) (by omega), w64_of (n := u - most) (by omega) (by omega)]

theorem size_ok {l : List Int} (hl : IsCode l) {a : Int} (ha : AtC l a) (k : Nat) (h : Int) : ∃ v a' h', AtC l a' ∧ 3 ≤ v ∧ v ≤ 1000000 ∧ ∀ r : Int → Int → Int → Option α, spec_l01Size k l a h r = r v a' h' := by
  obtain ⟨u, a2, h2, j1, j2, j3⟩ := pick_ok (α := α) hl ha k h (list := [3, 6, 12, 100, 1000, 1000000]) (by simp) (by simp)
  refine ⟨u, a2, h2, j1, ?_, ?_, fun r => ?_⟩
  · simp only [List.mem_cons, List.not_mem_nil, or_false] at j2; omega
  · simp only [List.mem_cons, List.not_mem_nil, or_false] at j2; omega
  · unfold spec_l01Size
    rw [j3]

theorem bad_ok {l : List Int} (hl : IsCode l) {a : Int} (ha : AtC l a) (k : Nat) (h x y : Int) : ∃ x' y' a' h', AtC l a' ∧ ∀ r : Int → Int → Int → Int → Option α, spec_l01Bad k l a h x y r = r x' y' a' h' := by
  obtain ⟨v, a1, h1', i1, i2, i3, i4⟩ := next_ok (α := α) hl ha k h 40
  by_cases hv : v = 0
  · obtain ⟨u, a2, h2, j1, j2, j3, j4⟩ := next_ok (α := α) hl i1 k h1' 2
    obtain ⟨z, a3, h3, q1, q2, q3⟩ := pick_ok (α := α) hl j1 k h2 (list := [1000001, (-1000001), 1099511627776]) (by simp) (by simp)
    rcases (show u = 0 ∨ u = 1 by omega) with rfl | rfl
    · refine ⟨z, y, a3, h3, q1, fun r => ?_⟩
      unfold spec_l01Bad
      rw [i4, decide_eq_true hv, cond_true, j4, q3]
      simp
    · refine ⟨x, z, a3, h3, q1, fun r => ?_⟩
      unfold spec_l01Bad
      rw [i4, decide_eq_true hv, cond_true, j4, q3]
      simp
  · refine ⟨x, y, a1, h1', i1, fun r => ?_⟩
    unfold spec_l01Bad
    rw [i4, decide_eq_false hv, cond_false]

theorem spoil_ok {l : List Int} (hl : IsCode l) {a : Int} (ha : AtC l a) (k : Nat) (h : Int) : ∃ x y a' h', AtC l a' ∧ ∀ r : Int → Int → Int → Int → Option α, spec_l01Spoil k l a h r = r x y a' h' := by
  obtain ⟨v, a1, h1, i1, i2, i3, i4⟩ := size_ok (α := α) hl ha k h
  obtain ⟨x, y, a2, h2, j1, j2, j3, j4⟩ := point_ok (α := α) hl i1 k h1 (most := v) (by omega) (by omega)
  obtain ⟨x', y', a3, h3, q1, q2⟩ := bad_ok (α := α) hl j1 k h2 x y
  refine ⟨x', y', a3, h3, q1, fun r => ?_⟩
  unfold spec_l01Spoil
  rw [i4, j4, q2]

theorem unit_l3 {l : List Int} (hl : IsCode l) (x x1 x2 x3 : Int) : ∀ (m k : Nat) (n a h o0 o1 o2 o3 : Int), AtC l a → n ≤ m → m ≤ 1000 → m < k → ∃ p q u v a' h', AtC l a' ∧ ∀ r : Int → Int → Int → Int → Int → Int → Option α,
    spec_l01DrawUnit_l3 k n a h x x1 x2 x3 o0 o1 o2 o3 l (fun _ s5 s6 _ _ _ _ q0 q1 q2 q3 _ => r q0 q1 q2 q3 s5 s6) r = r p q u v a' h'
  | 0, k + 1, n, a, h, o0, o1, o2, o3, ha, hn, _, _ => ⟨o0, o1, o2, o3, a, h, ha, fun r => by
    rw [spec_l01DrawUnit_l3, dec_lt_f (by omega), cond_false]⟩
  | m + 1, k + 1, n, a, h, o0, o1, o2, o3, ha, hn, hm, hk => by
    by_cases hpos : 0 < n
    · obtain ⟨v, a1, h1, i1, v1, v2, e1⟩ := next_ok (α := α) hl ha k h 7
      obtain ⟨u, a2, h2, i2, u1, u2, e2⟩ := next_ok (α := α) hl i1 k h1 3
      have hw : w64 (n - 1) = n - 1 := w64_of (by omega) (by omega)
      by_cases hu : u = 0
      · obtain ⟨p, q, s, t, a', h', i', e'⟩ := unit_l3 hl x x1 x2 x3 m k (n - 1) a2 h2 (w64 ((w64 (o0 * 1)) + (w64 (o1 * 0)))) (w64 ((w64 (o0 * (w64 (v - 3)))) + (w64 (o1 * 1)))) (w64 ((w64 (o2 * 1)) + (w64 (o3 * 0)))) (w64 ((w64 (o2 * (w64 (v - 3)))) + (w64 (o3 * 1)))) i2 (by omega) (by omega) (by omega)
        refine ⟨p, q, s, t, a', h', i', fun r => ?_⟩
        rw [spec_l01DrawUnit_l3, dec_lt_t hpos, cond_true, e1, e2, decide_eq_true hu, cond_true, hw]
        exact e' r
      · by_cases hu1 : u = 1
        · obtain ⟨p, q, s, t, a', h', i', e'⟩ := unit_l3 hl x x1 x2 x3 m k (n - 1) a2 h2 (w64 ((w64 (o0 * 1)) + (w64 (o1 * (w64 (v - 3)))))) (w64 ((w64 (o0 * 0)) + (w64 (o1 * 1)))) (w64 ((w64 (o2 * 1)) + (w64 (o3 * (w64 (v - 3)))))) (w64 ((w64 (o2 * 0)) + (w64 (o3 * 1)))) i2 (by omega) (by omega) (by omega)
          refine ⟨p, q, s, t, a', h', i', fun r => ?_⟩
          rw [spec_l01DrawUnit_l3, dec_lt_t hpos, cond_true, e1, e2, decide_eq_false hu, cond_false, decide_eq_true hu1, cond_true, hw]
          exact e' r
        · obtain ⟨p, q, s, t, a', h', i', e'⟩ := unit_l3 hl x x1 x2 x3 m k (n - 1) a2 h2 (w64 ((w64 (o0 * 0)) + (w64 (o1 * 1)))) (w64 ((w64 (o0 * 1)) + (w64 (o1 * 0)))) (w64 ((w64 (o2 * 0)) + (w64 (o3 * 1)))) (w64 ((w64 (o2 * 1)) + (w64 (o3 * 0)))) i2 (by omega) (by omega) (by omega)
          refine ⟨p, q, s, t, a', h', i', fun r => ?_⟩
          rw [spec_l01DrawUnit_l3, dec_lt_t hpos, cond_true, e1, e2, decide_eq_false hu, cond_false, decide_eq_false hu1, cond_false, hw]
          exact e' r
    · exact ⟨o0, o1, o2, o3, a, h, ha, fun r => by rw [spec_l01DrawUnit_l3, dec_lt_f (by omega), cond_false]⟩
  | _, 0, _, _, _, _, _, _, _, _, _, _, hk => by omega

theorem unitM_ok {l : List Int} (hl : IsCode l) {a : Int} (ha : AtC l a) (k : Nat) (hk : 5 < k) (h : Int) : ∃ p q u v a' h', AtC l a' ∧ ∀ r : Int → Int → Int → Int → Int → Int → Option α, spec_l01DrawUnit k l a h r = r p q u v a' h' := by
  obtain ⟨n, a1, h1, i1, n1, n2, e1⟩ := next_ok (α := α) hl ha k h 5
  obtain ⟨p, q, u, v, a', h', i', e'⟩ := unit_l3 (α := α) hl 0 0 0 0 5 k n a1 h1 1 0 0 1 i1 (by omega) (by omega) hk
  refine ⟨p, q, u, v, a', h', i', fun r => ?_⟩
  unfold spec_l01DrawUnit
  rw [e1]
  exact e' r

theorem set4 {i j : Int} (hi : i = 0 ∨ i = 1) (hj : j = 0 ∨ j = 1) (x y z w c : Int) : ∃ x' y' z' w', ∀ K : Int → Int → Int → Int → Option α,
    (([x, y, z, w][(moved (i.toNat * 2) j.toNat 1)]?).bind fun _ =>
      ((List.set [x, y, z, w] (moved (i.toNat * 2) j.toNat 1) c)[0]?).bind fun e_ =>
      ((List.set [x, y, z, w] (moved (i.toNat * 2) j.toNat 1) c)[1]?).bind fun e_1 =>
      ((List.set [x, y, z, w] (moved (i.toNat * 2) j.toNat 1) c)[2]?).bind fun e_2 =>
      ((List.set [x, y, z, w] (moved (i.toNat * 2) j.toNat 1) c)[3]?).bind fun e_3 => K e_ e_1 e_2 e_3) = K x' y' z' w' := by
  rcases hi with rfl | rfl <;> rcases hj with rfl | rfl
  · exact ⟨c, y, z, w, fun K => rfl⟩
  · exact ⟨x, c, z, w, fun K => rfl⟩
  · exact ⟨x, y, c, w, fun K => rfl⟩
  · exact ⟨x, y, z, c, fun K => rfl⟩

theorem any_ok {l : List Int} (hl : IsCode l) {a : Int} (ha : AtC l a) (k : Nat) (hk : 5 < k) (h : Int) : ∃ p q u v a' h', AtC l a' ∧ ∀ r : Int → Int → Int → Int → Int → Int → Option α, spec_l01AnyMatrix k l a h r = r p q u v a' h' := by
  obtain ⟨p, q, u, v, a1, h1, i1, e1⟩ := unitM_ok (α := α) hl ha k hk h
  obtain ⟨n, a2, h2, i2, n1, n2, e2⟩ := next_ok (α := α) hl i1 k h1 3
  have tail : ∀ (p q u v : Int) {a : Int} (h : Int), AtC l a → ∃ p' q' u' v' a' h', AtC l a' ∧ ∀ r : Int → Int → Int → Int → Int → Int → Option α,
      (spec_l01Next k l a h 40 fun v35 v36 v37 =>
        bif decide (v35 = 0) then
          spec_l01Next k l v36 v37 2 fun v38 v39 v40 =>
          bif (decide (0 ≤ v38) && decide (v38 < 2)) then
            spec_l01Next k l v39 v40 2 fun v41 v42 v43 =>
            spec_l01Pick k l v42 v43 [1000001, (-1099511627776)] fun v44 v45 v46 =>
            bif (decide (0 ≤ v41) && decide (v41 < 2)) then
              ([p, q, u, v][(moved (v38.toNat * 2) v41.toNat 1)]?).bind fun _ =>
              ((List.set [p, q, u, v] (moved (v38.toNat * 2) v41.toNat 1) v44)[0]?).bind fun e_4 =>
              ((List.set [p, q, u, v] (moved (v38.toNat * 2) v41.toNat 1) v44)[1]?).bind fun e_5 =>
              ((List.set [p, q, u, v] (moved (v38.toNat * 2) v41.toNat 1) v44)[2]?).bind fun e_6 =>
              ((List.set [p, q, u, v] (moved (v38.toNat * 2) v41.toNat 1) v44)[3]?).bind fun e_7 =>
              r e_4 e_5 e_6 e_7 v45 v46
            else
              none
          else
            none
        else
          r p q u v v36 v37) = r p' q' u' v' a' h' := by
    intro p q u v a h ha
    obtain ⟨n, a1, h1, i1, n1, n2, e1⟩ := next_ok (α := α) hl ha k h 40
    by_cases hn : n = 0
    · obtain ⟨i, a2, h2, i2, n3, n4, e2⟩ := next_ok (α := α) hl i1 k h1 2
      obtain ⟨j, a3, h3, i3, n5, n6, e3⟩ := next_ok (α := α) hl i2 k h2 2
      obtain ⟨c, a4, h4, i4, _, e4⟩ := pick_ok (α := α) hl i3 k h3 (list := [1000001, (-1099511627776)]) (by simp) (by simp)
      obtain ⟨x, y, z, w, e5⟩ := set4 (α := α) (i := i) (j := j) (by omega) (by omega) p q u v c
      refine ⟨x, y, z, w, a4, h4, i4, fun r => ?_⟩
      rw [e1, decide_eq_true hn, cond_true, e2, dec_le_t n3, dec_lt_t (by omega), Bool.and_self, cond_true, e3, e4, dec_le_t n5, dec_lt_t (by omega), Bool.and_self, cond_true]
      exact e5 fun a b c d => r a b c d a4 h4
    · refine ⟨p, q, u, v, a1, h1, i1, fun r => ?_⟩
      rw [e1, decide_eq_false hn, cond_false]
  by_cases hn : n = 0
  · obtain ⟨s, a3, h3, i3, s1, s2, e3⟩ := size_ok (α := α) hl i2 k h2
    obtain ⟨x, y, a4, h4, i4, _, _, e4⟩ := point_ok (α := α) hl i3 k h3 (most := s) (by omega) (by omega)
    obtain ⟨t, a5, h5, i5, t1, t2, e5⟩ := size_ok (α := α) hl i4 k h4
    obtain ⟨z, w, a6, h6, i6, _, _, e6⟩ := point_ok (α := α) hl i5 k h5 (most := t) (by omega) (by omega)
    obtain ⟨p', q', u', v', a', h', i', e'⟩ := tail x y z w h6 i6
    refine ⟨p', q', u', v', a', h', i', fun r => ?_⟩
    unfold spec_l01AnyMatrix
    rw [e1, e2, decide_eq_true hn, cond_true, e3, e4, e5, e6]
    exact e' r
  · obtain ⟨p', q', u', v', a', h', i', e'⟩ := tail p q u v h2 i2
    refine ⟨p', q', u', v', a', h', i', fun r => ?_⟩
    unfold spec_l01AnyMatrix
    rw [e1, e2, decide_eq_false hn, cond_false]
    exact e' r

theorem primitive_ok {l : List Int} (hl : IsCode l) {a : Int} (ha : AtC l a) (k : Nat) (hk : 1000000000 < k) (h : Int) {most : Int} (h0 : 0 ≤ most) (h1 : most ≤ 1000000) : ∃ x y a' h', AtC l a' ∧ ∀ r : Int → Int → Int → Int → Option α, spec_l01DrawPrimitive k l a h most r = r x y a' h' := by
  obtain ⟨x, y, a1, h1, i1, x1, y1, e1⟩ := point_ok (α := α) hl ha k h (most := most) h0 (by omega)
  by_cases hz : x = 0 ∧ y = 0
  · exact ⟨1, 0, a1, h1, i1, fun r => by simp [spec_l01DrawPrimitive, e1, hz.1, hz.2]⟩
  · refine ⟨(prim x y).1, (prim x y).2, a1, h1, i1, fun r => ?_⟩
    have hc : (decide (x = 0) && decide (y = 0)) = false := by
      rw [Bool.and_eq_false_iff, decide_eq_false_iff_not, decide_eq_false_iff_not]
      omega
    unfold spec_l01DrawPrimitive
    rw [e1, hc, cond_false, spec_l01Part_eq k x y _ (by omega) (by omega) (by omega) (by omega) hk (by omega)]

theorem dInverse_ok {l : List Int} (hl : IsCode l) (k : Nat) (hk : 4096 < k) : ∃ p q u v, ∀ r : Int → Int → Int → Int → Option α, spec_DrawInverseMatrix k l r = r p q u v := by
  obtain ⟨h0, i0, e0⟩ := from_ok (α := α) hl k hk
  obtain ⟨p, q, u, v, a1, h1, i1, e1⟩ := any_ok (α := α) hl i0 k (by omega) h0
  exact ⟨p, q, u, v, fun r => by unfold spec_DrawInverseMatrix; rw [e0, e1]⟩

theorem dArea_ok {l : List Int} (hl : IsCode l) (k : Nat) (hk : 4096 < k) : ∃ a b c d e f, ∀ r : Int → Int → Int → Int → Int → Int → Option α, spec_DrawAreaOf k l r = r a b c d e f := by
  obtain ⟨h0, i0, e0⟩ := from_ok (α := α) hl k hk
  obtain ⟨a, b, a1, h1, i1, e1⟩ := spoil_ok (α := α) hl i0 k h0
  obtain ⟨c, d, a2, h2, i2, e2⟩ := spoil_ok (α := α) hl i1 k h1
  obtain ⟨e, f, a3, h3, i3, e3⟩ := spoil_ok (α := α) hl i2 k h2
  exact ⟨a, b, c, d, e, f, fun r => by unfold spec_DrawAreaOf; rw [e0, e1, e2, e3]⟩

theorem dMate_ok {l : List Int} (hl : IsCode l) (k : Nat) (hk : 1000000000 < k) : ∃ a b, ∀ r : Int → Int → Option α, spec_DrawMateOf k l r = r a b := by
  obtain ⟨h0, i0, e0⟩ := from_ok (α := α) hl k (by omega)
  obtain ⟨n, a1, h1, i1, n1, n2, e1⟩ := next_ok (α := α) hl i0 k h0 8
  by_cases hn : n = 0
  · obtain ⟨a, b, a2, h2, i2, e2⟩ := spoil_ok (α := α) hl i1 k h1
    exact ⟨a, b, fun r => by unfold spec_DrawMateOf; rw [e0, e1, decide_eq_true hn, cond_true, e2]⟩
  · obtain ⟨s, a2, h2, i2, s1, s2, e2⟩ := size_ok (α := α) hl i1 k h1
    obtain ⟨x, y, a3, h3, i3, e3⟩ := primitive_ok (α := α) hl i2 k hk h2 (most := s) (by omega) (by omega)
    obtain ⟨z, w, a4, h4, i4, e4⟩ := bad_ok (α := α) hl i3 k h3 x y
    exact ⟨z, w, fun r => by unfold spec_DrawMateOf; rw [e0, e1, decide_eq_false hn, cond_false, e2, e3, e4]⟩

theorem dDistance_ok {l : List Int} (hl : IsCode l) (k : Nat) (hk : 4096 < k) : ∃ a b c d e f, ∀ r : Int → Int → Int → Int → Int → Int → Option α, spec_DrawDistanceOf k l r = r a b c d e f := by
  obtain ⟨h0, i0, e0⟩ := from_ok (α := α) hl k hk
  obtain ⟨a, b, a1, h1, i1, e1⟩ := spoil_ok (α := α) hl i0 k h0
  obtain ⟨n, a2, h2, i2, n1, n2, e2⟩ := next_ok (α := α) hl i1 k h1 12
  obtain ⟨c, d, a3, h3, i3, e3⟩ := spoil_ok (α := α) hl i2 k h2
  by_cases hn : n = 0
  · exact ⟨a, b, a, b, c, d, fun r => by unfold spec_DrawDistanceOf; rw [e0, e1, e2, decide_eq_true hn, cond_true, e3]⟩
  · obtain ⟨e, f, a4, h4, i4, e4⟩ := spoil_ok (α := α) hl i3 k h3
    exact ⟨a, b, c, d, e, f, fun r => by unfold spec_DrawDistanceOf; rw [e0, e1, e2, decide_eq_false hn, cond_false, e3, e4]⟩

theorem dPrimitive_ok {l : List Int} (hl : IsCode l) (k : Nat) (hk : 4096 < k) : ∃ a b, ∀ r : Int → Int → Option α, spec_DrawPrimitiveOf k l r = r a b := by
  obtain ⟨h0, i0, e0⟩ := from_ok (α := α) hl k hk
  obtain ⟨a, b, a1, h1, i1, e1⟩ := spoil_ok (α := α) hl i0 k h0
  exact ⟨a, b, fun r => by unfold spec_DrawPrimitiveOf; rw [e0, e1]⟩

theorem dAdd_ok {l : List Int} (hl : IsCode l) (k : Nat) (hk : 4096 < k) : ∃ a b c d n, ∀ r : Int → Int → Int → Int → Int → Option α, spec_DrawAddPoints k l r = r a b c d n := by
  obtain ⟨h0, i0, e0⟩ := from_ok (α := α) hl k hk
  obtain ⟨a, b, a1, h1, i1, e1⟩ := spoil_ok (α := α) hl i0 k h0
  obtain ⟨c, d, a2, h2, i2, e2⟩ := spoil_ok (α := α) hl i1 k h1
  obtain ⟨n, a3, h3, i3, _, e3⟩ := pick_ok (α := α) hl i2 k h2 (list := [1, (-1), 2, (-7), 1000, 1000001]) (by simp) (by simp)
  exact ⟨a, b, c, d, n, fun r => by unfold spec_DrawAddPoints; rw [e0, e1, e2, e3]⟩

theorem dApply_ok {l : List Int} (hl : IsCode l) (k : Nat) (hk : 4096 < k) : ∃ p q u v a b, ∀ r : Int → Int → Int → Int → Int → Int → Option α, spec_DrawApplyMatrix k l r = r p q u v a b := by
  obtain ⟨h0, i0, e0⟩ := from_ok (α := α) hl k hk
  obtain ⟨p, q, u, v, a1, h1, i1, e1⟩ := any_ok (α := α) hl i0 k (by omega) h0
  obtain ⟨a, b, a2, h2, i2, e2⟩ := spoil_ok (α := α) hl i1 k h1
  exact ⟨p, q, u, v, a, b, fun r => by unfold spec_DrawApplyMatrix; rw [e0, e1, e2]⟩

theorem dMultiply_ok {l : List Int} (hl : IsCode l) (k : Nat) (hk : 4096 < k) : ∃ p q u v a b c d, ∀ r : Int → Int → Int → Int → Int → Int → Int → Int → Option α, spec_DrawMultiplyMatrices k l r = r p q u v a b c d := by
  obtain ⟨h0, i0, e0⟩ := from_ok (α := α) hl k hk
  obtain ⟨p, q, u, v, a1, h1, i1, e1⟩ := any_ok (α := α) hl i0 k (by omega) h0
  obtain ⟨a, b, c, d, a2, h2, i2, e2⟩ := any_ok (α := α) hl i1 k (by omega) h1
  exact ⟨p, q, u, v, a, b, c, d, fun r => by unfold spec_DrawMultiplyMatrices; rw [e0, e1, e2]⟩

theorem dLength_ok {l : List Int} (hl : IsCode l) (k : Nat) (hk : 4096 < k) : ∃ a b c d, ∀ r : Int → Int → Int → Int → Option α, spec_DrawLengthOf k l r = r a b c d := by
  obtain ⟨h0, i0, e0⟩ := from_ok (α := α) hl k hk
  obtain ⟨a, b, a1, h1, i1, e1⟩ := spoil_ok (α := α) hl i0 k h0
  obtain ⟨n, a2, h2, i2, n1, n2, e2⟩ := next_ok (α := α) hl i1 k h1 3
  by_cases hn : n = 0
  · obtain ⟨x, y, a3, h3, i3, _, _, e3⟩ := point_ok (α := α) hl i2 k h2 (most := 3) (by omega) (by omega)
    obtain ⟨m, a4, h4, i4, _, _, e4⟩ := next_ok (α := α) hl i3 k h3 6
    obtain ⟨z, w, a5, h5, i5, e5⟩ := bad_ok (α := α) hl i4 k h4 (w64 (a + (w64 ((w64 (1 + m)) * x)))) (w64 (b + (w64 ((w64 (1 + m)) * y))))
    refine ⟨a, b, z, w, fun r => ?_⟩
    unfold spec_DrawLengthOf
    rw [e0, e1, e2, decide_eq_true hn, cond_true, e3, e4]
    exact e5 fun x y _ _ => r a b x y
  · obtain ⟨x, y, a3, h3, i3, e3⟩ := spoil_ok (α := α) hl i2 k h2
    exact ⟨a, b, x, y, fun r => by unfold spec_DrawLengthOf; rw [e0, e1, e2, decide_eq_false hn, cond_false, e3]⟩

theorem detOf_impl (k : Nat) (hk : 3 ≤ k) (a b c d : Int) (r : Int → Int → Option α) : impl_DeterminantOf k a b c d r = bif crd a && crd b && (crd c && crd d) then r (detP a b c d) 0 else r 0 1 := by
  simp only [impl_DeterminantOf, impl_points2 k hk]
  cases h : (crd a && crd b && (crd c && crd d)) with
  | false => simp
  | true =>
    simp only [Bool.and_eq_true, crd_iff] at h
    have h1 := mul_bound h.1.1.1 h.1.1.2 h.2.2.1 h.2.2.2
    have h2 := mul_bound h.1.2.1 h.1.2.2 h.2.1.1 h.2.1.2
    simp only [Bool.not_true, cond_false, cond_true, impl_det]
    rw [w64_of (n := a * d) (by omega) (by omega), w64_of (n := b * c) (by omega) (by omega), w64_of (by omega) (by omega)]
    rfl

theorem laws_big_eq (k : Nat) (l : List Int) (r : Bool → Option α) : laws_big k l r = r (decide (4096 < (((List.length l) : Nat) : Int))) := rfl

theorem code_l2 : ∀ (rest : List (Int × Int)) (k i : Nat) (s : List (Int × Int)) (r : Int → Option α), s.drop i = rest → s.length ≤ big → i ≤ s.length → rest.length < k → spec_l01Code_l2 k i s (fun _ _ => r 0) r = r (if rest.all (fun e => crd e.1 && crd e.2) then 0 else 1)
  | [], k + 1, i, s, r, hd, hb, hi, _ => by
    have := drop_nil hd
    rw [spec_l01Code_l2, dec_lt_f (by omega)]
    simp
  | e :: rest, k + 1, i, s, r, hd, hb, hi, hk => by
    obtain ⟨h1, h2, h3⟩ := drop_cons hd
    rw [big_val] at hb
    have en : w64 ((i : Int) + 1) = ((i + 1 : Nat) : Int) := by rw [w64_of (by omega) (by omega)]; omega
    simp only [List.length_cons] at hk
    rw [spec_l01Code_l2, dec_lt_t (by omega), dec_le_t (by omega), cond_true, Bool.and_true, cond_true, Int.toNat_natCast, h1, Option.bind_some, spec_l01Is_eq]
    cases hc : (crd e.1 && crd e.2) with
    | false => simp [hc]
    | true =>
      rw [Bool.not_true, cond_false, en, code_l2 rest k (i + 1) s r h2 (by rw [big_val]; omega) (by omega) (by omega)]
      simp only [List.all_cons, hc, Bool.true_and]
  | _, 0, _, _, _, _, _, _, hk => by omega

theorem code_eq (k : Nat) (s : List (Int × Int)) (hs : s.length ≤ big) (hk : s.length < k) (r : Int → Option α) : spec_l01Code k s r = r (if s.all (fun e => crd e.1 && crd e.2) then 0 else 1) := by
  have := code_l2 (α := α) s k 0 s r (by simp) hs (by omega) hk
  unfold spec_l01Code
  simpa using this

theorem code2 (k : Nat) (hk : 3 ≤ k) (a b c d : Int) (r : Int → Option α) : spec_l01Code k [(a, b), (c, d)] r = r (if crd a && crd b && (crd c && crd d) then 0 else 1) := by
  rw [code_eq k _ (by rw [big_val]; simp) (by simp; omega)]
  simp

theorem code3 (k : Nat) (hk : 4 ≤ k) (a b c d e f : Int) (r : Int → Option α) : spec_l01Code k [(a, b), (c, d), (e, f)] r = r (if crd a && crd b && (crd c && crd d && (crd e && crd f)) then 0 else 1) := by
  rw [code_eq k _ (by rw [big_val]; simp) (by simp; omega)]
  simp [Bool.and_assoc]

theorem points3 (k : Nat) (hk : 4 ≤ k) (a b c d e f : Int) (r : Bool → Option α) : impl_points k [(a, b), (c, d), (e, f)] r = r (crd a && crd b && (crd c && crd d && (crd e && crd f))) := by
  rw [impl_points_find _ _ (by rw [big_val]; simp) (by simp; omega)]
  simp [Bool.and_assoc]

def mtB (a b c d : Int) : Bool := crd a && (crd b && (crd c && crd d))

theorem mtB_iff {a b c d : Int} : mtB a b c d = true ↔ (-1000000 ≤ a ∧ a ≤ 1000000) ∧ (-1000000 ≤ b ∧ b ≤ 1000000) ∧ (-1000000 ≤ c ∧ c ≤ 1000000) ∧ (-1000000 ≤ d ∧ d ≤ 1000000) := by
  unfold mtB
  simp only [Bool.and_eq_true, crd_iff]

theorem area_both (k : Nat) (hk : 4 ≤ k) (a b c d e f : Int) : ∃ v z, (∀ r : Int → Int → Option α, impl_AreaOf k a b c d e f r = r v z) ∧ (∀ r : Int → Int → Option α, spec_AreaOf k a b c d e f r = r v z) ∧
    (z = 0 → (crd a && crd b && (crd c && crd d && (crd e && crd f))) = true) ∧ ((crd a && crd b && (crd c && crd d && (crd e && crd f))) = true → z = 0 ∧ v = absI (detS a b c d e f)) := by
  simp only [impl_AreaOf, spec_AreaOf, points3 k hk, code3 k hk]
  cases h : (crd a && crd b && (crd c && crd d && (crd e && crd f))) with
  | false => exact ⟨0, 1, fun r => by simp, fun r => by simp, fun e => by omega, fun e => by simp at e⟩
  | true =>
    simp only [Bool.and_eq_true, crd_iff] at h
    obtain ⟨⟨ha, hb⟩, ⟨hc, hd⟩, he, hf⟩ := h
    have m1 := mul_bound (a := c - a) (b := f - b) (A := 2000000) (B := 2000000) (by omega) (by omega) (by omega) (by omega)
    have m2 := mul_bound (a := d - b) (b := e - a) (A := 2000000) (B := 2000000) (by omega) (by omega) (by omega) (by omega)
    have hw := det_w (a := c - a) (b := d - b) (c := e - a) (d := f - b) (by omega) (by omega) (by omega) (by omega)
    refine ⟨absI (detS a b c d e f), 0, fun r => ?_, fun r => ?_, fun _ => rfl, fun _ => ⟨rfl, rfl⟩⟩
    · simp only [Bool.not_true, cond_false, impl_area, impl_det]
      rw [impl_less_eq k c d a b _ (by omega) (by omega) (by omega) (by omega), impl_less_eq k e f a b _ (by omega) (by omega) (by omega) (by omega), hw.1, impl_size_eq k _ _ (by omega) (by omega)]
      rfl
    · simp only [if_true, decide_true, Bool.not_true, cond_false, spec_l01Area, spec_l01Det]
      rw [spec_less_eq k c d a b _ (by omega) (by omega) (by omega) (by omega), spec_less_eq k e f a b _ (by omega) (by omega) (by omega) (by omega), hw.1, w64_of (by omega) (by omega), Int.zero_sub]
      rfl

theorem length_both (k : Nat) (hk : 1000000000 < k) (a b c d : Int) : ∃ v z, (∀ r : Int → Int → Option α, impl_LengthOf k a b c d r = r v z) ∧ (∀ r : Int → Int → Option α, spec_LengthOf k a b c d r = r v z) ∧
    ((crd a && crd b && (crd c && crd d)) = true → z = 0 ∧ v = gcdI (c - a) (d - b)) := by
  simp only [impl_LengthOf, spec_LengthOf, impl_points2 k (show 3 ≤ k by omega), code2 k (show 3 ≤ k by omega)]
  cases h : (crd a && crd b && (crd c && crd d)) with
  | false => exact ⟨0, 1, fun r => by simp, fun r => by simp, fun e => by simp at e⟩
  | true =>
    simp only [Bool.and_eq_true, crd_iff] at h
    obtain ⟨⟨ha, hb⟩, hc, hd⟩ := h
    refine ⟨gcdI (c - a) (d - b), 0, fun r => ?_, fun r => ?_, fun _ => ⟨rfl, rfl⟩⟩
    · simp only [Bool.not_true, cond_false, impl_Point_length]
      rw [impl_less_eq k c d a b _ (by omega) (by omega) (by omega) (by omega), impl_gcd_eq k _ _ _ (by omega) (by omega) (by omega) (by omega) hk]
    · simp only [if_true, decide_true, Bool.not_true, cond_false, spec_l01Length]
      rw [w64_of (n := c - a) (by omega) (by omega), w64_of (n := d - b) (by omega) (by omega), spec_l01Gcd_eq k _ _ _ (by omega) (by omega) (by omega) (by omega) hk]

theorem lin_w {a b x y : Int} (ha : -1000000 ≤ a ∧ a ≤ 1000000) (hb : -1000000 ≤ b ∧ b ≤ 1000000) (hx : -1000000 ≤ x ∧ x ≤ 1000000) (hy : -1000000 ≤ y ∧ y ≤ 1000000) : w64 ((w64 (a * x)) + (w64 (b * y))) = a * x + b * y := by
  have m1 := mul_bound ha.1 ha.2 hx.1 hx.2
  have m2 := mul_bound hb.1 hb.2 hy.1 hy.2
  rw [w64_of (n := a * x) (by omega) (by omega), w64_of (n := b * y) (by omega) (by omega), w64_of (by omega) (by omega)]

theorem apply_both (k : Nat) (hk : 3 ≤ k) (m m1 m2 m3 a b : Int) : ∃ x y z, (∀ r : Int → Int → Int → Option α, impl_ApplyMatrix k m m1 m2 m3 a b r = r x y z) ∧ (∀ r : Int → Int → Int → Option α, spec_ApplyMatrix k m m1 m2 m3 a b r = r x y z) ∧
    (z = 0 → mtB m m1 m2 m3 = true ∧ (crd a && crd b) = true ∧ (crd x && crd y) = true ∧ x = m * a + m1 * b ∧ y = m2 * a + m3 * b) ∧
    (mtB m m1 m2 m3 = true → (crd a && crd b) = true → (crd (m * a + m1 * b) && crd (m2 * a + m3 * b)) = true → z = 0 ∧ x = m * a + m1 * b ∧ y = m2 * a + m3 * b) := by
  simp only [impl_ApplyMatrix, spec_ApplyMatrix, impl_IsMatrix_eq k hk, spec_l01Matrix_eq, impl_IsPoint_eq, spec_l01Is_eq, impl_Matrix_apply, spec_l01Apply, impl_Point_told, spec_l01Told]
  cases h : mtB m m1 m2 m3 with
  | false =>
    unfold mtB at h
    exact ⟨0, 0, 1, fun r => by simp [h], fun r => by simp [h], fun e => by omega, fun e => by simp at e⟩
  | true =>
    have hm := mtB_iff.1 h
    unfold mtB at h
    cases hp : (crd a && crd b) with
    | false => exact ⟨0, 0, 1, fun r => by simp [h], fun r => by simp [h], fun e => by omega, fun _ e => by simp at e⟩
    | true =>
      have hp2 := hp
      simp only [Bool.and_eq_true, crd_iff] at hp2
      simp only [h, lin_w hm.1 hm.2.1 hp2.1 hp2.2, lin_w hm.2.2.1 hm.2.2.2 hp2.1 hp2.2, Bool.not_true, cond_false]
      cases hr : (crd (m * a + m1 * b) && crd (m2 * a + m3 * b)) with
      | false => exact ⟨0, 0, 3, fun r => by simp, fun r => by simp, fun e => by omega, fun _ _ e => by simp at e⟩
      | true => exact ⟨m * a + m1 * b, m2 * a + m3 * b, 0, fun r => by simp, fun r => by simp, fun _ => ⟨trivial, trivial, hr, rfl, rfl⟩, fun _ _ _ => ⟨rfl, rfl, rfl⟩⟩

theorem multiply_both (k : Nat) (hk : 3 ≤ k) (m m1 m2 m3 n n1 n2 n3 : Int) : ∃ x y u v z, (∀ r : Int → Int → Int → Int → Int → Option α, impl_MultiplyMatrices k m m1 m2 m3 n n1 n2 n3 r = r x y u v z) ∧ (∀ r : Int → Int → Int → Int → Int → Option α, spec_MultiplyMatrices k m m1 m2 m3 n n1 n2 n3 r = r x y u v z) ∧
    (mtB m m1 m2 m3 = true → mtB n n1 n2 n3 = true → mtB (m * n + m1 * n2) (m * n1 + m1 * n3) (m2 * n + m3 * n2) (m2 * n1 + m3 * n3) = true → z = 0 ∧ x = m * n + m1 * n2 ∧ y = m * n1 + m1 * n3 ∧ u = m2 * n + m3 * n2 ∧ v = m2 * n1 + m3 * n3) := by
  have c0 : ∀ r : Int → Int → Option α, impl_Matrix_column k n n1 n2 n3 0 r = r n n2 := fun r => rfl
  have c1 : ∀ r : Int → Int → Option α, impl_Matrix_column k n n1 n2 n3 1 r = r n1 n3 := fun r => rfl
  simp only [impl_MultiplyMatrices, spec_MultiplyMatrices, impl_IsMatrix_eq k hk, spec_l01Matrix_eq, impl_Matrix_times, c0, c1, impl_Matrix_apply, spec_l01Times, impl_Matrix_told]
  cases h : mtB m m1 m2 m3 with
  | false =>
    unfold mtB at h
    exact ⟨0, 0, 0, 0, 1, fun r => by simp [h], fun r => by simp [h], fun e => by simp at e⟩
  | true =>
    have hm := mtB_iff.1 h
    unfold mtB at h
    cases hp : mtB n n1 n2 n3 with
    | false =>
      unfold mtB at hp
      exact ⟨0, 0, 0, 0, 1, fun r => by simp [h, hp], fun r => by simp [h, hp], fun _ e => by simp at e⟩
    | true =>
      have hn := mtB_iff.1 hp
      unfold mtB at hp
      simp only [h, hp, lin_w hm.1 hm.2.1 hn.1 hn.2.2.1, lin_w hm.1 hm.2.1 hn.2.1 hn.2.2.2, lin_w hm.2.2.1 hm.2.2.2 hn.1 hn.2.2.1, lin_w hm.2.2.1 hm.2.2.2 hn.2.1 hn.2.2.2, Bool.not_true, cond_false]
      cases hr : mtB (m * n + m1 * n2) (m * n1 + m1 * n3) (m2 * n + m3 * n2) (m2 * n1 + m3 * n3) with
      | false =>
        unfold mtB at hr
        exact ⟨0, 0, 0, 0, 3, fun r => by simp [hr], fun r => by simp [hr], fun _ _ e => by simp at e⟩
      | true =>
        unfold mtB at hr
        exact ⟨_, _, _, _, 0, fun r => by simp [hr], fun r => by simp [hr], fun _ _ _ => ⟨rfl, rfl, rfl, rfl, rfl⟩⟩

theorem inverse_both (k : Nat) (hk : 3 ≤ k) (m m1 m2 m3 : Int) : ∃ x y u v z, (∀ r : Int → Int → Int → Int → Int → Option α, impl_InverseMatrix k m m1 m2 m3 r = r x y u v z) ∧ (∀ r : Int → Int → Int → Int → Int → Option α, spec_InverseMatrix k m m1 m2 m3 r = r x y u v z) ∧
    (z = 0 → mtB m m1 m2 m3 = true ∧ mtB x y u v = true ∧ ∃ d, (d = 1 ∨ d = -1) ∧ m * m3 - m1 * m2 = d ∧ x = d * m3 ∧ y = -d * m1 ∧ u = -d * m2 ∧ v = d * m) := by
  simp only [impl_InverseMatrix, spec_InverseMatrix, impl_IsMatrix_eq k hk, spec_l01Matrix_eq, impl_Matrix_unimodular, impl_Matrix_det, impl_det, impl_Matrix_inverse, impl_Matrix_told, spec_l01Unit, spec_l01DetOf, spec_l01Minus]
  cases h : mtB m m1 m2 m3 with
  | false =>
    unfold mtB at h
    exact ⟨0, 0, 0, 0, 1, fun r => by simp [h], fun r => by simp [h], fun e => by omega⟩
  | true =>
    have hm := mtB_iff.1 h
    have h0 := h
    unfold mtB at h
    have p1 := mul_bound hm.1.1 hm.1.2 hm.2.2.2.1 hm.2.2.2.2
    have p2 := mul_bound hm.2.1.1 hm.2.1.2 hm.2.2.1.1 hm.2.2.1.2
    have hw : w64 ((w64 (m * m3)) - (w64 (m1 * m2))) = m * m3 - m1 * m2 := by
      rw [w64_of (n := m * m3) (by omega) (by omega), w64_of (n := m1 * m2) (by omega) (by omega), w64_of (by omega) (by omega)]
    simp only [h, hw, Bool.not_true, cond_false]
    have hs := fun r : Int → Option α => impl_size_eq k (m * m3 - m1 * m2) r (by omega) (by omega)
    simp only [hs]
    generalize hD : m * m3 - m1 * m2 = D
    have key : ∀ d : Int, (d = 1 ∨ d = -1) → w64 (d * m3) = d * m3 ∧ w64 ((w64 (0 - d)) * m1) = -d * m1 ∧ w64 ((w64 (0 - d)) * m2) = -d * m2 ∧ w64 (d * m) = d * m ∧ mtB (d * m3) (-d * m1) (-d * m2) (d * m) = true := fun d hd => by
      have w0 : w64 (0 - d) = -d := by rw [w64_of (by omega) (by omega)]; omega
      rw [w0, mtB_iff]
      rcases hd with rfl | rfl
      · exact ⟨w64_of (by omega) (by omega), w64_of (by omega) (by omega), w64_of (by omega) (by omega), w64_of (by omega) (by omega), by omega, by omega, by omega, by omega⟩
      · exact ⟨w64_of (by omega) (by omega), w64_of (by omega) (by omega), w64_of (by omega) (by omega), w64_of (by omega) (by omega), by omega, by omega, by omega, by omega⟩
    by_cases hd : D = 1 ∨ D = -1
    · obtain ⟨k1, k2, k3, k4, k5⟩ := key D hd
      have hmx : max D (-D) = 1 := by omega
      refine ⟨D * m3, -D * m1, -D * m2, D * m, 0, fun r => ?_, fun r => ?_, fun _ => ⟨trivial, k5, D, hd, rfl, rfl, rfl, rfl, rfl⟩⟩
      · unfold mtB at k5
        simp only [hmx, k1, k2, k3, k4, k5, decide_true, Bool.not_true, cond_false]
      · simp only [k1, k2, k3, k4]
        rcases hd with rfl | rfl <;> simp
    · have hmx : ¬ max D (-D) = 1 := by omega
      have hd1 : ¬ D = 1 := by omega
      have hd2 : ¬ D = -1 := by omega
      exact ⟨0, 0, 0, 0, 5, fun r => by simp [hmx], fun r => by simp [hd1, hd2], fun e => by omega⟩

theorem mateOf_both (k : Nat) (hk : 1000000000 < k) (a b : Int) : ∃ x y z, (∀ r : Int → Int → Int → Option α, impl_MateOf k a b r = r x y z) ∧ (∀ r : Int → Int → Int → Option α, spec_MateOf k a b r = r x y z) ∧
    (z = 0 → (crd a && crd b) = true ∧ (crd x && crd y) = true ∧ a * y - b * x = 1) := by
  simp only [impl_MateOf, spec_MateOf, impl_IsPoint_eq, spec_l01Is_eq, impl_Point_isPrimitive, impl_Point_length, impl_Point_told]
  cases h : (crd a && crd b) with
  | false => exact ⟨0, 0, 1, fun r => by simp, fun r => by simp, fun e => by omega⟩
  | true =>
    have h2 := h
    simp only [Bool.and_eq_true, crd_iff] at h2
    have g1 := fun r : Int → Option α => impl_gcd_eq k a b r (by omega) (by omega) (by omega) (by omega) hk
    have g2 := fun r : Int → Option α => spec_l01Gcd_eq k a b r (by omega) (by omega) (by omega) (by omega) hk
    simp only [g1, g2]
    by_cases hg : gcdI a b = 1
    · obtain ⟨p, q, hm, e1, e2⟩ := mate_ok (α := α) k hk h2.1.1 h2.1.2 h2.2.1 h2.2.2 hg
      have hq : -1000000 ≤ q ∧ q ≤ 1000000 := by
        have hd := hm.det
        by_cases h0 : a = 0
        · have := hm.z h0; omega
        · have hp := hm.p0 h0
          have mb := mul_bound (a := b) (b := p) (A := 1000000) (B := (a.natAbs : Int) - 1) (by omega) (by omega) (by omega) (by omega)
          have e : a * q = 1 + b * p := by omega
          constructor
          · rcases ilt_or_ge q (-1000000) with hlt | hge
            · exfalso
              rcases (show 1 ≤ a ∨ a ≤ -1 by omega) with h3 | h3
              · have : a * q ≤ a * -1000001 := Int.mul_le_mul_of_nonneg_left (by omega) (by omega)
                omega
              · have : -a * q ≤ -a * -1000001 := Int.mul_le_mul_of_nonneg_left (by omega) (by omega)
                have e3 : -a * q = -(a * q) := by grind
                omega
            · exact hge
          · rcases ilt_or_ge 1000000 q with hlt | hge
            · exfalso
              rcases (show 1 ≤ a ∨ a ≤ -1 by omega) with h3 | h3
              · have : a * 1000001 ≤ a * q := Int.mul_le_mul_of_nonneg_left (by omega) (by omega)
                omega
              · have : -a * 1000001 ≤ -a * q := Int.mul_le_mul_of_nonneg_left (by omega) (by omega)
                have e3 : -a * q = -(a * q) := by grind
                omega
            · exact hge
      have hpb := hm.pb
      have hc : (crd p && crd q) = true := by
        rw [Bool.and_eq_true, crd_iff, crd_iff]
        omega
      have hc2 := hc
      rw [Bool.and_eq_true] at hc2
      exact ⟨p, q, 0, fun r => by simp [hg, e2, hc2.1, hc2.2], fun r => by simp [hg, e1], fun _ => ⟨trivial, hc, hm.det⟩⟩
    · exact ⟨0, 0, 5, fun r => by simp [hg], fun r => by simp [hg], fun e => by omega⟩

theorem distance_both (k : Nat) (hk : 1000000000 < k) (a b c d e f : Int) : ∃ v z, (∀ r : Int → Int → Option α, impl_DistanceOf k a b c d e f r = r v z) ∧ (∀ r : Int → Int → Option α, spec_DistanceOf k a b c d e f r = r v z) ∧
    (z = 0 → (crd a && crd b && (crd c && crd d && (crd e && crd f))) = true ∧ v * gcdI (c - a) (d - b) = absI (detS a b c d e f)) := by
  simp only [impl_DistanceOf, spec_DistanceOf, points3 k (show 4 ≤ k by omega), code3 k (show 4 ≤ k by omega)]
  cases h : (crd a && crd b && (crd c && crd d && (crd e && crd f))) with
  | false => exact ⟨0, 1, fun r => by simp, fun r => by simp, fun e => by omega⟩
  | true =>
    by_cases hz : a = c ∧ b = d
    · exact ⟨0, 5, fun r => by simp [hz.1, hz.2], fun r => by simp [hz.1, hz.2], fun e => by omega⟩
    · have hz2 : (decide (a = c) && decide (b = d)) = false := by
        rw [Bool.and_eq_false_iff, decide_eq_false_iff_not, decide_eq_false_iff_not]
        omega
      simp only [Bool.and_eq_true, crd_iff] at h
      obtain ⟨⟨ha, hb⟩, ⟨hc, hd⟩, he, hf⟩ := h
      have m1 := mul_bound (a := c - a) (b := f - b) (A := 2000000) (B := 2000000) (by omega) (by omega) (by omega) (by omega)
      have m2 := mul_bound (a := d - b) (b := e - a) (A := 2000000) (B := 2000000) (by omega) (by omega) (by omega) (by omega)
      have hw := det_w (a := c - a) (b := d - b) (c := e - a) (d := f - b) (by omega) (by omega) (by omega) (by omega)
      have hne : c - a ≠ 0 ∨ d - b ≠ 0 := by omega
      have hg := gcdI_pos hne
      have hg0 : decide (gcdI (c - a) (d - b) = 0) = false := decide_eq_false (by omega)
      have hda : gcdI (c - a) (d - b) ∣ absI (detS a b c d e f) := by
        have hd : gcdI (c - a) (d - b) ∣ detS a b c d e f := by
          unfold detS gcdI
          exact Int.dvd_sub (Int.dvd_trans (Int.gcd_dvd_left _ _) (Int.dvd_mul_right _ _)) (Int.dvd_trans (Int.gcd_dvd_right _ _) (Int.dvd_mul_right _ _))
        unfold absI
        rcases (show max (detS a b c d e f) (-detS a b c d e f) = detS a b c d e f ∨ max (detS a b c d e f) (-detS a b c d e f) = -detS a b c d e f by omega) with e | e
        · rw [e]; exact hd
        · rw [e]; exact (Int.dvd_neg).2 hd
      have hA : 0 ≤ absI (detS a b c d e f) ∧ absI (detS a b c d e f) ≤ 8000000000000 := by
        unfold absI detS
        omega
      have hq := tdiv_abs (absI (detS a b c d e f)) (gcdI (c - a) (d - b))
      refine ⟨Int.tdiv (absI (detS a b c d e f)) (gcdI (c - a) (d - b)), 0, fun r => ?_, fun r => ?_, fun _ => ⟨rfl, Int.tdiv_mul_cancel hda⟩⟩
      · simp only [Bool.not_true, cond_false, hz2, impl_area, impl_det, impl_Point_length]
        rw [impl_less_eq k c d a b _ (by omega) (by omega) (by omega) (by omega), impl_less_eq k e f a b _ (by omega) (by omega) (by omega) (by omega), hw.1, impl_size_eq k _ _ (by omega) (by omega), impl_less_eq k c d a b _ (by omega) (by omega) (by omega) (by omega), impl_gcd_eq k _ _ _ (by omega) (by omega) (by omega) (by omega) hk, hg0, cond_false]
        show r (w64 (Int.tdiv (absI (detS a b c d e f)) (gcdI (c - a) (d - b)))) 0 = _
        rw [w64_of (by omega) (by omega)]
      · simp only [if_true, decide_true, Bool.not_true, cond_false, hz2, spec_l01Area, spec_l01Det, spec_l01Length]
        rw [spec_less_eq k c d a b _ (by omega) (by omega) (by omega) (by omega), spec_less_eq k e f a b _ (by omega) (by omega) (by omega) (by omega), hw.1, w64_of (n := 0 - ((c - a) * (f - b) - (d - b) * (e - a))) (by omega) (by omega), Int.zero_sub, w64_of (n := c - a) (by omega) (by omega), w64_of (n := d - b) (by omega) (by omega), spec_l01Gcd_eq k _ _ _ (by omega) (by omega) (by omega) (by omega) hk, hg0, cond_false]
        show r (w64 (Int.tdiv (absI (detS a b c d e f)) (gcdI (c - a) (d - b)))) 0 = _
        rw [w64_of (by omega) (by omega)]

theorem primOf_both (k : Nat) (hk : 1000000000 < k) (a b : Int) : ∃ x y z, (∀ r : Int → Int → Int → Option α, impl_PrimitiveOf k a b r = r x y z) ∧ (∀ r : Int → Int → Int → Option α, spec_PrimitiveOf k a b r = r x y z) := by
  simp only [impl_PrimitiveOf, spec_PrimitiveOf, impl_IsPoint_eq, spec_l01Is_eq]
  cases h : (crd a && crd b) with
  | false => exact ⟨0, 0, 1, fun r => by simp, fun r => by simp⟩
  | true =>
    by_cases hz : a = 0 ∧ b = 0
    · exact ⟨0, 0, 5, fun r => by simp [hz.1, hz.2], fun r => by simp [hz.1, hz.2]⟩
    · have hz2 : (decide (a = 0) && decide (b = 0)) = false := by
        rw [Bool.and_eq_false_iff, decide_eq_false_iff_not, decide_eq_false_iff_not]
        omega
      simp only [Bool.and_eq_true, crd_iff] at h
      refine ⟨(prim a b).1, (prim a b).2, 0, fun r => ?_, fun r => ?_⟩
      · simp only [Bool.not_true, cond_false, hz2]
        rw [impl_primitive_eq k a b _ (by omega) (by omega) (by omega) (by omega) hk (by omega)]
      · simp only [Bool.not_true, cond_false, hz2]
        rw [spec_l01Part_eq k a b _ (by omega) (by omega) (by omega) (by omega) hk (by omega)]

theorem addOf_both (k : Nat) (hk : 3 ≤ k) (a b c d n : Int) : ∃ x y z, (∀ r : Int → Int → Int → Option α, impl_AddPoints k a b c d n r = r x y z) ∧ (∀ r : Int → Int → Int → Option α, spec_AddPoints k a b c d n r = r x y z) := by
  simp only [impl_AddPoints, spec_AddPoints, impl_points2 k hk, code2 k hk, impl_isCoord_eq, spec_l01Fits_eq, impl_Point_plus, spec_l01Plus, impl_Point_told, spec_l01Told, impl_IsPoint_eq, spec_l01Is_eq]
  cases h : (crd a && crd b && (crd c && crd d)) with
  | false => exact ⟨0, 0, 1, fun r => by simp, fun r => by simp⟩
  | true =>
    cases h2 : crd n with
    | false => exact ⟨0, 0, 2, fun r => by simp, fun r => by simp⟩
    | true =>
      cases h3 : (crd (w64 (a + w64 (n * c))) && crd (w64 (b + w64 (n * d)))) with
      | false => exact ⟨0, 0, 3, fun r => by simp, fun r => by simp⟩
      | true => exact ⟨w64 (a + w64 (n * c)), w64 (b + w64 (n * d)), 0, fun r => by simp, fun r => by simp⟩

theorem gcd_uni {m m1 m2 m3 d : Int} (hd : d = 1 ∨ d = -1) (h : m * m3 - m1 * m2 = d) (x y : Int) : gcdI (m * x + m1 * y) (m2 * x + m3 * y) = gcdI x y := by
  unfold gcdI
  congr 1
  have hx : x = d * (m3 * (m * x + m1 * y) - m1 * (m2 * x + m3 * y)) := by
    have e : d * (m3 * (m * x + m1 * y) - m1 * (m2 * x + m3 * y)) = d * (m * m3 - m1 * m2) * x := by grind
    rw [e, h]
    rcases hd with rfl | rfl <;> omega
  have hy : y = d * (m * (m2 * x + m3 * y) - m2 * (m * x + m1 * y)) := by
    have e : d * (m * (m2 * x + m3 * y) - m2 * (m * x + m1 * y)) = d * (m * m3 - m1 * m2) * y := by grind
    rw [e, h]
    rcases hd with rfl | rfl <;> omega
  refine Nat.dvd_antisymm (Int.dvd_gcd ?_ ?_) (Int.dvd_gcd ?_ ?_)
  · conv => rhs; rw [hx]
    exact Int.dvd_trans (Int.dvd_sub (Int.dvd_trans (Int.gcd_dvd_left _ _) (Int.dvd_mul_left _ _)) (Int.dvd_trans (Int.gcd_dvd_right _ _) (Int.dvd_mul_left _ _))) (Int.dvd_mul_left _ _)
  · conv => rhs; rw [hy]
    exact Int.dvd_trans (Int.dvd_sub (Int.dvd_trans (Int.gcd_dvd_right _ _) (Int.dvd_mul_left _ _)) (Int.dvd_trans (Int.gcd_dvd_left _ _) (Int.dvd_mul_left _ _))) (Int.dvd_mul_left _ _)
  · exact Int.dvd_add (Int.dvd_trans (Int.gcd_dvd_left _ _) (Int.dvd_mul_left _ _)) (Int.dvd_trans (Int.gcd_dvd_right _ _) (Int.dvd_mul_left _ _))
  · exact Int.dvd_add (Int.dvd_trans (Int.gcd_dvd_left _ _) (Int.dvd_mul_left _ _)) (Int.dvd_trans (Int.gcd_dvd_right _ _) (Int.dvd_mul_left _ _))

theorem dz (z : Int) : decide (z = z) = true := by simp

theorem sk1 (z : Int) (A B : Option α) : (bif (!decide (z = z)) then A else B) = B := by simp

theorem sk2 (x y : Int) (A B : Option α) : (bif (!(decide (x = x) && decide (y = y))) then A else B) = B := by simp

theorem sk4 (x y z w : Int) (A B : Option α) : (bif (!(decide (x = x) && (decide (y = y) && (decide (z = z) && decide (w = w))))) then A else B) = B := by simp

theorem skb (b : Bool) (A B : Option α) : (bif (!(b == b)) then A else B) = B := by simp

theorem ok1 (z : Int) (A B : Option α) : (bif decide (z = z) then A else B) = A := by simp

theorem ok2 (x y : Int) (A B : Option α) : (bif (decide (x = x) && decide (y = y)) then A else B) = A := by simp

theorem ok4 (x y z w : Int) (A B : Option α) : (bif (decide (x = x) && (decide (y = y) && (decide (z = z) && decide (w = w)))) then A else B) = A := by simp

theorem spec_IsMatrix_eq (k : Nat) (a b c d : Int) (r : Bool → Option α) : spec_IsMatrix k a b c d r = r (crd a && (crd b && (crd c && crd d))) := by simp only [spec_IsMatrix, spec_l01Matrix_eq]

theorem law_FnPointMaps (k : Nat) (hk : 1000000000 < k) (l : List Int) (r : Bool → Option α) (hb : ∀ x ∈ l, 0 ≤ x ∧ x ≤ 255) : laws_FnPointMaps k l r = r true := by
  unfold laws_FnPointMaps laws_FnPointMaps_F
  rw [laws_big_eq]
  by_cases hlen : 4096 < (l.length : Int)
  · rw [dec_lt_t hlen, cond_true]
  · rw [dec_lt_f (by omega), cond_false]
    have hl : IsCode l := ⟨by omega, hb⟩
    obtain ⟨m, m1, m2, m3, eI⟩ := dInverse_ok (α := α) hl k (by omega)
    obtain ⟨n, n1, n2, n3, zi, iI, iS, hI⟩ := inverse_both (α := α) k (by omega) m m1 m2 m3
    obtain ⟨a, b, c, d, e, f, eR⟩ := dArea_ok (α := α) hl k (by omega)
    obtain ⟨v0, z0, rI, rS, hR1, hR2⟩ := area_both (α := α) k (by omega) a b c d e f
    obtain ⟨p, q, eT⟩ := dMate_ok (α := α) hl k (by omega)
    obtain ⟨t, u, zt, tI, tS, hT⟩ := mateOf_both (α := α) k hk p q
    obtain ⟨g0, g1, g2, g3, g4, g5, eD⟩ := dDistance_ok (α := α) hl k (by omega)
    obtain ⟨vd, zd, dI, dS, hDs⟩ := distance_both (α := α) k hk g0 g1 g2 g3 g4 g5
    obtain ⟨s0, s1, eP⟩ := dPrimitive_ok (α := α) hl k (by omega)
    obtain ⟨_, _, _, pI, pS⟩ := primOf_both (α := α) k hk s0 s1
    obtain ⟨a0, a1, a2, a3, a4, eA⟩ := dAdd_ok (α := α) hl k (by omega)
    obtain ⟨_, _, _, aI, aS⟩ := addOf_both (α := α) k (by omega) a0 a1 a2 a3 a4
    obtain ⟨y0, y1, y2, y3, y4, y5, eY⟩ := dApply_ok (α := α) hl k (by omega)
    obtain ⟨_, _, _, yI, yS, _, _⟩ := apply_both (α := α) k (by omega) y0 y1 y2 y3 y4 y5
    obtain ⟨x0, x1, x2, x3, x4, x5, x6, x7, eM⟩ := dMultiply_ok (α := α) hl k (by omega)
    obtain ⟨_, _, _, _, _, xI, xS, _⟩ := multiply_both (α := α) k (by omega) x0 x1 x2 x3 x4 x5 x6 x7
    obtain ⟨l0, l1, l2, l3, eL⟩ := dLength_ok (α := α) hl k (by omega)
    obtain ⟨_, _, lI, lS, _⟩ := length_both (α := α) k hk l0 l1 l2 l3
    have hMt : zt = 0 → ∀ r : Int → Int → Option α, impl_DeterminantOf k p q t u r = r 1 0 := fun hz r => by
      obtain ⟨h1, h2, h3⟩ := hT hz
      rw [detOf_impl k (by omega), h1, h2, Bool.and_self, cond_true]
      unfold detP
      rw [h3]
    obtain ⟨vL, zL, kI, _, kH⟩ := length_both (α := α) k hk g0 g1 g2 g3
    obtain ⟨vA, zA, wI, _, _, wH⟩ := area_both (α := α) k (by omega) g0 g1 g2 g3 g4 g5
    have hD : zd = 0 → (∀ r : Int → Int → Option α, impl_LengthOf k g0 g1 g2 g3 r = r vL 0) ∧ (∀ r : Int → Int → Option α, impl_AreaOf k g0 g1 g2 g3 g4 g5 r = r vA 0) := fun hz => by
      obtain ⟨h1, h2⟩ := hDs hz
      have h3 := wH h1
      simp only [Bool.and_eq_true] at h1
      have h4 := kH (by simp only [Bool.and_eq_true]; exact ⟨h1.1, h1.2.1⟩)
      exact ⟨fun r => by rw [kI, h4.1], fun r => by rw [wI, h3.1]⟩
    have hdw : zd = 0 → w64 (vd * vL) = vA := fun hz => by
      obtain ⟨h1, h2⟩ := hDs hz
      have h3 := wH h1
      simp only [Bool.and_eq_true] at h1
      have h4 := kH (by simp only [Bool.and_eq_true]; exact ⟨h1.1, h1.2.1⟩)
      rw [h4.2, h2, h3.2]
      simp only [crd_iff] at h1
      have mm1 := mul_bound (a := g2 - g0) (b := g5 - g1) (A := 2000000) (B := 2000000) (by omega) (by omega) (by omega) (by omega)
      have mm2 := mul_bound (a := g3 - g1) (b := g4 - g0) (A := 2000000) (B := 2000000) (by omega) (by omega) (by omega) (by omega)
      refine w64_of ?_ ?_ <;> (unfold absI detS; omega)
    rw [eI, iI, iS, eR, rI, rS, sk1, sk4, sk1, sk1, impl_IsMatrix_eq k (by omega)]
    rw [spec_IsMatrix_eq, skb]
    by_cases hzi : zi = 0
    · rw [decide_eq_true hzi, cond_true]
      obtain ⟨b1, b2, D, hD1, hD2, e1, e2, e3, e4⟩ := hI hzi
      obtain ⟨_, _, _, _, _, cI, _, cH⟩ := multiply_both (α := α) k (by omega) m m1 m2 m3 n n1 n2 n3
      have q1 : m * n + m1 * n2 = 1 := by
        have : m * n + m1 * n2 = D * (m * m3 - m1 * m2) := by rw [e1, e3]; grind
        rw [this, hD2]; rcases hD1 with rfl | rfl <;> rfl
      have q2 : m * n1 + m1 * n3 = 0 := by rw [e2, e4]; grind
      have q3 : m2 * n + m3 * n2 = 0 := by rw [e1, e3]; grind
      have q4 : m2 * n1 + m3 * n3 = 1 := by
        have : m2 * n1 + m3 * n3 = D * (m * m3 - m1 * m2) := by rw [e2, e4]; grind
        rw [this, hD2]; rcases hD1 with rfl | rfl <;> rfl
      have c2 := cH b1 b2 (by rw [q1, q2, q3, q4]; rfl)
      rw [q1, q2, q3, q4] at c2
      rw [cI, c2.1, c2.2.1, c2.2.2.1, c2.2.2.2.1, c2.2.2.2.2, sk1, sk4]
      obtain ⟨xa, ya, za, uI, _, uH, _⟩ := apply_both (α := α) k (by omega) m m1 m2 m3 a b
      obtain ⟨xb, yb, zb, vI, _, vH, _⟩ := apply_both (α := α) k (by omega) m m1 m2 m3 c d
      obtain ⟨xc, yc, zc, hI2, _, hH, _⟩ := apply_both (α := α) k (by omega) m m1 m2 m3 e f
      rw [uI, vI, hI2]
      by_cases hza : za = 0
      · rw [decide_eq_true hza, cond_true]
        by_cases hzb : zb = 0
        · rw [decide_eq_true hzb, cond_true]
          by_cases hzc : zc = 0
          · rw [decide_eq_true hzc, cond_true]
            obtain ⟨_, pa, pa2, ea1, ea2⟩ := uH hza
            obtain ⟨_, pb, pb2, eb1, eb2⟩ := vH hzb
            obtain ⟨_, pc, pc2, ec1, ec2⟩ := hH hzc
            obtain ⟨v1, z1, jI, _, _, jH⟩ := area_both (α := α) k (by omega) xa ya xb yb xc yc
            obtain ⟨v2, z2, j2I, _, j2H⟩ := length_both (α := α) k hk xa ya xb yb
            obtain ⟨v3, z3, j3I, _, j3H⟩ := length_both (α := α) k hk a b c d
            obtain ⟨x9, y9, z9, j4I, _, _, j4H⟩ := apply_both (α := α) k (by omega) n n1 n2 n3 xa ya
            have w0 := hR2 (by rw [pa, pb, pc]; rfl)
            have w1 := jH (by rw [pa2, pb2, pc2]; rfl)
            have w2 := j2H (by rw [pa2, pb2]; rfl)
            have w3 := j3H (by rw [pa, pb]; rfl)
            have r1 : n * xa + n1 * ya = a := by
              have : n * xa + n1 * ya = D * (m * m3 - m1 * m2) * a := by rw [e1, e2, ea1, ea2]; grind
              rw [this, hD2]; rcases hD1 with rfl | rfl <;> omega
            have r2 : n2 * xa + n3 * ya = b := by
              have : n2 * xa + n3 * ya = D * (m * m3 - m1 * m2) * b := by rw [e3, e4, ea1, ea2]; grind
              rw [this, hD2]; rcases hD1 with rfl | rfl <;> omega
            have w4 := j4H b2 pa2 (by rw [r1, r2]; exact pa)
            have f1 : v1 = v0 := by
              rw [w1.2, w0.2]
              have : detS xa ya xb yb xc yc = D * detS a b c d e f := by
                have e9 : detS xa ya xb yb xc yc = (m * m3 - m1 * m2) * detS a b c d e f := by unfold detS; rw [ea1, ea2, eb1, eb2, ec1, ec2]; grind
                rw [e9, hD2]
              rw [this]
              unfold absI
              rcases hD1 with rfl | rfl <;> omega
            have f2 : v2 = v3 := by
              rw [w2.2, w3.2]
              have g1 : xb - xa = m * (c - a) + m1 * (d - b) := by rw [eb1, ea1]; grind
              have g2 : yb - ya = m2 * (c - a) + m3 * (d - b) := by rw [eb2, ea2]; grind
              rw [g1, g2]
              exact gcd_uni hD1 hD2 _ _
            rw [jI, j2I, j3I, j4I, w1.1, w2.1, w3.1, w4.1, sk1, sk1, sk1, sk1, f1, sk1, f2, sk1, w4.2.1, w4.2.2, r1, r2, sk2]
            rw [eT, tI, tS, sk1, sk2]
            by_cases hzt : zt = 0
            · rw [decide_eq_true hzt, cond_true, hMt hzt, sk1, sk1]
              rw [eD, dI, dS, sk1, sk1]
              by_cases hzd : zd = 0
              · obtain ⟨q1, q2⟩ := hD hzd
                rw [decide_eq_true hzd, cond_true, q1, q2, sk1, sk1, hdw hzd, sk1]
                rw [eP, pI, pS, eA, aI, aS, eY, yI, yS, eM, xI, xS, eL, lI, lS, ok1, ok2, ok1, ok2, ok1, ok2, ok1, ok4, ok1, dz]
              · rw [decide_eq_false hzd, cond_false]
                rw [eP, pI, pS, eA, aI, aS, eY, yI, yS, eM, xI, xS, eL, lI, lS, ok1, ok2, ok1, ok2, ok1, ok2, ok1, ok4, ok1, dz]
            · rw [decide_eq_false hzt, cond_false]
              rw [eD, dI, dS, sk1, sk1]
              by_cases hzd : zd = 0
              · obtain ⟨q1, q2⟩ := hD hzd
                rw [decide_eq_true hzd, cond_true, q1, q2, sk1, sk1, hdw hzd, sk1]
                rw [eP, pI, pS, eA, aI, aS, eY, yI, yS, eM, xI, xS, eL, lI, lS, ok1, ok2, ok1, ok2, ok1, ok2, ok1, ok4, ok1, dz]
              · rw [decide_eq_false hzd, cond_false]
                rw [eP, pI, pS, eA, aI, aS, eY, yI, yS, eM, xI, xS, eL, lI, lS, ok1, ok2, ok1, ok2, ok1, ok2, ok1, ok4, ok1, dz]
          · rw [decide_eq_false hzc, cond_false]
            rw [eT, tI, tS, sk1, sk2]
            by_cases hzt : zt = 0
            · rw [decide_eq_true hzt, cond_true, hMt hzt, sk1, sk1]
              rw [eD, dI, dS, sk1, sk1]
              by_cases hzd : zd = 0
              · obtain ⟨q1, q2⟩ := hD hzd
                rw [decide_eq_true hzd, cond_true, q1, q2, sk1, sk1, hdw hzd, sk1]
                rw [eP, pI, pS, eA, aI, aS, eY, yI, yS, eM, xI, xS, eL, lI, lS, ok1, ok2, ok1, ok2, ok1, ok2, ok1, ok4, ok1, dz]
              · rw [decide_eq_false hzd, cond_false]
                rw [eP, pI, pS, eA, aI, aS, eY, yI, yS, eM, xI, xS, eL, lI, lS, ok1, ok2, ok1, ok2, ok1, ok2, ok1, ok4, ok1, dz]
            · rw [decide_eq_false hzt, cond_false]
              rw [eD, dI, dS, sk1, sk1]
              by_cases hzd : zd = 0
              · obtain ⟨q1, q2⟩ := hD hzd
                rw [decide_eq_true hzd, cond_true, q1, q2, sk1, sk1, hdw hzd, sk1]
                rw [eP, pI, pS, eA, aI, aS, eY, yI, yS, eM, xI, xS, eL, lI, lS, ok1, ok2, ok1, ok2, ok1, ok2, ok1, ok4, ok1, dz]
              · rw [decide_eq_false hzd, cond_false]
                rw [eP, pI, pS, eA, aI, aS, eY, yI, yS, eM, xI, xS, eL, lI, lS, ok1, ok2, ok1, ok2, ok1, ok2, ok1, ok4, ok1, dz]
        · rw [decide_eq_false hzb, cond_false]
          rw [eT, tI, tS, sk1, sk2]
          by_cases hzt : zt = 0
          · rw [decide_eq_true hzt, cond_true, hMt hzt, sk1, sk1]
            rw [eD, dI, dS, sk1, sk1]
            by_cases hzd : zd = 0
            · obtain ⟨q1, q2⟩ := hD hzd
              rw [decide_eq_true hzd, cond_true, q1, q2, sk1, sk1, hdw hzd, sk1]
              rw [eP, pI, pS, eA, aI, aS, eY, yI, yS, eM, xI, xS, eL, lI, lS, ok1, ok2, ok1, ok2, ok1, ok2, ok1, ok4, ok1, dz]
            · rw [decide_eq_false hzd, cond_false]
              rw [eP, pI, pS, eA, aI, aS, eY, yI, yS, eM, xI, xS, eL, lI, lS, ok1, ok2, ok1, ok2, ok1, ok2, ok1, ok4, ok1, dz]
          · rw [decide_eq_false hzt, cond_false]
            rw [eD, dI, dS, sk1, sk1]
            by_cases hzd : zd = 0
            · obtain ⟨q1, q2⟩ := hD hzd
              rw [decide_eq_true hzd, cond_true, q1, q2, sk1, sk1, hdw hzd, sk1]
              rw [eP, pI, pS, eA, aI, aS, eY, yI, yS, eM, xI, xS, eL, lI, lS, ok1, ok2, ok1, ok2, ok1, ok2, ok1, ok4, ok1, dz]
            · rw [decide_eq_false hzd, cond_false]
              rw [eP, pI, pS, eA, aI, aS, eY, yI, yS, eM, xI, xS, eL, lI, lS, ok1, ok2, ok1, ok2, ok1, ok2, ok1, ok4, ok1, dz]
      · rw [decide_eq_false hza, cond_false]
        rw [eT, tI, tS, sk1, sk2]
        by_cases hzt : zt = 0
        · rw [decide_eq_true hzt, cond_true, hMt hzt, sk1, sk1]
          rw [eD, dI, dS, sk1, sk1]
          by_cases hzd : zd = 0
          · obtain ⟨q1, q2⟩ := hD hzd
            rw [decide_eq_true hzd, cond_true, q1, q2, sk1, sk1, hdw hzd, sk1]
            rw [eP, pI, pS, eA, aI, aS, eY, yI, yS, eM, xI, xS, eL, lI, lS, ok1, ok2, ok1, ok2, ok1, ok2, ok1, ok4, ok1, dz]
          · rw [decide_eq_false hzd, cond_false]
            rw [eP, pI, pS, eA, aI, aS, eY, yI, yS, eM, xI, xS, eL, lI, lS, ok1, ok2, ok1, ok2, ok1, ok2, ok1, ok4, ok1, dz]
        · rw [decide_eq_false hzt, cond_false]
          rw [eD, dI, dS, sk1, sk1]
          by_cases hzd : zd = 0
          · obtain ⟨q1, q2⟩ := hD hzd
            rw [decide_eq_true hzd, cond_true, q1, q2, sk1, sk1, hdw hzd, sk1]
            rw [eP, pI, pS, eA, aI, aS, eY, yI, yS, eM, xI, xS, eL, lI, lS, ok1, ok2, ok1, ok2, ok1, ok2, ok1, ok4, ok1, dz]
          · rw [decide_eq_false hzd, cond_false]
            rw [eP, pI, pS, eA, aI, aS, eY, yI, yS, eM, xI, xS, eL, lI, lS, ok1, ok2, ok1, ok2, ok1, ok2, ok1, ok4, ok1, dz]
    · rw [decide_eq_false hzi, cond_false]
      rw [eT, tI, tS, sk1, sk2]
      by_cases hzt : zt = 0
      · rw [decide_eq_true hzt, cond_true, hMt hzt, sk1, sk1]
        rw [eD, dI, dS, sk1, sk1]
        by_cases hzd : zd = 0
        · obtain ⟨q1, q2⟩ := hD hzd
          rw [decide_eq_true hzd, cond_true, q1, q2, sk1, sk1, hdw hzd, sk1]
          rw [eP, pI, pS, eA, aI, aS, eY, yI, yS, eM, xI, xS, eL, lI, lS, ok1, ok2, ok1, ok2, ok1, ok2, ok1, ok4, ok1, dz]
        · rw [decide_eq_false hzd, cond_false]
          rw [eP, pI, pS, eA, aI, aS, eY, yI, yS, eM, xI, xS, eL, lI, lS, ok1, ok2, ok1, ok2, ok1, ok2, ok1, ok4, ok1, dz]
      · rw [decide_eq_false hzt, cond_false]
        rw [eD, dI, dS, sk1, sk1]
        by_cases hzd : zd = 0
        · obtain ⟨q1, q2⟩ := hD hzd
          rw [decide_eq_true hzd, cond_true, q1, q2, sk1, sk1, hdw hzd, sk1]
          rw [eP, pI, pS, eA, aI, aS, eY, yI, yS, eM, xI, xS, eL, lI, lS, ok1, ok2, ok1, ok2, ok1, ok2, ok1, ok4, ok1, dz]
        · rw [decide_eq_false hzd, cond_false]
          rw [eP, pI, pS, eA, aI, aS, eY, yI, yS, eM, xI, xS, eL, lI, lS, ok1, ok2, ok1, ok2, ok1, ok2, ok1, ok4, ok1, dz]

end Go.Sh
