/- Plain laws: what the readings without memory answer. -/
import Derived.Test.YtagbaokadelhaaaShLSails
namespace Go.Sh
open Go Go.Ev

variable {α : Type}

theorem spec_l01In_eq (k : Nat) (n low high : Int) (r : Bool → Option α) : spec_l01In k n low high r = r (inB n low high) := by
  unfold spec_l01In inB
  cases decide (low ≤ n) <;> rfl

theorem spec_l01Fits_eq (k : Nat) (n : Int) (r : Bool → Option α) : spec_l01Fits k n r = r (crd n) := by
  simp only [spec_l01Fits, spec_l01In_eq]; rfl

theorem spec_l01Is_eq (k : Nat) (a b : Int) (r : Bool → Option α) : spec_l01Is k a b r = r (crd a && crd b) := by
  simp only [spec_l01Is, spec_l01Fits_eq]
  cases crd a <;> rfl

theorem impl_in_eq (k : Nat) (n low high : Int) (r : Bool → Option α) : impl_in k n low high r = r (inB n low high) := by
  unfold impl_in inB
  cases decide (low ≤ n) <;> rfl

theorem impl_isCoord_eq (k : Nat) (n : Int) (r : Bool → Option α) : impl_isCoord k n r = r (crd n) := by
  simp only [impl_isCoord, impl_in_eq]; rfl

theorem impl_IsPoint_eq (k : Nat) (a b : Int) (r : Bool → Option α) : impl_IsPoint k a b r = r (crd a && crd b) := by
  simp only [impl_IsPoint, impl_isCoord_eq]
  cases crd a <;> rfl

theorem impl_points_find (k : Nat) (s : List (Int × Int)) (hs : s.length ≤ big) (hk : s.length < k) (r : Bool → Option α) : impl_points k s r = r (s.all fun e => crd e.1 && crd e.2) := by
  unfold impl_points slices_ContainsFunc_impl_Point_impl_Point_1F_impl_points_1 slices_IndexFunc_impl_Point_impl_Point_1F_impl_points_1
  have h := find_loop (α := α) (p := fun e : Int × Int => !(crd e.1 && crd e.2)) (L := slices_IndexFunc_impl_Point_impl_Point_1F_impl_points_1_l2)
    (fun k x i s b r => by simp only [slices_IndexFunc_impl_Point_impl_Point_1F_impl_points_1_l2, impl_points_1, impl_IsPoint_eq]) s k 0 s
  have h0 : ((0 : Nat) : Int) = 0 := rfl
  rw [h0] at h
  rw [h _ _ (by simp) hs (by omega) hk]
  cases hf : s.findIdx? (fun e : Int × Int => !(crd e.1 && crd e.2)) with
  | none =>
    rw [List.findIdx?_eq_none_iff] at hf
    have : (s.all fun e => crd e.1 && crd e.2) = true := List.all_eq_true.2 fun e he => by simpa using hf e he
    simp [this]
  | some j =>
    rw [List.findIdx?_eq_some_iff_getElem] at hf
    obtain ⟨hj, hp, _⟩ := hf
    have : (s.all fun e => crd e.1 && crd e.2) = false := by
      rw [List.all_eq_false]
      exact ⟨s[j], List.getElem_mem hj, by cases h1 : crd s[j].1 <;> cases h2 : crd s[j].2 <;> simp_all⟩
    rw [this]
    simp

theorem impl_points2 (k : Nat) (hk : 3 ≤ k) (a b c d : Int) (r : Bool → Option α) : impl_points k [(a, b), (c, d)] r = r (crd a && crd b && (crd c && crd d)) := by
  rw [impl_points_find _ _ (by rw [big_val]; simp) (by simp; omega)]
  simp

theorem spec_l01Rest_eq (k : Nat) (n x : Int) (r : Int → Option α) (hn : 0 < n) (hn2 : n ≤ 1000000000000000000) : spec_l01Rest k n x r = r (x % n) := by
  have h1 : -n < Int.tmod x n := Int.lt_tmod_of_pos x hn
  have h2 : Int.tmod x n < n := Int.tmod_lt_of_pos x hn
  simp only [spec_l01Rest, dec_eq_f (show n ≠ 0 by omega), cond_false]
  rw [w64_of (by omega) (by omega), rest_eq hn]

theorem impl_floor_eq (k : Nat) (a b : Int) (r : Int → Option α) (hb : 0 < b) (ha : -1000000000000000000 ≤ a) (ha2 : a ≤ 1000000000000000000) : impl_floor k a b r = r (a / b) := by
  have hq := tdiv_abs a b
  simp only [impl_floor, dec_eq_f (show b ≠ 0 by omega), cond_false, w64_of (n := Int.tdiv a b) (by omega) (by omega), w64_of (n := Int.tdiv a b - 1) (by omega) (by omega)]
  rw [← tdiv_floor a b hb]
  cases (!decide (Int.tmod a b = 0)) <;> cases (!(decide (a < 0) == decide (b < 0))) <;> rfl

theorem spec_l01Floor_eq (k : Nat) (a b : Int) (r : Int → Option α) (hb : 0 < b) (ha : -1000000000000000000 ≤ a) (ha2 : a ≤ 1000000000000000000) : spec_l01Floor k a b r = r (a / b) := by
  have hq := tdiv_abs a b
  simp only [spec_l01Floor, dec_eq_f (show b ≠ 0 by omega), cond_false, w64_of (n := Int.tdiv a b) (by omega) (by omega), w64_of (n := Int.tdiv a b - 1) (by omega) (by omega)]
  rw [← tdiv_floor a b hb]
  cases (!decide (Int.tmod a b = 0)) <;> cases (!(decide (a < 0) == decide (b < 0))) <;> rfl

theorem impl_mod_eq (k : Nat) (a b : Int) (r : Int → Option α) (hb : 0 < b) (hb2 : b ≤ 1000000000000000000) (ha : -1000000000000000000 ≤ a) (ha2 : a ≤ 1000000000000000000) : impl_mod k a b r = r (a % b) := by
  simp only [impl_mod, impl_floor_eq k a b _ hb ha ha2]
  have h1 := Int.emod_add_mul_ediv a b
  have h2 := Int.emod_nonneg a (b := b) (by omega)
  have h3 := Int.emod_lt_of_pos a hb
  rw [w64_of (n := b * (a / b)) (by omega) (by omega), w64_of (by omega) (by omega)]
  congr 1
  omega

theorem impl_size_eq (k : Nat) (n : Int) (r : Int → Option α) (h0 : -1000000000000000000 ≤ n) (h1 : n ≤ 1000000000000000000) : impl_size k n r = r (max n (-n)) := by
  simp only [impl_size]
  rw [w64_of (by omega) (by omega), Int.zero_sub]

def detP (a b c d : Int) : Int := a * d - b * c

def gcdI (a b : Int) : Int := (Int.gcd a b : Int)

theorem gcdI_le {a b B : Int} (ha : -B ≤ a) (ha1 : a ≤ B) (hb : -B ≤ b) (hb1 : b ≤ B) : 0 ≤ gcdI a b ∧ gcdI a b ≤ B := by
  unfold gcdI
  refine ⟨by omega, ?_⟩
  by_cases h : a = 0
  · subst h
    rw [Int.gcd_zero_left]
    omega
  · have := Int.gcd_le_natAbs_left (a := a) b h
    omega

theorem gcdI_pos {a b : Int} (h : a ≠ 0 ∨ b ≠ 0) : 0 < gcdI a b := by
  unfold gcdI
  have : Int.gcd a b ≠ 0 := fun e => by
    rw [Int.gcd_eq_zero_iff] at e
    omega
  omega

theorem gcd_step (a b : Int) : Int.gcd b (Int.tmod a b) = Int.gcd a b := by
  unfold Int.gcd
  rw [Int.natAbs_tmod, Nat.gcd_comm, ← Nat.gcd_rec, Nat.gcd_comm]

theorem tmod_lt_abs (a : Int) {b : Int} (h : b ≠ 0) : (Int.tmod a b).natAbs < b.natAbs := by
  rw [Int.natAbs_tmod]
  exact Nat.mod_lt _ (by omega)

theorem spec_gcd_l1 : ∀ (n k : Nat) (a b : Int) b0 (r0 : Int → Option α), b.natAbs ≤ n → n < k → ∃ g : Int, g.natAbs = Int.gcd a b ∧ spec_l01Gcd_l1 k a b b0 r0 = b0 g 0
  | n, k + 1, a, b, b0, r0, hn, hk => by
    by_cases h : b = 0
    · subst h
      exact ⟨a, by simp, by simp [spec_l01Gcd_l1]⟩
    · cases n with
      | zero => omega
      | succ n =>
        have := tmod_lt_abs a h
        obtain ⟨g, h1, h2⟩ := spec_gcd_l1 n k b (Int.tmod a b) b0 r0 (by omega) (by omega)
        refine ⟨g, by rw [h1, gcd_step], ?_⟩
        rw [spec_l01Gcd_l1, dec_eq_f h]
        exact h2
  | _, 0, _, _, _, _, _, hk => by omega

theorem impl_gcd_l1_ok : ∀ (n k : Nat) (a b : Int) b0 (r0 : Int → Option α), b.natAbs ≤ n → n < k → ∃ g : Int, g.natAbs = Int.gcd a b ∧ impl_gcd_l1 k a b b0 r0 = b0 g 0
  | n, k + 1, a, b, b0, r0, hn, hk => by
    by_cases h : b = 0
    · subst h
      exact ⟨a, by simp, by simp [impl_gcd_l1]⟩
    · cases n with
      | zero => omega
      | succ n =>
        have := tmod_lt_abs a h
        obtain ⟨g, h1, h2⟩ := impl_gcd_l1_ok n k b (Int.tmod a b) b0 r0 (by omega) (by omega)
        refine ⟨g, by rw [h1, gcd_step], ?_⟩
        rw [impl_gcd_l1, dec_eq_f h]
        exact h2
  | _, 0, _, _, _, _, _, hk => by omega

theorem spec_l01Gcd_eq (k : Nat) (a b : Int) (r : Int → Option α) (ha : -1000000000 ≤ a) (ha1 : a ≤ 1000000000) (hb : -1000000000 ≤ b) (hb1 : b ≤ 1000000000) (hk : 1000000000 < k) : spec_l01Gcd k a b r = r (gcdI a b) := by
  unfold spec_l01Gcd
  obtain ⟨g, h1, h2⟩ := spec_gcd_l1 (α := α) 1000000000 k a b (fun a2 b_2 => r (max a2 (w64 (0 - a2)))) r (by omega) hk
  have hb := gcdI_le ha ha1 hb hb1
  unfold gcdI at hb ⊢
  rw [h2, w64_of (by omega) (by omega)]
  congr 1
  omega

theorem impl_gcd_eq (k : Nat) (a b : Int) (r : Int → Option α) (ha : -1000000000 ≤ a) (ha1 : a ≤ 1000000000) (hb : -1000000000 ≤ b) (hb1 : b ≤ 1000000000) (hk : 1000000000 < k) : impl_gcd k a b r = r (gcdI a b) := by
  unfold impl_gcd
  obtain ⟨g, h1, h2⟩ := impl_gcd_l1_ok (α := α) 1000000000 k a b (fun a2 b_2 => impl_size k a2 fun v => r v) r (by omega) hk
  have hb := gcdI_le ha ha1 hb hb1
  unfold gcdI at hb ⊢
  rw [h2, impl_size_eq _ _ _ (by omega) (by omega)]
  congr 1
  omega

/-- A point's primitive one. -/
def prim (a b : Int) : Int × Int := (Int.tdiv a (gcdI a b), Int.tdiv b (gcdI a b))

theorem spec_l01Part_eq (k : Nat) (a b : Int) (r : Int → Int → Option α) (ha : -1000000000 ≤ a) (ha1 : a ≤ 1000000000) (hb : -1000000000 ≤ b) (hb1 : b ≤ 1000000000) (hk : 1000000000 < k) (h : a ≠ 0 ∨ b ≠ 0) : spec_l01Part k a b r = r (prim a b).1 (prim a b).2 := by
  have hp := gcdI_pos h
  have h1 := tdiv_abs a (gcdI a b)
  have h2 := tdiv_abs b (gcdI a b)
  unfold spec_l01Part prim
  rw [spec_l01Gcd_eq k a b _ ha ha1 hb hb1 hk]
  simp only
  rw [dec_eq_f (show gcdI a b ≠ 0 by omega), w64_of (by omega) (by omega), w64_of (by omega) (by omega)]
  rfl

theorem less_w {a b : Int} (ha : -1000000000 ≤ a) (ha1 : a ≤ 1000000000) (hb : -1000000000 ≤ b) (hb1 : b ≤ 1000000000) : w64 (a + w64 (-1 * b)) = a - b := by
  rw [w64_of (n := -1 * b) (by omega) (by omega), w64_of (by omega) (by omega)]
  omega

theorem impl_less_eq (k : Nat) (a b c d : Int) (r : Int → Int → Option α) (ha : -1000000000 ≤ a ∧ a ≤ 1000000000) (hb : -1000000000 ≤ b ∧ b ≤ 1000000000) (hc : -1000000000 ≤ c ∧ c ≤ 1000000000) (hd : -1000000000 ≤ d ∧ d ≤ 1000000000) : impl_Point_less k a b c d r = r (a - c) (b - d) := by
  unfold impl_Point_less impl_Point_plus
  rw [less_w ha.1 ha.2 hc.1 hc.2, less_w hb.1 hb.2 hd.1 hd.2]

theorem euclid_both : ∀ (m : Nat) (n β s u v rest next : Int), (s = 1 ∨ s = -1) → 0 ≤ u → u ≤ n → 0 ≤ v → v ≤ n → 0 ≤ rest → rest ≤ n → 0 ≤ next → next ≤ n → n ≤ 1000000000 → u * next + v * rest = n → n ∣ s * u * β - rest → n ∣ -s * v * β - next → next ≤ m →
    ∃ X g bef : Int, -n ≤ X ∧ X ≤ n ∧ n ∣ X * β - g ∧ g = gcdI rest next ∧ (∀ k, m < k → ∀ a2 a3 p q b0 (r0 : Int → Int → Option α), spec_l01Base_l5 k n (s * u) (-s * v) rest next a2 a3 p q b0 r0 = b0 n X bef g 0 a2 a3 p q) ∧
      (∀ k, m < k → ∀ b0 (r0 : Int → Option α), impl_bezout_l2 k n rest next (s * u) (-s * v) b0 r0 = b0 n g 0 X bef)
  | m, n, β, s, u, v, rest, next, hs, hu, hu2, hv, hv2, hr, hr2, hn, hn2, hb, he, d1, d2, hm => by
    by_cases hz : next = 0
    · subst hz
      refine ⟨s * u, rest, -s * v, ?_, ?_, d1, ?_, fun k hk a2 a3 p q b0 r0 => ?_, fun k hk b0 r0 => ?_⟩
      · rcases hs with rfl | rfl <;> omega
      · rcases hs with rfl | rfl <;> omega
      · unfold gcdI; rw [Int.gcd_zero_right]; omega
      · obtain ⟨k, rfl⟩ : ∃ k', k = k' + 1 := ⟨k - 1, by omega⟩
        rw [spec_l01Base_l5]; rfl
      · obtain ⟨k, rfl⟩ : ∃ k', k = k' + 1 := ⟨k - 1, by omega⟩
        rw [impl_bezout_l2]; rfl
    · have hpos : 0 < next := by omega
      have hq : Int.tdiv rest next = rest / next := Int.tdiv_eq_ediv_of_nonneg hr
      have hq0 : 0 ≤ rest / next := Int.ediv_nonneg hr (by omega)
      have hd := ediv_bounds (a := rest) hpos
      generalize rest / next = t at hq hq0 hd
      have c1 : next * t = t * next := Int.mul_comm _ _
      have tv : 0 ≤ t * v := Int.mul_nonneg hq0 hv
      have e2 : v * (rest - t * next) + (u + t * v) * next = n := by rw [← he]; grind
      have p1 : 0 ≤ v * (rest - t * next) := Int.mul_nonneg hv (by omega)
      have p2 : (u + t * v) * 1 ≤ (u + t * v) * next := Int.mul_le_mul_of_nonneg_left (by omega) (by omega)
      have tn : 0 ≤ t * next := Int.mul_nonneg hq0 hn
      have d2' : n ∣ -s * v * β - next := d2
      have d3 : n ∣ - -s * (u + t * v) * β - (rest - t * next) := by
        have e : - -s * (u + t * v) * β - (rest - t * next) = (s * u * β - rest) - t * (-s * v * β - next) := by grind
        rw [e]
        exact Int.dvd_sub d1 (Int.dvd_trans d2 (Int.dvd_mul_left _ _))
      obtain ⟨X, g, bef, x1, x2, x3, x4, f1, f2⟩ := euclid_both (m - 1) n β (-s) v (u + t * v) next (rest - t * next) (by omega) hv hv2 (by omega) (by omega) hn hn2 (by omega) (by omega) hb e2 d2' d3 (by omega)
      have eb : -s * (-s * v) = -s * -s * v := by grind
      have ex : s * u - t * (-s * v) = - -s * (u + t * v) := by grind
      have w1 : w64 (t * (-s * v)) = t * (-s * v) := by
        have : t * (-s * v) = -s * (t * v) := by grind
        rw [this]
        rcases hs with rfl | rfl
        · exact w64_of (by omega) (by omega)
        · exact w64_of (by omega) (by omega)
      have w2 : w64 (s * u - t * (-s * v)) = - -s * (u + t * v) := by
        rw [ex]
        rcases hs with rfl | rfl
        · exact w64_of (by omega) (by omega)
        · exact w64_of (by omega) (by omega)
      have w3 : w64 (t * next) = t * next := w64_of (by omega) (by omega)
      have w4 : w64 (rest - t * next) = rest - t * next := w64_of (by omega) (by omega)
      have w5 : w64 t = t := by
        have : t * 1 ≤ t * next := Int.mul_le_mul_of_nonneg_left (by omega) hq0
        exact w64_of (by omega) (by omega)
      refine ⟨X, g, bef, x1, x2, x3, ?_, fun k hk a2 a3 p q b0 r0 => ?_, fun k hk b0 r0 => ?_⟩
      · rw [x4]; unfold gcdI
        rw [Int.gcd_sub_mul_right_right, Int.gcd_comm]
      · obtain ⟨k, rfl⟩ : ∃ k', k = k' + 1 := ⟨k - 1, by omega⟩
        rw [spec_l01Base_l5, decide_eq_false hz, Bool.not_false, cond_true, cond_false, hq, w5, w1, w2, w3, w4]
        exact f1 k (by omega) a2 a3 p q b0 r0
      · obtain ⟨k, rfl⟩ : ∃ k', k = k' + 1 := ⟨k - 1, by omega⟩
        rw [impl_bezout_l2, decide_eq_false hz, Bool.not_false, cond_true, cond_false, hq, w5, w1, w2, w3, w4]
        exact f2 k (by omega) b0 r0
  termination_by m => m
  decreasing_by omega

/-- Base point and mate: what both programs hand back. -/
theorem mate_both (k : Nat) (hk : 1000000000 < k) {a b : Int} (h0 : a ≠ 0) (ha : -1000000 ≤ a) (ha1 : a ≤ 1000000) (hb : -1000000 ≤ b) (hb1 : b ≤ 1000000) : ∃ p q : Int, 0 ≤ p ∧ p < a.natAbs ∧ -1000000000001 ≤ q ∧ q ≤ 1000000000001 ∧ (gcdI a b = 1 → a * q - b * p = 1) ∧
    (∀ r : Int → Int → Option α, spec_l01Base k a b r = r p q) ∧ (∀ r : Int → Int → Option α, impl_Point_mate k a b r = r p q) := by
  have hn : max a (w64 (0 - a)) = max a (-a) := by rw [w64_of (by omega) (by omega)]; omega
  generalize hN : max a (-a) = n at hn
  have n0 : 1 ≤ n := by omega
  have n1 : n ≤ 1000000 := by omega
  have r0 := Int.emod_nonneg b (b := n) (by omega)
  have r1 := Int.emod_lt_of_pos b (show 0 < n by omega)
  have d1 : n ∣ 1 * 1 * b - b % n := ⟨b / n, by have := Int.emod_add_mul_ediv b n; omega⟩
  have d2 : n ∣ -1 * 0 * b - n := ⟨-1, by omega⟩
  obtain ⟨X, g, bef, x1, x2, x3, x4, f1, f2⟩ := euclid_both (α := α) 1000000000 n b 1 1 0 (b % n) n (.inl rfl) (by omega) (by omega) (by omega) (by omega) r0 (by omega) (by omega) (by omega) (by omega) (by omega) d1 d2 (by omega)
  rw [show (1 : Int) * 1 = 1 from rfl, show -(1 : Int) * 0 = 0 from rfl] at f1 f2
  have p0 := Int.emod_nonneg (0 - X) (b := n) (by omega)
  have p1 := Int.emod_lt_of_pos (0 - X) (show 0 < n by omega)
  have q0 := Int.emod_nonneg X (b := n) (by omega)
  have q1 := Int.emod_lt_of_pos X (show 0 < n by omega)
  have hm := mul_bound hb hb1 (show -1000000 ≤ (0 - X) % n by omega) (show (0 - X) % n ≤ 1000000 by omega)
  have hq := tdiv_abs (1 + b * ((0 - X) % n)) a
  have epq : (0 - X % n) % n = (0 - X) % n := by
    have e := Int.emod_add_mul_ediv X n
    have : 0 - X % n = (0 - X) + n * (X / n) := by omega
    rw [this, Int.add_mul_emod_self_left]
  refine ⟨(0 - X) % n, Int.tdiv (1 + b * ((0 - X) % n)) a, p0, by omega, by omega, by omega, fun hg => ?_, fun r => ?_, fun r => ?_⟩
  · have eg : g = 1 := by
      rw [x4, ← hg]; unfold gcdI
      have e1 : Int.gcd (b % n) n = Int.gcd b n := by
        rw [Int.emod_def, Int.gcd_sub_mul_left_left]
      have e2 : Int.gcd b n = Int.gcd a b := by
        rw [Int.gcd_comm a b]
        rcases (show n = a ∨ n = -a by omega) with e | e
        · rw [e]
        · rw [e, Int.gcd_neg]
      rw [e1, e2]
    subst eg
    have e3 := Int.emod_add_mul_ediv (0 - X) n
    have hdv : a ∣ 1 + b * ((0 - X) % n) := by
      have hna : a ∣ n := by
        rcases (show n = a ∨ n = -a by omega) with e | e
        · rw [e]; exact Int.dvd_refl _
        · rw [e]; exact (Int.dvd_neg).2 (Int.dvd_refl _)
      obtain ⟨c, hc⟩ := x3
      have e4 : 1 + b * ((0 - X) % n) = n * (-c - b * ((0 - X) / n)) := by
        have e5 : (0 - X) % n = 0 - X - n * ((0 - X) / n) := by omega
        rw [e5]; grind
      rw [e4]
      exact Int.dvd_trans hna (Int.dvd_mul_right _ _)
    have := Int.mul_tdiv_cancel' hdv
    omega
  · unfold spec_l01Base
    rw [decide_eq_false h0, cond_false, hn, spec_l01Rest_eq k n b _ (by omega) (by omega), f1 k hk]
    rw [w64_of (n := 0 - X) (by omega) (by omega), spec_l01Rest_eq k n _ _ (by omega) (by omega)]
    simp only [decide_eq_false h0, cond_false]
    rw [w64_of (n := b * ((0 - X) % n)) (by omega) (by omega), w64_of (n := 1 + b * ((0 - X) % n)) (by omega) (by omega), w64_of (by omega) (by omega)]
  · unfold impl_Point_mate impl_bezout
    rw [decide_eq_false h0, cond_false, impl_size_eq _ _ _ (by omega) (by omega), hN, impl_mod_eq _ _ _ _ (by omega) (by omega) (by omega) (by omega), f2 k hk]
    simp only
    rw [impl_mod_eq _ _ _ _ (by omega) (by omega) (by omega) (by omega), impl_size_eq _ _ _ (by omega) (by omega), hN, w64_of (n := 0 - X % n) (by omega) (by omega), impl_mod_eq _ _ _ _ (by omega) (by omega) (by omega) (by omega), epq]
    simp only [cond_false]
    rw [w64_of (n := b * ((0 - X) % n)) (by omega) (by omega), w64_of (n := 1 + b * ((0 - X) % n)) (by omega) (by omega), w64_of (by omega) (by omega)]

/-- A mate of a primitive point. -/
structure IsMate (a b p q : Int) : Prop where
  det : a * q - b * p = 1
  p0 : a ≠ 0 → 0 ≤ p ∧ p < a.natAbs
  z : a = 0 → p = -b ∧ q = 0
  pb : -1000000 ≤ p ∧ p ≤ 1000000
  qb : -1000000000001 ≤ q ∧ q ≤ 1000000000001

theorem mate_ok (k : Nat) (hk : 1000000000 < k) {a b : Int} (ha : -1000000 ≤ a) (ha1 : a ≤ 1000000) (hb : -1000000 ≤ b) (hb1 : b ≤ 1000000) (hg : gcdI a b = 1) : ∃ p q : Int, IsMate a b p q ∧
    (∀ r : Int → Int → Option α, spec_l01Base k a b r = r p q) ∧ (∀ r : Int → Int → Option α, impl_Point_mate k a b r = r p q) := by
  by_cases h0 : a = 0
  · subst h0
    unfold gcdI at hg
    rw [Int.gcd_zero_left] at hg
    have w : w64 (0 - b) = -b := by rw [w64_of (by omega) (by omega)]; omega
    refine ⟨-b, 0, ⟨?_, fun h => absurd rfl h, fun _ => ⟨rfl, rfl⟩, by omega, by omega⟩, fun r => ?_, fun r => ?_⟩
    · rcases (show b = 1 ∨ b = -1 by omega) with rfl | rfl <;> rfl
    · unfold spec_l01Base; rw [decide_eq_true rfl, cond_true, w]
    · unfold impl_Point_mate; rw [decide_eq_true rfl, cond_true, w]
  · obtain ⟨p, q, h1, h2, h3, h4, h5, h6, h7⟩ := mate_both (α := α) k hk h0 ha ha1 hb hb1
    exact ⟨p, q, ⟨h5 hg, fun _ => ⟨h1, h2⟩, fun e => absurd e h0, by omega, by omega⟩, h6, h7⟩

theorem mate_uniq {a b p q p' q' : Int} (h0 : a ≠ 0) (h : a * q - b * p = 1) (h' : a * q' - b * p' = 1) (b1 : 0 ≤ p ∧ p < a.natAbs) (b2 : 0 ≤ p' ∧ p' < a.natAbs) : p = p' ∧ q = q' := by
  have e : a * (q - q') = b * (p - p') := by grind
  have hd : a ∣ p - p' := by
    have e1 : p - p' = a * (q * (p - p') - p * (q - q')) := by
      have e2 : (a * q - b * p) * (p - p') = p - p' := by rw [h, Int.one_mul]
      grind
    rw [e1]; exact Int.dvd_mul_right _ _
  have hp : p - p' = 0 := Int.eq_zero_of_dvd_of_natAbs_lt_natAbs hd (by omega)
  have hq : a * (q - q') = 0 := by rw [e, hp, Int.mul_zero]
  rcases Int.mul_eq_zero.1 hq with e | e
  · exact absurd e h0
  · omega

/-- The mate. -/
def mateI (a b : Int) : Int × Int := if a = 0 then (-b, 0) else
  match (List.range a.natAbs).find? (fun p : Nat => decide ((1 + b * (p : Int)) % a = 0)) with
  | some p => ((p : Int), (1 + b * (p : Int)) / a)
  | none => (0, 0)

theorem mateI_is {a b p q : Int} (h : IsMate a b p q) : mateI a b = (p, q) := by
  unfold mateI
  split
  · rename_i h0
    have := h.z h0
    rw [this.1, this.2]
  · rename_i h0
    have hp := h.p0 h0
    split
    · rename_i p' hf
      have h1 := List.find?_some hf
      have h2 := List.mem_range.1 (List.mem_of_find?_eq_some hf)
      simp only [decide_eq_true_eq] at h1
      have h3 := Int.mul_ediv_cancel' (Int.dvd_of_emod_eq_zero h1)
      have := mate_uniq h0 h.det (q' := (1 + b * (p' : Int)) / a) (p' := (p' : Int)) (by omega) hp ⟨by omega, by omega⟩
      rw [this.1, this.2]
    · rename_i hf
      have := List.find?_eq_none.1 hf p.toNat (List.mem_range.2 (by omega))
      rw [show ((p.toNat : Nat) : Int) = p by omega] at this
      refine absurd ?_ this
      rw [decide_eq_true_iff, show 1 + b * p = a * q by have := h.det; omega]
      exact Int.mul_emod_right _ _

/-- Which shape comes ahead. -/
def bef (x y : Int × Int × Int) : Bool := bif !decide (x.1 = y.1) then decide (x.1 < y.1) else bif !decide (x.2.1 = y.2.1) then decide (x.2.1 < y.2.1) else decide (x.2.2 < y.2.2)

/-- A code. -/
structure IsCode (l : List Int) : Prop where
  len : l.length ≤ 4096
  byte : ∀ x ∈ l, 0 ≤ x ∧ x ≤ 255

/-- How far a code is read. -/
def AtC (l : List Int) (a : Int) : Prop := 0 ≤ a ∧ a ≤ l.length

theorem mask_b (h : Int) : 0 ≤ w64 (IntKind.wrap .u64 ((BitVec.ofInt 64 h &&& BitVec.ofInt 64 1073741823).toNat : Nat)) ∧ w64 (IntKind.wrap .u64 ((BitVec.ofInt 64 h &&& BitVec.ofInt 64 1073741823).toNat : Nat)) ≤ 1073741823 := by
  have h1 : (BitVec.ofInt 64 h &&& BitVec.ofInt 64 1073741823).toNat ≤ 1073741823 := by
    rw [BitVec.toNat_and]
    exact Nat.le_trans Nat.and_le_right (by decide)
  rw [IntWalk.u64_in _ (by omega), w64_of (by omega) (by omega)]
  omega

/-- The next hash, and the number that it tells. -/
def lcg (h : Int) : Int := IntKind.wrap .u64 ((IntKind.wrap .u64 (h * 6364136223846793005)) + 1442695040888963407)

def lcgX (h : Int) : Int := w64 (IntKind.wrap .u64 ((BitVec.ofInt 64 (Int.fdiv (lcg h) (2 ^ 31)) &&& BitVec.ofInt 64 1073741823).toNat : Nat))

theorem lcgX_b (h : Int) : 0 ≤ lcgX h ∧ lcgX h ≤ 1073741823 := mask_b _

theorem next_eq (l : List Int) (a : Int) (k : Nat) (h n : Int) (r : Int → Int → Int → Option α) : spec_l01Next k l a h n r = bif decide (n < 1) then r 0 a h else bif decide (a < (l.length : Nat)) then (bif decide (0 ≤ a) && decide (a < (l.length : Nat)) then (l[a.toNat]?).bind fun e => bif decide (n = 0) then none else r (Int.tmod (w64 (lcgX h + w64 e)) n) (w64 (a + 1)) (lcg h) else none) else bif decide (n = 0) then none else r (Int.tmod (lcgX h) n) a (lcg h) := rfl

theorem next_ok {l : List Int} (hl : IsCode l) {a : Int} (ha : AtC l a) (k : Nat) (h n : Int) : ∃ v a' h', AtC l a' ∧ 0 ≤ v ∧ (v < n ∨ (n < 1 ∧ v = 0)) ∧ ∀ r : Int → Int → Int → Option α, spec_l01Next k l a h n r = r v a' h' := by
  have hlen := hl.len
  unfold AtC at ha
  by_cases h1 : n < 1
  · exact ⟨0, a, h, ha, by omega, .inr ⟨h1, rfl⟩, fun r => by rw [next_eq, dec_lt_t h1, cond_true]⟩
  · have hz : decide (n = 0) = false := decide_eq_false (by omega)
    have h1' : decide (n < 1) = false := decide_eq_false h1
    obtain ⟨m1, m2⟩ := lcgX_b h
    by_cases h2 : a < l.length
    · have hlt : a.toNat < l.length := by omega
      have hb := hl.byte l[a.toNat] (List.getElem_mem hlt)
      refine ⟨Int.tmod (lcgX h + l[a.toNat]) n, a + 1, lcg h, by unfold AtC; omega, Int.tmod_nonneg _ (by omega), .inl (Int.tmod_lt_of_pos _ (by omega)), fun r => ?_⟩
      rw [next_eq, h1', cond_false, dec_lt_t h2, cond_true, dec_le_t ha.1, Bool.and_true, cond_true, List.getElem?_eq_getElem hlt, Option.bind_some, hz, cond_false, w64_of (n := a + 1) (by omega) (by omega), w64_of (n := l[a.toNat]) (by omega) (by omega), w64_of (n := lcgX h + l[a.toNat]) (by omega) (by omega)]
    · refine ⟨Int.tmod (lcgX h) n, a, lcg h, ha, Int.tmod_nonneg _ (by omega), .inl (Int.tmod_lt_of_pos _ (by omega)), fun r => ?_⟩
      rw [next_eq, h1', cond_false, dec_lt_f (by omega), cond_false, hz, cond_false]

theorem from_l3 {l : List Int} (hl : IsCode l) : ∀ (m k i : Nat) (s h : Int) (r : Int → Int → Option α), i + m = l.length → m < k → ∃ h', ∀ (r : Int → Int → Option α), spec_l01From_l3 k i l s h (fun _ _ s1 s2 => r s1 s2) r = r s h'
  | 0, k + 1, i, s, h, r, hi, _ => ⟨h, fun r => by
    rw [spec_l01From_l3, dec_lt_f (by omega), cond_false]⟩
  | m + 1, k + 1, i, s, h, r, hi, hk => by
    have hlen := hl.len
    have en : w64 ((i : Int) + 1) = ((i + 1 : Nat) : Int) := by rw [w64_of (by omega) (by omega)]; omega
    have hlt : i < l.length := by omega
    obtain ⟨h', ih⟩ := from_l3 hl m k (i + 1) s (IntKind.wrap .u64 ((IntKind.wrap .u64 ((IntKind.wrap .u64 (h * 1099511628211)) + (IntKind.wrap .u64 l[i]))) + 107)) r (by omega) (by omega)
    refine ⟨h', fun r => ?_⟩
    rw [spec_l01From_l3, dec_lt_t (by omega), cond_true, dec_lt_t (by omega), cond_true, dec_le_t (by omega), Bool.and_true, cond_true, Int.toNat_natCast, List.getElem?_eq_getElem hlt, Option.bind_some, en]
    exact ih r
  | _, 0, _, _, _, _, _, hk => by omega

theorem from_ok {l : List Int} (hl : IsCode l) (k : Nat) (hk : 4096 < k) : ∃ h, AtC l 0 ∧ ∀ r : Int → Int → Option α, spec_l01From k l r = r 0 h := by
  have hlen := hl.len
  obtain ⟨h', e⟩ := from_l3 (α := α) hl l.length k 0 0 (IntKind.wrap .u64 (12971 + (IntKind.wrap .u64 (((List.length l) : Nat) : Int)))) (fun _ _ => none) (by omega) (by omega)
  exact ⟨h', ⟨by omega, by omega⟩, fun r => e r⟩

theorem pick_ok {l : List Int} (hl : IsCode l) {a : Int} (ha : AtC l a) (k : Nat) (h : Int) {list : List Int} (h0 : 0 < list.length) (h1 : list.length ≤ 1000) : ∃ v a' h', AtC l a' ∧ v ∈ list ∧ ∀ r : Int → Int → Int → Option α, spec_l01Pick k l a h list r = r v a' h' := by
  obtain ⟨v, a', h', i1, i2, i3, i4⟩ := next_ok (α := α) hl ha k h (list.length : Int)
  have hv : v < list.length := by omega
  have hlt : v.toNat < list.length := by omega
  refine ⟨list[v.toNat], a', h', i1, List.getElem_mem hlt, fun r => ?_⟩
  unfold spec_l01Pick
  rw [i4, dec_le_t i2, dec_lt_t hv, Bool.and_true, cond_true, List.getElem?_eq_getElem hlt, Option.bind_some]

theorem point_ok {l : List Int} (hl : IsCode l) {a : Int} (ha : AtC l a) (k : Nat) (h : Int) {most : Int} (h0 : 0 ≤ most) (h1 : most ≤ 1000000000) : ∃ x y a' h', AtC l a' ∧ (-most ≤ x ∧ x ≤ most) ∧ (-most ≤ y ∧ y ≤ most) ∧ ∀ r : Int → Int → Int → Int → Option α, spec_l01DrawPoint k l a h most r = r x y a' h' := by
  have w : w64 ((w64 (2 * most)) + 1) = 2 * most + 1 := by rw [w64_of (n := 2 * most) (by omega) (by omega), w64_of (by omega) (by omega)]
  obtain ⟨v, a1, h1', i1, i2, i3, i4⟩ := next_ok (α := α) hl ha k h (w64 ((w64 (2 * most)) + 1))
  obtain ⟨u, a2, h2', j1, j2, j3, j4⟩ := next_ok (α := α) hl i1 k h1' (w64 ((w64 (2 * most)) + 1))
  refine ⟨v - most, u - most, a2, h2', j1, by omega, by omega, fun r => ?_⟩
  unfold spec_l01DrawPoint
  rw [i4, j4, w64_of (n := v - most) (by omega) (by omega), w64_of (n := u - most) (by omega) (by omega)]

theorem bad_ok {l : List Int} (hl : IsCode l) {a : Int} (ha : AtC l a) (k : Nat) (h x y : Int) : ∃ x' y' a' h', AtC l a' ∧ ∀ r : Int → Int → Int → Int → Option α, spec_l01Bad k l a h x y r = r x' y' a' h' := by
  obtain ⟨v, a1, h1', i1, i2, i3, i4⟩ := next_ok (α := α) hl ha k h 40
  by_cases hv : v = 0
  · obtain ⟨u, a2, h2, j1, j2, j3, j4⟩ := next_ok (α := α) hl i1 k h1' 2
    obtain ⟨z, a3, h3, q1, q2, q3⟩ := pick_ok (α := α) hl j1 k h2 (list := [1000001, (-1000001), 1099511627776]) (by simp) (by simp)
    rcases (show u = 0 ∨ u = 1 by omega) with rfl | rfl
    · refine ⟨z, y, a3, h3, q1, fun r => ?_⟩
      unfold spec_l01Bad
      rw [i4, decide_eq_true hv, cond_true, j4, q3]
      simp
    · refine ⟨x, z, a3, h3, q1, fun r => ?_⟩
      unfold spec_l01Bad
      rw [i4, decide_eq_true hv, cond_true, j4, q3]
      simp
  · refine ⟨x, y, a1, h1', i1, fun r => ?_⟩
    unfold spec_l01Bad
    rw [i4, decide_eq_false hv, cond_false]

theorem primitive_ok {l : List Int} (hl : IsCode l) {a : Int} (ha : AtC l a) (k : Nat) (hk : 1000000000 < k) (h : Int) {most : Int} (h0 : 0 ≤ most) (h1 : most ≤ 1000000) : ∃ x y a' h', AtC l a' ∧ ∀ r : Int → Int → Int → Int → Option α, spec_l01DrawPrimitive k l a h most r = r x y a' h' := by
  obtain ⟨x, y, a1, h1, i1, x1, y1, e1⟩ := point_ok (α := α) hl ha k h (most := most) h0 (by omega)
  by_cases hz : x = 0 ∧ y = 0
  · exact ⟨1, 0, a1, h1, i1, fun r => by simp [spec_l01DrawPrimitive, e1, hz.1, hz.2]⟩
  · refine ⟨(prim x y).1, (prim x y).2, a1, h1, i1, fun r => ?_⟩
    have hc : (decide (x = 0) && decide (y = 0)) = false := by
      rw [Bool.and_eq_false_iff, decide_eq_false_iff_not, decide_eq_false_iff_not]
      omega
    unfold spec_l01DrawPrimitive
    rw [e1, hc, cond_false, spec_l01Part_eq k x y _ (by omega) (by omega) (by omega) (by omega) hk (by omega)]

theorem detOf_impl (k : Nat) (hk : 3 ≤ k) (a b c d : Int) (r : Int → Int → Option α) : impl_DeterminantOf k a b c d r = bif crd a && crd b && (crd c && crd d) then r (detP a b c d) 0 else r 0 1 := by
  simp only [impl_DeterminantOf, impl_points2 k hk]
  cases h : (crd a && crd b && (crd c && crd d)) with
  | false => simp
  | true =>
    simp only [Bool.and_eq_true, crd_iff] at h
    have h1 := mul_bound h.1.1.1 h.1.1.2 h.2.2.1 h.2.2.2
    have h2 := mul_bound h.1.2.1 h.1.2.2 h.2.1.1 h.2.1.2
    simp only [Bool.not_true, cond_false, cond_true, impl_det]
    rw [w64_of (n := a * d) (by omega) (by omega), w64_of (n := b * c) (by omega) (by omega), w64_of (by omega) (by omega)]
    rfl

theorem laws_big_eq (k : Nat) (l : List Int) (r : Bool → Option α) : laws_big k l r = r (decide (4096 < (((List.length l) : Nat) : Int))) := rfl

/-- The determinant of two points. -/
def dt (p q : Int × Int) : Int := p.1 * q.2 - p.2 * q.1

def Crd (p : Int × Int) : Prop := (-1000000 ≤ p.1 ∧ p.1 ≤ 1000000) ∧ (-1000000 ≤ p.2 ∧ p.2 ≤ 1000000)

theorem crdP_iff {p : Int × Int} : (crd p.1 && crd p.2) = true ↔ Crd p := by simp only [Bool.and_eq_true, crd_iff, Crd]

theorem dt_b {p q : Int × Int} (hp : Crd p) (hq : Crd q) : -2000000000000 ≤ dt p q ∧ dt p q ≤ 2000000000000 := by
  have h1 := mul_bound hp.1.1 hp.1.2 hq.2.1 hq.2.2
  have h2 := mul_bound hp.2.1 hp.2.2 hq.1.1 hq.1.2
  unfold dt
  omega

theorem dt_w {p q : Int × Int} (hp : Crd p) (hq : Crd q) : w64 (w64 (p.1 * q.2) - w64 (p.2 * q.1)) = dt p q := by
  have h1 := mul_bound hp.1.1 hp.1.2 hq.2.1 hq.2.2
  have h2 := mul_bound hp.2.1 hp.2.2 hq.1.1 hq.1.2
  rw [w64_of (n := p.1 * q.2) (by omega) (by omega), w64_of (n := p.2 * q.1) (by omega) (by omega), w64_of (by omega) (by omega)]
  rfl

theorem dt_skew (p q : Int × Int) : dt q p = -dt p q := by unfold dt; grind

/-- What holds of a point of a sail and the next one. -/
structure SInv (a b p q : Int × Int) : Prop where
  det : dt p q = 1
  up : dt q b < dt p b
  q0 : 0 ≤ dt q b
  ap : 0 ≤ dt a p
  aq : 0 ≤ dt a q
  sp : dt p b + dt a p ≤ dt a b
  sq : dt q b + dt a q ≤ dt a b
  cp : Crd p
  cq : Crd q

/-- The number of a sail's point. -/
def cNum (b p q : Int × Int) : Int := -((-dt p b) / dt q b)

def nextP (b p q : Int × Int) : Int × Int := (cNum b p q * q.1 - p.1, cNum b p q * q.2 - p.2)

theorem cNum_b {b p q : Int × Int} (h : 0 < dt q b) : dt p b ≤ dt q b * cNum b p q ∧ dt q b * cNum b p q < dt p b + dt q b := by
  have := ediv_bounds (a := -dt p b) h
  unfold cNum
  rw [Int.mul_neg]
  omega

theorem cNum_2 {b p q : Int × Int} (h : 0 < dt q b) (h1 : dt q b < dt p b) : 2 ≤ cNum b p q ∧ cNum b p q ≤ dt p b := by
  have hb := cNum_b (p := p) h
  constructor
  · rcases ilt_or_ge (cNum b p q) 2 with hc | hc
    · have := mul_le_l (dt q b) (by omega) (show cNum b p q ≤ 1 by omega)
      omega
    · exact hc
  · rcases ilt_or_ge (dt p b) (cNum b p q) with hc | hc
    · exfalso
      have h2 : 0 ≤ (dt q b - 1) * (cNum b p q - 1) := Int.mul_nonneg (by omega) (by omega)
      have h3 : (dt q b - 1) * (cNum b p q - 1) = dt q b * cNum b p q - dt q b - cNum b p q + 1 := by grind
      omega
    · exact hc

/-- Points of the triangle of 0, a and b are points. -/
theorem crd_in {a b q : Int × Int} (ha : Crd a) (hb : Crd b) (h0 : 0 ≤ dt q b) (h1 : 0 ≤ dt a q) (hs : dt q b + dt a q ≤ dt a b) (hD : 1 ≤ dt a b) : Crd q := by
  have key : ∀ x y z : Int, -1000000 ≤ x → x ≤ 1000000 → -1000000 ≤ y → y ≤ 1000000 → dt a b * z = dt q b * x + dt a q * y → -1000000 ≤ z ∧ z ≤ 1000000 := by
    intro x y z hx hx1 hy hy1 e
    have b1 := mul_le_l (dt q b) h0 hx1
    have b2 := mul_le_l (dt a q) h1 hy1
    have b3 := mul_le_l (dt q b) h0 hx
    have b4 := mul_le_l (dt a q) h1 hy
    constructor
    · rcases ilt_or_ge z (-1000000) with hz | hz
      · exfalso
        have := mul_le_l (dt a b) (by omega) (show z ≤ -1000001 by omega)
        omega
      · exact hz
    · rcases ilt_or_ge 1000000 z with hz | hz
      · exfalso
        have := mul_le_l (dt a b) (by omega) (show 1000001 ≤ z by omega)
        omega
      · exact hz
  exact ⟨key a.1 b.1 q.1 ha.1.1 ha.1.2 hb.1.1 hb.1.2 (by unfold dt; grind), key a.2 b.2 q.2 ha.2.1 ha.2.2 hb.2.1 hb.2.2 (by unfold dt; grind)⟩

theorem SInv.next {a b p q : Int × Int} (ha : Crd a) (hb : Crd b) (h : SInv a b p q) (hq : dt q b ≠ 0) : SInv a b q (nextP b p q) := by
  have hw : 0 < dt q b := by have := h.q0; omega
  have hc := cNum_b (p := p) hw
  have e1 : dt q (nextP b p q) = dt p q := by unfold dt nextP; grind
  have e2 : dt (nextP b p q) b = dt q b * cNum b p q - dt p b := by unfold dt nextP; grind
  have e3 : dt q b * dt a (nextP b p q) = dt a b * dt q (nextP b p q) + dt (nextP b p q) b * dt a q := by unfold dt; grind
  rw [e1, h.det, Int.mul_one] at e3
  have h1 : 0 ≤ dt (nextP b p q) b := by rw [e2]; omega
  have h2 : dt (nextP b p q) b < dt q b := by rw [e2]; omega
  have hD : 1 ≤ dt a b := by have := h.sq; have := h.aq; omega
  have h4 := Int.mul_nonneg h1 h.aq
  have h3 : 0 ≤ dt a (nextP b p q) := by
    rcases ilt_or_ge (dt a (nextP b p q)) 0 with hn | hn
    · exfalso
      have := Int.mul_le_mul_of_nonneg_left (show dt a (nextP b p q) ≤ -1 by omega) (show 0 ≤ dt q b by omega)
      omega
    · exact hn
  have h5 : dt (nextP b p q) b + dt a (nextP b p q) ≤ dt a b := by
    rcases ilt_or_ge (dt a b) (dt (nextP b p q) b + dt a (nextP b p q)) with hn | hn
    · exfalso
      generalize dt (nextP b p q) b = w at *
      generalize dt a (nextP b p q) = e' at *
      have m1 := mul_le_l (dt q b) (by omega) (show dt a b + 1 ≤ w + e' by omega)
      have m2 := mul_le_l w h1 h.sq
      have m3 := mul_le_l (dt a b) (by omega) (show w + 1 ≤ dt q b by omega)
      have m4 : dt q b * (w + e') = dt q b * w + dt q b * e' := Int.mul_add _ _ _
      have m5 : w * (dt q b + dt a q) = dt q b * w + w * dt a q := by rw [Int.mul_add, Int.mul_comm w]
      have m6 : dt a b * (w + 1) = w * dt a b + dt a b := by rw [Int.mul_add, Int.mul_one, Int.mul_comm w]
      have m7 : dt q b * (dt a b + 1) = dt a b * dt q b + dt q b := by rw [Int.mul_add, Int.mul_one, Int.mul_comm (dt q b)]
      omega
    · exact hn
  exact ⟨by rw [e1]; exact h.det, h2, h1, h.aq, h3, h.sq, h5, h.cq, crd_in ha hb h1 h3 h5 hD⟩

/-- The end of a sail. -/
theorem SInv.last {a b p q : Int × Int} (hb : gcdI b.1 b.2 = 1) (h : SInv a b p q) (hq : dt q b = 0) : q = b := by
  have e1 : q.1 * dt p b = b.1 := by
    have := h.det
    have e : q.1 * dt p b = b.1 * dt p q + p.1 * dt q b := by unfold dt; grind
    rw [hq, this] at e
    omega
  have e2 : q.2 * dt p b = b.2 := by
    have := h.det
    have e : q.2 * dt p b = b.2 * dt p q + p.2 * dt q b := by unfold dt; grind
    rw [hq, this] at e
    omega
  have hup := h.up
  rw [hq] at hup
  have hd : dt p b ∣ gcdI b.1 b.2 := Int.dvd_coe_gcd ⟨q.1, by rw [← e1, Int.mul_comm]⟩ ⟨q.2, by rw [← e2, Int.mul_comm]⟩
  rw [hb] at hd
  have h1 : dt p b = 1 := by
    have := Int.le_of_dvd (by omega) hd
    omega
  rw [h1, Int.mul_one] at e1 e2
  exact Prod.ext e1 e2

/-- The sail from a point on: its points and numbers, if there are not too many. -/
def sailR (b : Int × Int) : Nat → Int × Int → Int × Int → Option (List (Int × Int) × List Int)
  | 0, _, _ => none
  | m + 1, p, q => if dt q b = 0 then some ([q], []) else (sailR b m q (nextP b p q)).map fun s => (q :: s.1, cNum b p q :: s.2)

def startP (a b : Int × Int) : Int × Int :=
  ((mateI a.1 a.2).1 + -(dt (mateI a.1 a.2) b / dt a b) * a.1, (mateI a.1 a.2).2 + -(dt (mateI a.1 a.2) b / dt a b) * a.2)

def sailA (a b : Int × Int) : Option (List (Int × Int) × List Int) := sailR b 1999 a (startP a b)

/-- An angle. -/
structure Ang (a b : Int × Int) : Prop where
  ca : Crd a
  cb : Crd b
  ga : gcdI a.1 a.2 = 1
  gb : gcdI b.1 b.2 = 1
  det : 1 ≤ dt a b

theorem dt_self (a : Int × Int) : dt a a = 0 := by unfold dt; grind

theorem start_inv {a b : Int × Int} (h : Ang a b) (hm : dt a (mateI a.1 a.2) = 1) : SInv a b a (startP a b) := by
  have hD := h.det
  have hf := ediv_bounds (a := dt (mateI a.1 a.2) b) (show 0 < dt a b by omega)
  have e1 : dt a (startP a b) = 1 := by rw [← hm]; unfold dt startP; grind
  have e2 : dt (startP a b) b = dt (mateI a.1 a.2) b - dt a b * (dt (mateI a.1 a.2) b / dt a b) := by
    generalize hF : dt (mateI a.1 a.2) b / dt a b = f
    unfold startP
    rw [hF]
    unfold dt
    grind
  have h1 : 0 ≤ dt (startP a b) b := by rw [e2]; omega
  have h2 : dt (startP a b) b < dt a b := by rw [e2]; omega
  exact ⟨e1, h2, h1, by rw [dt_self]; omega, by rw [e1]; omega, by rw [dt_self]; omega, by rw [e1]; omega, h.ca, crd_in h.ca h.cb h1 (by rw [e1]; omega) (by rw [e1]; omega) hD⟩

/-- What is known of the points and the numbers of a sail. -/
structure Sl (a b : Int × Int) (L : List (Int × Int)) (cs : List Int) : Prop where
  n2 : 2 ≤ L.length
  nc : L.length = cs.length + 2
  last : L.getD (L.length - 1) (0, 0) = b
  det : ∀ i, i + 1 < L.length → dt (L.getD i (0, 0)) (L.getD (i + 1) (0, 0)) = 1
  step : ∀ i, i + 2 < L.length → 2 ≤ cs.getD i 0 ∧ L.getD (i + 2) (0, 0) = (cs.getD i 0 * (L.getD (i + 1) (0, 0)).1 - (L.getD i (0, 0)).1, cs.getD i 0 * (L.getD (i + 1) (0, 0)).2 - (L.getD i (0, 0)).2)
  cb : ∀ c ∈ cs, 2 ≤ c ∧ c ≤ 2000000000000
  crd : ∀ i, i < L.length → Crd (L.getD i (0, 0)) ∧ 0 ≤ dt a (L.getD i (0, 0)) ∧ 0 ≤ dt (L.getD i (0, 0)) b

theorem sailR_sl {a b : Int × Int} (h : Ang a b) : ∀ (m : Nat) (p q : Int × Int) (s : List (Int × Int) × List Int), SInv a b p q → sailR b m p q = some s → Sl a b (p :: s.1) s.2 ∧ s.1.length ≤ m
  | 0, p, q, s, hi, hs => by cases hs
  | m + 1, p, q, s, hi, hs => by
    have hup : 0 ≤ dt p b := by have := hi.up; have := hi.q0; omega
    simp only [sailR] at hs
    split at hs
    · rename_i hz
      cases hs
      refine ⟨⟨by simp, by simp, by simpa using hi.last h.gb hz, fun i hlt => ?_, fun i hlt => ?_, by simp, fun i hlt => ?_⟩, by simp⟩
      · have : i = 0 := by simp at hlt; omega
        subst this
        exact hi.det
      · simp at hlt; omega
      · rcases (show i = 0 ∨ i = 1 by simp at hlt; omega) with rfl | rfl
        · exact ⟨hi.cp, hi.ap, hup⟩
        · exact ⟨hi.cq, hi.aq, hi.q0⟩
    · rename_i hz
      rw [Option.map_eq_some_iff] at hs
      obtain ⟨t, ht, rfl⟩ := hs
      obtain ⟨ih, hlen⟩ := sailR_sl h m q (nextP b p q) t (hi.next h.ca h.cb hz) ht
      have ht0 : ∃ u, t.1 = nextP b p q :: u := by
        cases m with
        | zero => cases ht
        | succ m =>
          simp only [sailR] at ht
          split at ht
          · cases ht; exact ⟨_, rfl⟩
          · rw [Option.map_eq_some_iff] at ht
            obtain ⟨_, _, rfl⟩ := ht
            exact ⟨_, rfl⟩
      obtain ⟨u, hu⟩ := ht0
      have hn2 := ih.n2
      refine ⟨⟨by simp, by have := ih.nc; simp at this ⊢; omega, ?_, fun i hlt => ?_, fun i hlt => ?_, fun c hc => ?_, fun i hlt => ?_⟩, by simp; omega⟩
      · have := ih.last
        simp only [List.length_cons, Nat.add_sub_cancel] at this ⊢
        exact this
      · cases i with
        | zero => exact hi.det
        | succ i => exact ih.det i (by simp at hlt ⊢; omega)
      · cases i with
        | zero =>
          have hc := cNum_2 (p := p) (show 0 < dt q b by have := hi.q0; omega) hi.up
          simp only [hu]
          exact ⟨hc.1, rfl⟩
        | succ i => exact ih.step i (by simp at hlt ⊢; omega)
      · rcases List.mem_cons.1 hc with rfl | hc
        · have hc := cNum_2 (p := p) (show 0 < dt q b by have := hi.q0; omega) hi.up
          have := dt_b hi.cp h.cb
          omega
        · exact ih.cb c hc
      · cases i with
        | zero => exact ⟨hi.cp, hi.ap, hup⟩
        | succ i => exact ih.crd i (by simp at hlt ⊢; omega)

def angB (a b : Int × Int) : Bool := (crd a.1 && crd a.2 && (crd b.1 && crd b.2)) && (decide (gcdI a.1 a.2 = 1) && (decide (gcdI b.1 b.2 = 1) && decide (1 ≤ dt a b)))

theorem angB_iff {a b : Int × Int} : angB a b = true ↔ Ang a b := by
  simp only [angB, Bool.and_eq_true, crd_iff, decide_eq_true_eq]
  constructor
  · rintro ⟨⟨⟨a1, a2⟩, b1, b2⟩, g1, g2, d⟩
    exact ⟨⟨a1, a2⟩, ⟨b1, b2⟩, g1, g2, d⟩
  · rintro ⟨⟨a1, a2⟩, ⟨b1, b2⟩, g1, g2, d⟩
    exact ⟨⟨⟨a1, a2⟩, b1, b2⟩, g1, g2, d⟩

theorem impl_isAngle_eq (k : Nat) (hk : 1000000000 < k) (a a1 b b1 : Int) (r : Bool → Option α) : impl_IsAngle k a a1 b b1 r = r (angB (a, a1) (b, b1)) := by
  simp only [impl_IsAngle, impl_points2 k (show 3 ≤ k by omega), angB]
  cases h : (crd a && crd a1 && (crd b && crd b1)) with
  | false => simp
  | true =>
    simp only [Bool.and_eq_true, crd_iff] at h
    obtain ⟨⟨ha, ha1⟩, hb, hb1⟩ := h
    simp only [cond_true, impl_Point_isPrimitive, impl_Point_length, Bool.true_and]
    rw [impl_gcd_eq k a a1 _ (by omega) (by omega) (by omega) (by omega) hk]
    cases g1 : decide (gcdI a a1 = 1) with
    | false => simp
    | true =>
      rw [cond_true, impl_gcd_eq k b b1 _ (by omega) (by omega) (by omega) (by omega) hk]
      cases g2 : decide (gcdI b b1 = 1) with
      | false => simp
      | true =>
        have := dt_w (p := (a, a1)) (q := (b, b1)) ⟨ha, ha1⟩ ⟨hb, hb1⟩
        simp only at this
        simp [impl_det, this]

theorem spec_isAngle_eq (k : Nat) (hk : 1000000000 < k) (a a1 b b1 : Int) (r : Bool → Option α) : spec_l03Is k a a1 b b1 r = r (angB (a, a1) (b, b1)) := by
  simp only [spec_l03Is, spec_l01Is_eq, angB]
  cases h1 : (crd a && crd a1) with
  | false => simp
  | true =>
    cases h2 : (crd b && crd b1) with
    | false => simp
    | true =>
      simp only [Bool.and_eq_true, crd_iff] at h1 h2
      obtain ⟨ha, ha1⟩ := h1
      obtain ⟨hb, hb1⟩ := h2
      simp only [cond_true, Bool.true_and]
      rw [spec_l01Gcd_eq k a a1 _ (by omega) (by omega) (by omega) (by omega) hk]
      cases g1 : decide (gcdI a a1 = 1) with
      | false => simp
      | true =>
        rw [cond_true, spec_l01Gcd_eq k b b1 _ (by omega) (by omega) (by omega) (by omega) hk]
        cases g2 : decide (gcdI b b1 = 1) with
        | false => simp
        | true =>
          have := dt_w (p := (a, a1)) (q := (b, b1)) ⟨ha, ha1⟩ ⟨hb, hb1⟩
          simp only at this
          simp [spec_l01Det, this]

theorem mate_det (k : Nat) (hk : 1000000000 < k) {a b : Int × Int} (h : Ang a b) : dt a (mateI a.1 a.2) = 1 ∧ Crd (mateI a.1 a.2) ∧
    (∀ r : Int → Int → Option α, spec_l01Base k a.1 a.2 r = r (mateI a.1 a.2).1 (mateI a.1 a.2).2) ∧ (∀ r : Int → Int → Option α, impl_Point_mate k a.1 a.2 r = r (mateI a.1 a.2).1 (mateI a.1 a.2).2) := by
  obtain ⟨p, q, hm, h1, h2⟩ := mate_ok (α := α) k hk h.ca.1.1 h.ca.1.2 h.ca.2.1 h.ca.2.2 h.ga
  have e := mateI_is hm
  rw [e]
  have hd := hm.det
  refine ⟨by unfold dt; simpa using hd, ⟨hm.pb, ?_⟩, h1, h2⟩
  have ca := h.ca
  by_cases h0 : a.1 = 0
  · rw [(hm.z h0).2]
    simp
  · have hp := hm.p0 h0
    simp only
    have hx : a.1 * q = 1 + a.2 * p := by omega
    have hb := mul_bound ca.2.1 ca.2.2 (show -((a.1.natAbs : Int) - 1) ≤ p by omega) (by omega)
    have hm2 : (1000000 : Int) * ((a.1.natAbs : Int) - 1) = 1000000 * (a.1.natAbs : Int) - 1000000 := by omega
    have habs : (a.1 * q).natAbs = a.1.natAbs * q.natAbs := Int.natAbs_mul _ _
    have hle : a.1.natAbs * q.natAbs ≤ a.1.natAbs * 1000000 := by omega
    have := Nat.le_of_mul_le_mul_left hle (by omega)
    omega

theorem floor_p (a b : Int) (hb : 0 < b) : -(a.natAbs : Int) ≤ a / b ∧ a / b ≤ a.natAbs := by
  have h := ediv_bounds (a := a) hb
  constructor
  · rcases ilt_or_ge (a / b) (-(a.natAbs : Int)) with hn | hn
    · exfalso
      have h2 : 0 ≤ (b - 1) * (-(a / b) - 1) := Int.mul_nonneg (by omega) (by omega)
      have h3 : (b - 1) * (-(a / b) - 1) = -(b * (a / b)) - b + a / b + 1 := by grind
      omega
    · exact hn
  · rcases ilt_or_ge (a.natAbs : Int) (a / b) with hn | hn
    · exfalso
      have h2 : 0 ≤ (b - 1) * (a / b) := Int.mul_nonneg (by omega) (by omega)
      have h3 : (b - 1) * (a / b) = b * (a / b) - a / b := by grind
      omega
    · exact hn

/-- A point and so many times another one. -/
theorem plus_w {x y c B : Int} (hB : 0 ≤ B) (hB2 : B ≤ 4000000000000) (hx : -1000000 ≤ x ∧ x ≤ 1000000) (hy : -1000000 ≤ y ∧ y ≤ 1000000) (hc : -B ≤ c ∧ c ≤ B) : w64 (x + w64 (c * y)) = x + c * y := by
  have h := mul_bound hc.1 hc.2 hy.1 hy.2
  rw [w64_of (n := c * y) (by omega) (by omega), w64_of (by omega) (by omega)]

theorem impl_sail_l5 {a b : Int × Int} (h : Ang a b) : ∀ (m k : Nat) (p q : Int × Int) (pts : List (Int × Int)) (nums : List Int) (r0 : Int → Option α) r1, SInv a b p q → pts.length + m = 2000 → m < k → nums.length + m ≤ 2001 →
    impl_sailOf_l5 k b.1 b.2 q.1 q.2 p.1 p.2 pts nums r0 r1 = match sailR b m p q with
      | none => r0 3
      | some s => r1 (pts ++ s.1) (nums ++ s.2 ++ [0]) 0
  | 0, k + 1, p, q, pts, nums, r0, r1, _, hm, _, _ => by
    rw [impl_sailOf_l5, dec_nle_t (by rw [big_val]; omega), cond_true, List.length_append, List.length_singleton, dec_lt_t (by omega), cond_true]
    rfl
  | m + 1, k + 1, p, q, pts, nums, r0, r1, hi, hm, hk, hn2 => by
    have hcq : (crd q.1 && crd q.2) = true := crdP_iff.2 hi.cq
    rw [impl_sailOf_l5, dec_nle_t (by rw [big_val]; omega), cond_true, List.length_append, List.length_singleton, dec_lt_f (by omega), cond_false, impl_IsPoint_eq, hcq]
    simp only [Bool.not_true, cond_false, sailR]
    by_cases hz : dt q b = 0
    · have hl := hi.last h.gb hz
      rw [if_pos hz, hl, decide_eq_true rfl, decide_eq_true rfl, Bool.and_self, cond_true, dec_nle_t (by rw [big_val]; omega), cond_true]
      simp
    · have hne : (decide (q.1 = b.1) && decide (q.2 = b.2)) = false := by
        rw [Bool.and_eq_false_iff, decide_eq_false_iff_not, decide_eq_false_iff_not]
        by_cases e1 : q.1 = b.1
        · refine .inr fun e2 => hz ?_
          rw [show q = b from Prod.ext e1 e2, dt_self]
        · exact .inl e1
      have hpos : 0 < dt q b := by have := hi.q0; omega
      have hb1 := dt_b hi.cp h.cb
      have hc := cNum_2 (p := p) hpos hi.up
      have e1 : w64 (0 - dt p b) = -dt p b := by rw [w64_of (by omega) (by omega)]; omega
      have e2 : w64 (0 - (-dt p b / dt q b)) = cNum b p q := by
        have := floor_p (-dt p b) (dt q b) hpos
        rw [w64_of (by omega) (by omega)]
        unfold cNum
        omega
      have cp := hi.cp
      have l1 : w64 (0 + w64 (-1 * p.1)) = -p.1 := by rw [w64_of (n := -1 * p.1) (by have := cp.1; omega) (by have := cp.1; omega), w64_of (by have := cp.1; omega) (by have := cp.1; omega)]; omega
      have l2 : w64 (0 + w64 (-1 * p.2)) = -p.2 := by rw [w64_of (n := -1 * p.2) (by have := cp.2; omega) (by have := cp.2; omega), w64_of (by have := cp.2; omega) (by have := cp.2; omega)]; omega
      rw [hne, cond_false, if_neg hz]
      simp only [impl_det, dt_w hi.cp h.cb, dt_w hi.cq h.cb, e1]
      rw [impl_floor_eq k _ _ _ hpos (by omega) (by omega), dec_nle_t (by rw [big_val]; omega), cond_true]
      simp only [impl_Point_less, impl_Point_plus, e2, l1, l2]
      rw [plus_w (B := 2000000000000) (by omega) (by omega) (by have := cp.1; omega) hi.cq.1 (by omega), plus_w (B := 2000000000000) (by omega) (by omega) (by have := cp.2; omega) hi.cq.2 (by omega)]
      have n1 : -p.1 + cNum b p q * q.1 = (nextP b p q).1 := by unfold nextP; simp only; omega
      have n2 : -p.2 + cNum b p q * q.2 = (nextP b p q).2 := by unfold nextP; simp only; omega
      rw [n1, n2, impl_sail_l5 h m k q (nextP b p q) _ _ r0 r1 (hi.next h.ca h.cb hz) (by simp; omega) (by omega) (by simp; omega)]
      cases sailR b m q (nextP b p q) with
      | none => rfl
      | some s => simp
  | _, 0, _, _, _, _, _, _, _, _, hk, _ => by omega

theorem impl_sailOf_eq (k : Nat) (hk : 1000000000 < k) {a b : Int × Int} (h : Ang a b) (r0 : Int → Option α) r1 : impl_sailOf k a.1 a.2 b.1 b.2 r0 r1 = match sailA a b with
    | none => r0 3
    | some s => r1 (a :: s.1) (0 :: s.2 ++ [0]) 0 := by
  obtain ⟨hm, hc, _, h2⟩ := mate_det (α := α) k hk h
  have hD := h.det
  have hD2 := dt_b h.ca h.cb
  have hb := dt_b hc h.cb
  have hf := floor_p (dt (mateI a.1 a.2) b) (dt a b) (by omega)
  have hi := start_inv h hm
  unfold impl_sailOf
  simp only [h2, impl_det, dt_w hc h.cb, dt_w h.ca h.cb]
  rw [impl_floor_eq k _ _ _ (by omega) (by omega) (by omega)]
  have e : w64 (0 - dt (mateI a.1 a.2) b / dt a b) = -(dt (mateI a.1 a.2) b / dt a b) := by rw [w64_of (by omega) (by omega)]; omega
  simp only [impl_Point_plus, e]
  rw [plus_w (B := 2000000000000) (by omega) (by omega) hc.1 h.ca.1 (by omega), plus_w (B := 2000000000000) (by omega) (by omega) hc.2 h.ca.2 (by omega)]
  exact impl_sail_l5 h 1999 k a (startP a b) [a] [0] r0 r1 hi (by simp) (by omega) (by simp)

theorem get_app2 {β : Type} (pre : List β) (x y : β) : (pre ++ [x, y])[pre.length]? = some x ∧ (pre ++ [x, y])[pre.length + 1]? = some y := by simp

theorem spec_sail_l5 {a b : Int × Int} (h : Ang a b) : ∀ (m k : Nat) (p q : Int × Int) (pre : List (Int × Int)) (nums : List Int) (r0 : Bool → Option α) r1, SInv a b p q → pre.length + 1 + m = 2000 → m < k → nums.length = pre.length + 1 →
    spec_l03Sail_l5 k b.1 b.2 (pre ++ [p, q]) nums r0 r1 = match sailR b m p q with
      | none => r0 false
      | some s => r1 (pre ++ [p] ++ s.1) (nums ++ s.2 ++ [2]) true
  | 0, k + 1, p, q, pre, nums, r0, r1, _, hm, _, _ => by
    rw [spec_l03Sail_l5, dec_lt_t (by simp; omega), cond_true]
    rfl
  | m + 1, k + 1, p, q, pre, nums, r0, r1, hi, hm, hk, hn => by
    have hl : (pre ++ [p, q]).length = pre.length + 2 := by simp
    have w2 : w64 (((pre.length + 2 : Nat) : Int) - 2) = (pre.length : Int) := by rw [w64_of (by omega) (by omega)]; omega
    have w1 : w64 (((pre.length + 2 : Nat) : Int) - 1) = ((pre.length + 1 : Nat) : Int) := by rw [w64_of (by omega) (by omega)]; omega
    obtain ⟨g1, g2⟩ := get_app2 pre p q
    rw [spec_l03Sail_l5, hl, dec_lt_f (by omega), cond_false, w1, w2, dec_le_t (by omega), dec_lt_t (by omega), dec_le_t (by omega), dec_lt_t (by omega)]
    simp only [Bool.and_self, cond_true, Int.toNat_natCast, g1, g2, Option.bind_some, spec_l01Det, dt_w hi.cp h.cb, dt_w hi.cq h.cb, sailR]
    by_cases hz : dt q b = 0
    · rw [if_pos hz, decide_eq_true hz, cond_true, dec_nle_t (by rw [big_val]; omega), cond_true]
      simp
    · have hpos : 0 < dt q b := by have := hi.q0; omega
      have hb1 := dt_b hi.cp h.cb
      have hc := cNum_2 (p := p) hpos hi.up
      have e1 : w64 (0 - dt p b) = -dt p b := by rw [w64_of (by omega) (by omega)]; omega
      have e2 : w64 (0 - (-dt p b / dt q b)) = cNum b p q := by
        have := floor_p (-dt p b) (dt q b) hpos
        rw [w64_of (by omega) (by omega)]
        unfold cNum
        omega
      have cp := hi.cp
      have l1 : w64 (0 - p.1) = -p.1 := by rw [w64_of (by have := cp.1; omega) (by have := cp.1; omega)]; omega
      have l2 : w64 (0 - p.2) = -p.2 := by rw [w64_of (by have := cp.2; omega) (by have := cp.2; omega)]; omega
      rw [if_neg hz, decide_eq_false hz, cond_false, e1, spec_l01Floor_eq k _ _ _ hpos (by omega) (by omega), dec_nle_t (by rw [big_val]; omega), cond_true]
      simp only [spec_l01Plus, e2, l1, l2]
      rw [plus_w (B := 2000000000000) (by omega) (by omega) (by have := cp.1; omega) hi.cq.1 (by omega), plus_w (B := 2000000000000) (by omega) (by omega) (by have := cp.2; omega) hi.cq.2 (by omega)]
      have n1 : -p.1 + cNum b p q * q.1 = (nextP b p q).1 := by unfold nextP; simp only; omega
      have n2 : -p.2 + cNum b p q * q.2 = (nextP b p q).2 := by unfold nextP; simp only; omega
      rw [n1, n2, dec_nle_t (by rw [big_val]; omega), cond_true]
      have := spec_sail_l5 h m k q (nextP b p q) (pre ++ [p]) (nums ++ [cNum b p q]) r0 r1 (hi.next h.ca h.cb hz) (by simp; omega) (by omega) (by simp; omega)
      simp only [List.append_assoc, List.cons_append, List.nil_append] at this ⊢
      rw [this]
      cases sailR b m q (nextP b p q) with
      | none => rfl
      | some s => simp
  | _, 0, _, _, _, _, _, _, _, _, hk, _ => by omega

theorem spec_sail_eq (k : Nat) (hk : 1000000000 < k) {a b : Int × Int} (h : Ang a b) (r0 : Bool → Option α) r1 : spec_l03Sail k a.1 a.2 b.1 b.2 r0 r1 = match sailA a b with
    | none => r0 false
    | some s => r1 (a :: s.1) (2 :: s.2 ++ [2]) true := by
  obtain ⟨hm, hc, h1, _⟩ := mate_det (α := α) k hk h
  have hD := h.det
  have hD2 := dt_b h.ca h.cb
  have hb := dt_b hc h.cb
  have hf := floor_p (dt (mateI a.1 a.2) b) (dt a b) (by omega)
  have hi := start_inv h hm
  unfold spec_l03Sail
  simp only [h1, spec_l01Det, dt_w hc h.cb, dt_w h.ca h.cb]
  rw [spec_l01Floor_eq k _ _ _ (by omega) (by omega) (by omega)]
  have e : w64 (0 - dt (mateI a.1 a.2) b / dt a b) = -(dt (mateI a.1 a.2) b / dt a b) := by rw [w64_of (by omega) (by omega)]; omega
  simp only [spec_l01Plus, e]
  rw [plus_w (B := 2000000000000) (by omega) (by omega) hc.1 h.ca.1 (by omega), plus_w (B := 2000000000000) (by omega) (by omega) hc.2 h.ca.2 (by omega)]
  exact spec_sail_l5 h 1999 k a (startP a b) [] [2] r0 r1 hi (by simp) (by omega) (by simp)

/-- The points of a sail and its inner numbers, or what is wrong. -/
def sailC (a b : Int × Int) : Int ⊕ (List (Int × Int) × List Int) := if angB a b then (match sailA a b with
  | none => .inl 3
  | some s => .inr (a :: s.1, s.2)) else .inl 1

theorem impl_angleSail_eq (k : Nat) (hk : 1000000000 < k) (a b : Int × Int) (r0 : Int → Option α) r1 : impl_angleSail k a.1 a.2 b.1 b.2 r0 r1 = match sailC a b with
    | .inl c => r0 c
    | .inr s => r1 s.1 (0 :: s.2 ++ [0]) 0 := by
  unfold impl_angleSail sailC
  rw [impl_isAngle_eq k hk]
  change (bif !angB a b then _ else _) = _
  cases h : angB a b with
  | false => rfl
  | true =>
    rw [Bool.not_true, cond_false, impl_sailOf_eq k hk (angB_iff.1 h), if_pos rfl]
    cases sailA a b <;> rfl

theorem spec_code_eq (k : Nat) (hk : 1000000000 < k) (a b : Int × Int) (r0 : Int → Option α) r1 : spec_l03Code k a.1 a.2 b.1 b.2 r0 r1 = match sailC a b with
    | .inl c => r0 c
    | .inr s => r1 s.1 (2 :: s.2 ++ [2]) 0 := by
  unfold spec_l03Code sailC
  rw [spec_isAngle_eq k hk]
  change (bif !angB a b then _ else _) = _
  cases h : angB a b with
  | false => rfl
  | true =>
    rw [Bool.not_true, cond_false, spec_sail_eq k hk (angB_iff.1 h), if_pos rfl]
    cases sailA a b <;> rfl

theorem sailC_ok (k : Nat) (hk : 1000000000 < k) {a b : Int × Int} {s : List (Int × Int) × List Int} (h : sailC a b = .inr s) : Ang a b ∧ Sl a b s.1 s.2 ∧ s.1.length ≤ 2000 ∧ s.1.getD 0 (0, 0) = a := by
  unfold sailC at h
  split at h
  · rename_i hA
    have hA := angB_iff.1 hA
    split at h
    · cases h
    · rename_i t ht
      cases h
      obtain ⟨hm, _⟩ := mate_det (α := Unit) k hk hA
      obtain ⟨h1, h2⟩ := sailR_sl hA 1999 a (startP a b) t (start_inv hA hm) ht
      exact ⟨hA, h1, by simp; omega, rfl⟩
  · cases h

theorem sailC_code {a b : Int × Int} {c : Int} (h : sailC a b = .inl c) : c = 1 ∨ c = 3 := by
  unfold sailC at h
  split at h
  · split at h
    · cases h; exact .inr rfl
    · cases h
  · cases h; exact .inl rfl

theorem sailPoints_both (k : Nat) (hk : 1000000000 < k) (a b : Int × Int) :
    (∀ (r0 : Int → Option α) r1, impl_SailPoints k a.1 a.2 b.1 b.2 r0 r1 = match sailC a b with
      | .inl c => r0 c
      | .inr s => r1 s.1 0) ∧
    (∀ (r0 : Int → Option α) r1, spec_SailPoints k a.1 a.2 b.1 b.2 r0 r1 = match sailC a b with
      | .inl c => r0 c
      | .inr s => r1 s.1 0) := by
  refine ⟨fun r0 r1 => ?_, fun r0 r1 => ?_⟩
  · unfold impl_SailPoints
    rw [impl_angleSail_eq k hk]
    cases h : sailC a b with
    | inl c => rcases sailC_code h with rfl | rfl <;> rfl
    | inr s => rfl
  · unfold spec_SailPoints
    rw [spec_code_eq k hk]

/-- The places of the vertices, by the numbers. -/
def idxF (n : Nat) : Nat → List Int → List Nat
  | _, [] => []
  | i, c :: r => bif decide (i = 0) || (decide (i + 1 = n) || decide (2 < c)) then i :: idxF n (i + 1) r else idxF n (i + 1) r

theorem idxF_len (n : Nat) : ∀ (i : Nat) (l : List Int), (idxF n i l).length ≤ l.length
  | _, [] => by simp [idxF]
  | i, c :: r => by
    have := idxF_len n (i + 1) r
    simp only [idxF]
    cases (decide (i = 0) || (decide (i + 1 = n) || decide (2 < c))) <;> simp <;> omega

theorem idxF_mem (n : Nat) : ∀ (i : Nat) (l : List Int), ∀ x ∈ idxF n i l, i ≤ x ∧ x < i + l.length
  | _, [], x, h => by simp [idxF] at h
  | i, c :: r, x, h => by
    simp only [idxF] at h
    have ih := idxF_mem n (i + 1) r x
    simp only [List.length_cons]
    cases hb : (decide (i = 0) || (decide (i + 1 = n) || decide (2 < c))) with
    | true =>
      rw [hb, cond_true] at h
      rcases List.mem_cons.1 h with rfl | h
      · omega
      · have := ih h; omega
    | false =>
      rw [hb, cond_false] at h
      have := ih h
      omega

def nI (l : List Nat) : List Int := l.map Int.ofNat

/-- The places, as the program finds them. -/
theorem vert_l3 {T : List Int} (hT : T.length ≤ 4000) (pts : List (Int × Int)) : ∀ (rest : List Int) (k i : Nat) (out : List Int) b (r : List Int → Option α), T.drop i = rest → i ≤ T.length → out.length ≤ i → rest.length < k →
    impl_sail_vertices_0P_l3 k T.length i out T pts b r = b T.length T.length (out ++ nI (idxF T.length i rest)) T pts
  | [], k + 1, i, out, b, r, hd, hi, ho, _ => by
    have := drop_nil hd
    have : i = T.length := by omega
    subst this
    rw [impl_sail_vertices_0P_l3, dec_lt_f (by omega)]
    simp [idxF, nI]
  | e :: rest, k + 1, i, out, b, r, hd, hi, ho, hk => by
    obtain ⟨h1, h2, h3⟩ := drop_cons hd
    have en : w64 ((i : Int) + 1) = ((i + 1 : Nat) : Int) := by rw [w64_of (by omega) (by omega)]; omega
    have w1 : w64 (((T.length : Nat) : Int) - 1) = (T.length : Int) - 1 := w64_of (by omega) (by omega)
    have hb : decide (out.length + 1 ≤ big) = true := dec_nle_t (by rw [big_val]; omega)
    have ih := fun o ho => vert_l3 hT pts rest k (i + 1) o b r h2 (by omega) ho (by simp at hk; omega)
    rw [impl_sail_vertices_0P_l3, dec_lt_t (by omega), dec_le_t (by omega), cond_true, Bool.and_true, cond_true, Int.toNat_natCast, h1, Option.bind_some, w1, hb, en, ih (out ++ [(i : Int)]) (by simp; omega), ih out (by omega)]
    simp only [cond_true, idxF]
    have q0 : decide ((i : Int) = 0) = decide (i = 0) := by simp
    have q1 : decide ((i : Int) = (T.length : Int) - 1) = decide (i + 1 = T.length) := by
      by_cases h : i + 1 = T.length
      · rw [decide_eq_true h, decide_eq_true (by omega)]
      · rw [decide_eq_false h, decide_eq_false (by omega)]
    rw [q0, q1]
    cases decide (i = 0) with
    | true => simp [nI]
    | false =>
      cases decide (i + 1 = T.length) with
      | true => simp [nI]
      | false => cases decide (2 < e) <;> simp [nI]
  | _, 0, _, _, _, _, _, _, _, hk => by omega

theorem vertices_eq {T : List Int} (hT : T.length ≤ 4000) (pts : List (Int × Int)) (k : Nat) (hk : 4000 < k) (r : List Int → Option α) : impl_sail_vertices_0P k pts T r = r (nI (idxF T.length 0 T)) := by
  unfold impl_sail_vertices_0P
  have := vert_l3 hT pts T k 0 [] (fun _ _ out1 _ _ => r out1) r rfl (by omega) (by simp) (by omega)
  simpa using this

def ptsAt (L : List (Int × Int)) (l : List Nat) : List (Int × Int) := l.map fun i => L.getD i (0, 0)

theorem getD_some {L : List (Int × Int)} {i : Nat} (h : i < L.length) : L[i]? = some (L.getD i (0, 0)) := by
  simp [List.getD_eq_getElem?_getD, List.getElem?_eq_getElem h]

theorem sailV_l6 {L : List (Int × Int)} {V : List Nat} (hV : V.length ≤ 4000) (hm : ∀ x ∈ V, x < L.length) (T : List Int) : ∀ (rest : List Nat) (k i : Nat) (out : List (Int × Int)) b (r0 : Int → Option α) r1, V.drop i = rest → i ≤ V.length → out.length = i → rest.length < k →
    impl_SailVertices_l6 k V.length i out (nI V) L T b r0 r1 = b V.length V.length (out ++ ptsAt L rest) (nI V) L T
  | [], k + 1, i, out, b, r0, r1, hd, hi, ho, _ => by
    have := drop_nil hd
    have : i = V.length := by omega
    subst this
    rw [impl_SailVertices_l6, dec_lt_f (by omega)]
    simp [ptsAt]
  | e :: rest, k + 1, i, out, b, r0, r1, hd, hi, ho, hk => by
    obtain ⟨h1, h2, h3⟩ := drop_cons hd
    have he : e < L.length := hm e (List.mem_of_getElem? h1)
    have en : w64 ((i : Int) + 1) = ((i + 1 : Nat) : Int) := by rw [w64_of (by omega) (by omega)]; omega
    have hg : (nI V)[i]? = some (e : Int) := by simp [nI, h1]
    have hl : (nI V).length = V.length := by simp [nI]
    rw [impl_SailVertices_l6, hl, dec_lt_t (by omega), dec_le_t (by omega), cond_true, Bool.and_true, cond_true, Int.toNat_natCast, hg, Option.bind_some, dec_le_t (by omega), dec_lt_t (by omega), Bool.and_self, cond_true, Int.toNat_natCast, getD_some he, Option.bind_some, dec_nle_t (by rw [big_val]; omega), cond_true, en, sailV_l6 hV hm T rest k (i + 1) _ b r0 r1 h2 (by omega) (by simp; omega) (by simp at hk; omega)]
    simp [ptsAt]
  | _, 0, _, _, _, _, _, _, _, _, hk => by omega

/-- The numbers that the program has of a sail. -/
def tI (cs : List Int) : List Int := 0 :: cs ++ [0]

def tS (cs : List Int) : List Int := 2 :: cs ++ [2]

theorem tI_len (cs : List Int) : (tI cs).length = cs.length + 2 := by simp [tI]

theorem tS_len (cs : List Int) : (tS cs).length = cs.length + 2 := by simp [tS]

theorem idx_inner (n : Nat) : ∀ (cs : List Int) (i : Nat) (x y : Int), i + cs.length + 1 = n → idxF n i (cs ++ [x]) = idxF n i (cs ++ [y])
  | [], i, x, y, h => by
    have e : decide (i + 1 = n) = true := decide_eq_true (by simpa using h)
    simp [idxF, e]
  | c :: cs, i, x, y, h => by
    have := idx_inner n cs (i + 1) x y (by simp at h; omega)
    simp [idxF, this]

def vIdx (cs : List Int) : List Nat := idxF (cs.length + 2) 0 (tI cs)

theorem vIdx_spec (cs : List Int) : idxF (cs.length + 2) 0 (tS cs) = vIdx cs := by
  unfold vIdx tS tI
  simp only [List.cons_append, idxF, decide_true, Bool.true_or, cond_true]
  rw [idx_inner (cs.length + 2) cs 1 2 0 (by omega)]

theorem sailV_spec {L : List (Int × Int)} {S : List Int} (hL : L.length ≤ 4000) (hS : S.length = L.length) : ∀ (rest : List Int) (k i : Nat) (out : List (Int × Int)) b (r0 : Int → Option α) r1, S.drop i = rest → i ≤ L.length → out.length ≤ i → rest.length < k →
    spec_SailVertices_l6 k i L S out b r0 r1 = b L.length L S (out ++ ptsAt L (idxF L.length i rest))
  | [], k + 1, i, out, b, r0, r1, hd, hi, ho, _ => by
    have := drop_nil hd
    have : i = L.length := by omega
    subst this
    rw [spec_SailVertices_l6, dec_lt_f (by omega)]
    simp [idxF, ptsAt]
  | e :: rest, k + 1, i, out, b, r0, r1, hd, hi, ho, hk => by
    obtain ⟨h1, h2, h3⟩ := drop_cons hd
    have en : w64 ((i : Int) + 1) = ((i + 1 : Nat) : Int) := by rw [w64_of (by omega) (by omega)]; omega
    have w1 : w64 (((L.length : Nat) : Int) - 1) = (L.length : Int) - 1 := w64_of (by omega) (by omega)
    have hb : decide (out.length + 1 ≤ big) = true := dec_nle_t (by rw [big_val]; omega)
    have ih := fun o ho => sailV_spec hL hS rest k (i + 1) o b r0 r1 h2 (by omega) ho (by simp at hk; omega)
    rw [spec_SailVertices_l6, dec_lt_t (by omega), dec_le_t (by omega), cond_true, Bool.and_true, cond_true, Int.toNat_natCast, getD_some (by omega), h1, hS, dec_lt_t (by omega)]
    simp only [Option.bind_some, w1, hb, en, cond_true]
    rw [ih (out ++ [((L.getD i (0, 0)).1, (L.getD i (0, 0)).2)]) (by simp; omega), ih out (by omega)]
    simp only [idxF]
    have q0 : decide ((i : Int) = 0) = decide (i = 0) := by simp
    have q1 : decide ((i : Int) = (L.length : Int) - 1) = decide (i + 1 = L.length) := by
      by_cases h : i + 1 = L.length
      · rw [decide_eq_true h, decide_eq_true (by omega)]
      · rw [decide_eq_false h, decide_eq_false (by omega)]
    rw [q0, q1]
    cases decide (i = 0) with
    | true => simp [ptsAt]
    | false =>
      cases decide (i + 1 = L.length) with
      | true => simp [ptsAt]
      | false => cases decide (2 < e) <;> simp [ptsAt]
  | _, 0, _, _, _, _, _, _, _, _, hk => by omega

theorem sailVert_both (k : Nat) (hk : 1000000000 < k) (a b : Int × Int) :
    (∀ (r0 : Int → Option α) r1, impl_SailVertices k a.1 a.2 b.1 b.2 r0 r1 = match sailC a b with
      | .inl c => r0 c
      | .inr s => r1 (ptsAt s.1 (vIdx s.2)) 0) ∧
    (∀ (r0 : Int → Option α) r1, spec_SailVertices k a.1 a.2 b.1 b.2 r0 r1 = match sailC a b with
      | .inl c => r0 c
      | .inr s => r1 (ptsAt s.1 (vIdx s.2)) 0) := by
  refine ⟨fun r0 r1 => ?_, fun r0 r1 => ?_⟩
  · unfold impl_SailVertices
    rw [impl_angleSail_eq k hk]
    cases h : sailC a b with
    | inl c => rcases sailC_code h with rfl | rfl <;> rfl
    | inr s =>
      obtain ⟨_, hs, hl, _⟩ := sailC_ok k hk h
      have hc := hs.nc
      simp only [decide_true, Bool.not_true, cond_false]
      have ht : (0 :: s.2 ++ [0] : List Int).length = s.2.length + 2 := tI_len s.2
      rw [vertices_eq (by omega) s.1 k (by omega), ht]
      have hm := idxF_mem (s.2.length + 2) 0 (tI s.2)
      have hvl := idxF_len (s.2.length + 2) 0 (tI s.2)
      rw [tI_len] at hvl
      have := sailV_l6 (α := α) (L := s.1) (V := vIdx s.2) (by unfold vIdx; omega) (fun x hx => by have := hm x hx; rw [tI_len] at this; omega) (tI s.2) (vIdx s.2) k 0 [] (fun _ _ out1 _ _ _ => r1 out1 0) r0 r1 rfl (by omega) rfl (by unfold vIdx; omega)
      simpa [nI, vIdx, tI] using this
  · unfold spec_SailVertices
    rw [spec_code_eq k hk]
    cases h : sailC a b with
    | inl c => rcases sailC_code h with rfl | rfl <;> rfl
    | inr s =>
      obtain ⟨_, hs, hl, _⟩ := sailC_ok k hk h
      have hc := hs.nc
      simp only [decide_true, Bool.not_true, cond_false]
      have := sailV_spec (α := α) (L := s.1) (S := tS s.2) (by omega) (by rw [tS_len]; omega) (tS s.2) k 0 [] (fun _ _ _ out2 => r1 out2 0) r0 r1 rfl (by omega) (by simp) (by rw [tS_len]; omega)
      rw [hc, vIdx_spec] at this
      simpa [tS] using this

def tailC (T : List Int) : List Nat → List Int
  | x :: y :: r => (T.getD x 0 - 2) :: ((y : Int) - (x : Int)) :: tailC T (y :: r)
  | _ => []

def seqC (T : List Int) : List Nat → List Int
  | x :: y :: r => ((y : Int) - (x : Int)) :: tailC T (y :: r)
  | _ => []

def diffs : List Nat → List Int
  | x :: y :: r => ((y : Int) - (x : Int)) :: diffs (y :: r)
  | _ => []

def evens : List Int → List Int
  | [] => []
  | [x] => [x]
  | x :: _ :: r => x :: evens r

theorem evens_seq (T : List Int) : ∀ (r : List Nat) (x y : Nat), evens (((y : Int) - (x : Int)) :: tailC T (y :: r)) = diffs (x :: y :: r)
  | [], x, y => by simp [tailC, evens, diffs]
  | z :: r, x, y => by
    have := evens_seq T r y z
    simp only [tailC, evens, diffs]
    rw [this]
    rfl

theorem evens_seqC (T : List Int) (V : List Nat) : evens (seqC T V) = diffs V := by
  match V with
  | [] => rfl
  | [_] => rfl
  | x :: y :: r => exact evens_seq T r x y

theorem tailC_len (T : List Int) : ∀ (V : List Nat), (tailC T V).length ≤ 2 * V.length
  | [] => by simp [tailC]
  | [_] => by simp [tailC]
  | _ :: y :: r => by
    have := tailC_len T (y :: r)
    simp [tailC] at this ⊢
    omega

theorem seq_l3 {V : List Nat} {T : List Int} (hV : V.length ≤ 4000) (hT : T.length ≤ 4000) (hc : ∀ c ∈ T, -4000000000000 ≤ c ∧ c ≤ 4000000000000) (hm : ∀ x ∈ V, x < T.length) (L : List (Int × Int)) : ∀ (rest : List Nat) (x : Nat) (k i : Nat) (out : List Int) b (r : List Int → Option α), V.drop i = x :: rest → 1 ≤ i → out.length ≤ 3 * i → rest.length < k →
    impl_sail_sequence_0P_l3 k ((i + 1 : Nat) : Int) out (nI V) L T b r = b V.length (out ++ tailC T (x :: rest)) (nI V) L T
  | [], x, k + 1, i, out, b, r, hd, hi, ho, _ => by
    obtain ⟨h1, h2, h3⟩ := drop_cons hd
    have := drop_nil h2
    have hl : (nI V).length = V.length := by simp [nI]
    have e : i + 1 = V.length := by omega
    rw [impl_sail_sequence_0P_l3, hl, dec_lt_f (by omega), e]
    simp [tailC]
  | y :: rest, x, k + 1, i, out, b, r, hd, hi, ho, hk => by
    obtain ⟨h1, h2, h3⟩ := drop_cons hd
    obtain ⟨g1, g2, g3⟩ := drop_cons h2
    have hx : x < T.length := hm x (List.mem_of_getElem? h1)
    have hy : y < T.length := hm y (List.mem_of_getElem? g1)
    have hl : (nI V).length = V.length := by simp [nI]
    have a1 : (nI V)[i]? = some (x : Int) := by simp [nI, h1]
    have a2 : (nI V)[i + 1]? = some (y : Int) := by simp [nI, g1]
    have tg : T[x]? = some (T.getD x 0) := by simp [List.getD_eq_getElem?_getD, List.getElem?_eq_getElem hx]
    have tb := hc _ (List.mem_of_getElem? tg)
    have en : w64 (((i + 1 : Nat) : Int) + 1) = ((i + 1 + 1 : Nat) : Int) := by rw [w64_of (by omega) (by omega)]; omega
    have ep : w64 (((i + 1 : Nat) : Int) - 1) = (i : Int) := by rw [w64_of (by omega) (by omega)]; omega
    rw [impl_sail_sequence_0P_l3, hl, dec_lt_t (by omega), dec_lt_t (by omega), ep, dec_le_t (by omega), dec_lt_t (by omega), cond_true, Bool.and_self, cond_true, cond_true, Int.toNat_natCast, a1, Option.bind_some, dec_le_t (by omega), dec_lt_t (by omega), Bool.and_self, cond_true, Int.toNat_natCast, tg, Option.bind_some, dec_nle_t (by rw [big_val]; omega), cond_true, dec_le_t (by omega), Bool.and_true, cond_true, Int.toNat_natCast, a2, Option.bind_some, Option.bind_some, dec_nle_t (by rw [big_val]; simp; omega), cond_true, en]
    rw [w64_of (n := T.getD x 0 - 2) (by omega) (by omega), w64_of (n := (y : Int) - (x : Int)) (by omega) (by omega), seq_l3 hV hT hc hm L rest y k (i + 1) _ b r h2 (by omega) (by simp; omega) (by simp at hk; omega)]
    simp [tailC]
  | _, _, 0, _, _, _, _, _, _, _, hk => by omega

theorem sequence_eq {L : List (Int × Int)} {T : List Int} {V : List Nat} (hT : T.length ≤ 4000) (hc : ∀ c ∈ T, -4000000000000 ≤ c ∧ c ≤ 4000000000000) (hV : V = idxF T.length 0 T) (h2 : 2 ≤ V.length) (k : Nat) (hk : 4001 < k) (r : List Int → Option α) : impl_sail_sequence_0P k L T r = r (seqC T V) := by
  have hm : ∀ x ∈ V, x < T.length := fun x hx => by rw [hV] at hx; have := idxF_mem T.length 0 T x hx; omega
  have hVl : V.length ≤ T.length := by rw [hV]; exact idxF_len T.length 0 T
  unfold impl_sail_sequence_0P
  rw [vertices_eq hT L k (by omega), ← hV]
  obtain ⟨k, rfl⟩ : ∃ k', k = k' + 1 := ⟨k - 1, by omega⟩
  match V, h2 with
  | x :: y :: rest, _ =>
    have hx := hm x (by simp)
    have hy := hm y (by simp)
    have hl : (nI (x :: y :: rest)).length = rest.length + 2 := by simp [nI]
    have w1 : w64 (1 - 1) = 0 := by decide
    have w2 : w64 (1 + 1) = ((1 + 1 : Nat) : Int) := by decide
    have a1 : (nI (x :: y :: rest))[(0 : Int).toNat]? = some (x : Int) := by simp [nI]
    have a2 : (nI (x :: y :: rest))[(1 : Int).toNat]? = some (y : Int) := by simp [nI]
    rw [impl_sail_sequence_0P_l3, hl, dec_lt_t (show (1 : Int) < ((rest.length + 2 : Nat) : Int) by omega), dec_lt_f (by omega), cond_true, cond_false, dec_le_t (by omega), Bool.and_true, cond_true, a2, Option.bind_some, w1, dec_le_t (by omega), dec_lt_t (by omega), Bool.and_self, cond_true, a1, Option.bind_some, dec_nle_t (by rw [big_val]; simp), cond_true, w2, w64_of (n := (y : Int) - (x : Int)) (by omega) (by omega)]
    have := seq_l3 (α := α) (V := x :: y :: rest) (T := T) (by simp at hVl ⊢; omega) hT hc hm L rest y k 1 ([] ++ [(y : Int) - (x : Int)]) (fun _ out1 _ _ _ => r out1) r rfl (by omega) (by simp) (by simp at hVl; omega)
    rw [this]
    simp [seqC]

theorem every_l3 {l : List Int} (hl : l.length ≤ 20000) : ∀ (rest : List Int) (k i : Nat) (out : List Int) b (r : List Int → Option α), l.drop i = rest → i ≤ l.length + 1 → out.length ≤ i → rest.length < k →
    impl_every_l3 k i l out b r = b ((i + 2 * ((rest.length + 1) / 2) : Nat) : Int) l (out ++ evens rest)
  | [], k + 1, i, out, b, r, hd, hi, ho, _ => by
    have := drop_nil hd
    rw [impl_every_l3, dec_lt_f (by omega)]
    simp [evens]
  | [e], k + 1, i, out, b, r, hd, hi, ho, hk => by
    obtain ⟨h1, h2, h3⟩ := drop_cons hd
    have := drop_nil h2
    have en : w64 ((i : Int) + 2) = ((i + 2 : Nat) : Int) := by rw [w64_of (by omega) (by omega)]; omega
    obtain ⟨k, rfl⟩ : ∃ k', k = k' + 1 := ⟨k - 1, by simp at hk; omega⟩
    rw [impl_every_l3, dec_lt_t (by omega), dec_le_t (by omega), cond_true, Bool.and_true, cond_true, Int.toNat_natCast, h1, Option.bind_some, dec_nle_t (by rw [big_val]; omega), cond_true, en, impl_every_l3, dec_lt_f (by omega)]
    simp [evens]
  | e :: e2 :: rest, k + 1, i, out, b, r, hd, hi, ho, hk => by
    obtain ⟨h1, h2, h3⟩ := drop_cons hd
    obtain ⟨g1, g2, g3⟩ := drop_cons h2
    have en : w64 ((i : Int) + 2) = ((i + 2 : Nat) : Int) := by rw [w64_of (by omega) (by omega)]; omega
    rw [impl_every_l3, dec_lt_t (by omega), dec_le_t (by omega), cond_true, Bool.and_true, cond_true, Int.toNat_natCast, h1, Option.bind_some, dec_nle_t (by rw [big_val]; omega), cond_true, en, every_l3 hl rest k (i + 2) _ b r g2 (by omega) (by simp; omega) (by simp at hk; omega)]
    simp only [evens, List.append_assoc, List.singleton_append, List.length_cons]
    congr 2
    omega
  | _, 0, _, _, _, _, _, _, _, hk => by omega

theorem every_eq {l : List Int} (hl : l.length ≤ 20000) (k : Nat) (hk : 20000 < k) (r : List Int → Option α) : impl_every k l 0 r = r (evens l) := by
  unfold impl_every
  have := every_l3 hl l k 0 [] (fun _ _ out1 => r out1) r rfl (by omega) (by simp) (by omega)
  simpa using this

theorem vIdx_form (cs : List Int) : ∃ m, vIdx cs = 0 :: (m ++ [cs.length + 1]) ∧ ∀ x ∈ m, 1 ≤ x ∧ x ≤ cs.length := by
  have key : ∀ (l : List Int) (i : Nat), 1 ≤ i → i + l.length = cs.length + 1 → ∃ m, idxF (cs.length + 2) i (l ++ [0]) = m ++ [cs.length + 1] ∧ ∀ x ∈ m, i ≤ x ∧ x ≤ cs.length := by
    intro l
    induction l with
    | nil =>
      intro i hi h
      have : i = cs.length + 1 := by simpa using h
      subst this
      exact ⟨[], by simp [idxF], by simp⟩
    | cons c l ih =>
      intro i hi h
      obtain ⟨m, hm, hx⟩ := ih (i + 1) (by omega) (by simp at h; omega)
      have h0 : decide (i = 0) = false := decide_eq_false (by omega)
      have h1 : decide (i + 1 = cs.length + 2) = false := decide_eq_false (by simp at h; omega)
      simp only [List.cons_append, idxF, h0, h1, Bool.false_or, hm]
      cases decide (2 < c) with
      | true => exact ⟨i :: m, by simp, fun x hxm => by
          rcases List.mem_cons.1 hxm with rfl | hxm
          · simp at h; omega
          · have := hx x hxm; omega⟩
      | false => exact ⟨m, by simp, fun x hxm => by have := hx x hxm; omega⟩
  obtain ⟨m, hm, hx⟩ := key cs 1 (by omega) (by omega)
  refine ⟨m, ?_, hx⟩
  unfold vIdx tI
  simp [idxF, hm]

theorem lengths_eq (k : Nat) (hk : 1000000000 < k) (a b : Int × Int) (r0 : Int → Option α) r1 : impl_SailLengths k a.1 a.2 b.1 b.2 r0 r1 = match sailC a b with
    | .inl c => r0 c
    | .inr s => r1 (diffs (vIdx s.2)) 0 := by
  unfold impl_SailLengths impl_SequenceOf
  rw [impl_angleSail_eq k hk]
  cases h : sailC a b with
  | inl c => rcases sailC_code h with rfl | rfl <;> rfl
  | inr s =>
    obtain ⟨hA, hs, hl, _⟩ := sailC_ok k hk h
    have hc := hs.nc
    have hT : (tI s.2).length = s.2.length + 2 := tI_len s.2
    have hcb : ∀ c ∈ tI s.2, -4000000000000 ≤ c ∧ c ≤ 4000000000000 := fun c hc => by
      simp only [tI, List.cons_append, List.mem_cons, List.mem_append, List.not_mem_nil, or_false] at hc
      rcases hc with rfl | hc | rfl
      · omega
      · have := hs.cb c hc; omega
      · omega
    obtain ⟨m, hm, _⟩ := vIdx_form s.2
    simp only [decide_true, Bool.not_true, cond_false]
    have hv : vIdx s.2 = idxF (tI s.2).length 0 (tI s.2) := by rw [hT]; rfl
    have hvl : (vIdx s.2).length ≤ s.2.length + 2 := by rw [hv]; have := idxF_len (tI s.2).length 0 (tI s.2); omega
    have hsl : (seqC (tI s.2) (vIdx s.2)).length ≤ 20000 := by
      match hV : vIdx s.2, hvl with
      | [], _ => simp [seqC]
      | [_], _ => simp [seqC]
      | x :: y :: r, hvl =>
        have := tailC_len (tI s.2) (y :: r)
        simp [seqC] at this hvl ⊢
        omega
    have := sequence_eq (α := α) (L := s.1) (T := tI s.2) (by omega) hcb hv (by rw [hm]; simp) k (by omega) fun v4 => (fun v2 v3 => bif !decide (v3 = 0) then r0 v3 else impl_every k v2 0 fun v4 => r1 v4 0) v4 0
    simp only [decide_true, Bool.not_true, cond_false] at this
    rw [show (0 :: s.2 ++ [0] : List Int) = tI s.2 from rfl, this, every_eq hsl k (by omega), evens_seqC]

def Ch (Q : Nat → Nat → Prop) : List Nat → Prop
  | x :: y :: r => Q x y ∧ Ch Q (y :: r)
  | _ => True

theorem gcd_det {p q x y : Int} (h : p * y - q * x = 1) : gcdI x y = 1 := by
  have h1 : gcdI x y ∣ p * y - q * x := Int.dvd_sub (Int.dvd_trans (Int.gcd_dvd_right _ _) (Int.dvd_mul_left _ _)) (Int.dvd_trans (Int.gcd_dvd_left _ _) (Int.dvd_mul_left _ _))
  rw [h] at h1
  have h2 : 0 ≤ gcdI x y := by unfold gcdI; omega
  have := Int.le_of_dvd (by omega) h1
  rcases (show gcdI x y = 0 ∨ gcdI x y = 1 by omega) with e | e
  · rw [e] at h1
    have := Int.zero_dvd.1 h1
    omega
  · exact e

/-- The length between two places. -/
def gapOK (L : List (Int × Int)) (x y : Nat) : Prop := gcdI ((L.getD y (0, 0)).1 - (L.getD x (0, 0)).1) ((L.getD y (0, 0)).2 - (L.getD x (0, 0)).2) = (y : Int) - (x : Int)

theorem gap_walk {a b : Int × Int} {L : List (Int × Int)} {cs : List Int} (hs : Sl a b L cs) : ∀ (rest : List Int) (x i : Nat), (tI cs).drop i = rest → x < i →
    (i < L.length → (L.getD i (0, 0)).1 - (L.getD x (0, 0)).1 = ((i : Int) - (x : Int)) * ((L.getD i (0, 0)).1 - (L.getD (i - 1) (0, 0)).1) ∧ (L.getD i (0, 0)).2 - (L.getD x (0, 0)).2 = ((i : Int) - (x : Int)) * ((L.getD i (0, 0)).2 - (L.getD (i - 1) (0, 0)).2)) →
    Ch (gapOK L) (x :: idxF L.length i rest)
  | [], x, i, _, _, _ => by simp [idxF, Ch]
  | c :: rest, x, i, hd, hx, hJ => by
    obtain ⟨h1, h2, h3⟩ := drop_cons hd
    have hn := hs.nc
    rw [tI_len] at h3
    obtain ⟨j1, j2⟩ := hJ (by omega)
    have h0 : decide (i = 0) = false := decide_eq_false (by omega)
    have hdet := hs.det (i - 1) (by omega)
    rw [show i - 1 + 1 = i by omega] at hdet
    have hg : gcdI ((L.getD i (0, 0)).1 - (L.getD (i - 1) (0, 0)).1) ((L.getD i (0, 0)).2 - (L.getD (i - 1) (0, 0)).2) = 1 := by
      apply gcd_det (p := (L.getD (i - 1) (0, 0)).1) (q := (L.getD (i - 1) (0, 0)).2)
      rw [← hdet]
      unfold dt
      grind
    simp only [idxF, h0, Bool.false_or]
    cases hv : (decide (i + 1 = L.length) || decide (2 < c)) with
    | true =>
      rw [cond_true]
      refine ⟨?_, gap_walk hs rest i (i + 1) h2 (by omega) fun hlt => ?_⟩
      · unfold gapOK
        rw [j1, j2]
        unfold gcdI at hg ⊢
        rw [Int.gcd_mul_left]
        have : Int.gcd ((L.getD i (0, 0)).1 - (L.getD (i - 1) (0, 0)).1) ((L.getD i (0, 0)).2 - (L.getD (i - 1) (0, 0)).2) = 1 := by omega
        rw [this]
        omega
      · rw [Nat.add_sub_cancel]
        constructor <;> (rw [show ((i + 1 : Nat) : Int) - (i : Int) = 1 by omega, Int.one_mul])
    | false =>
      rw [cond_false]
      simp only [Bool.or_eq_false_iff, decide_eq_false_iff_not] at hv
      refine gap_walk hs rest x (i + 1) h2 (by omega) fun hlt => ?_
      obtain ⟨c2, hst⟩ := hs.step (i - 1) (by omega)
      have hc : cs.getD (i - 1) 0 = c := by
        have : (tI cs)[i]? = cs[i - 1]? := by
          unfold tI
          obtain ⟨j, rfl⟩ : ∃ j, i = j + 1 := ⟨i - 1, by omega⟩
          rw [List.cons_append, List.getElem?_cons_succ, List.getElem?_append_left (by omega), Nat.add_sub_cancel]
        rw [this] at h1
        simp [List.getD_eq_getElem?_getD, h1]
      rw [hc] at c2 hst
      have hc2 : c = 2 := by omega
      rw [hc2, show i - 1 + 2 = i + 1 by omega, show i - 1 + 1 = i by omega] at hst
      rw [Nat.add_sub_cancel, hst]
      simp only
      constructor
      · rw [show 2 * (L.getD i (0, 0)).1 - (L.getD (i - 1) (0, 0)).1 - (L.getD i (0, 0)).1 = (L.getD i (0, 0)).1 - (L.getD (i - 1) (0, 0)).1 by omega, show ((i + 1 : Nat) : Int) - (x : Int) = ((i : Int) - (x : Int)) + 1 by omega, Int.add_mul, ← j1]
        omega
      · rw [show 2 * (L.getD i (0, 0)).2 - (L.getD (i - 1) (0, 0)).2 - (L.getD i (0, 0)).2 = (L.getD i (0, 0)).2 - (L.getD (i - 1) (0, 0)).2 by omega, show ((i + 1 : Nat) : Int) - (x : Int) = ((i : Int) - (x : Int)) + 1 by omega, Int.add_mul, ← j2]
        omega

theorem gaps_ok {a b : Int × Int} {L : List (Int × Int)} {cs : List Int} (hs : Sl a b L cs) : Ch (gapOK L) (vIdx cs) := by
  have h := gap_walk hs (cs ++ [0]) 0 1 rfl (by omega) fun hlt => by
    constructor <;> simp
  rw [hs.nc] at h
  unfold vIdx tI
  simp only [List.cons_append, idxF, decide_true, Bool.true_or, cond_true]
  exact h

theorem diffs_len : ∀ (V : List Nat), (diffs V).length = V.length - 1
  | [] => rfl
  | [_] => rfl
  | _ :: y :: r => by simp [diffs, diffs_len (y :: r)]

theorem diffs_get : ∀ (V : List Nat) (i x y : Nat) (r : List Nat), V.drop i = x :: y :: r → (diffs V)[i]? = some ((y : Int) - (x : Int))
  | [], i, x, y, r, h => by simp at h
  | [z], i, x, y, r, h => by
    cases i with
    | zero => simp at h
    | succ i => simp at h
  | z :: w :: V, 0, x, y, r, h => by
    simp only [List.drop_zero, List.cons.injEq] at h
    obtain ⟨rfl, rfl, _⟩ := h
    rfl
  | z :: w :: V, i + 1, x, y, r, h => by
    have := diffs_get (w :: V) i x y r h
    simpa [diffs] using this

theorem Ch_drop {Q : Nat → Nat → Prop} : ∀ (V : List Nat) (i x y : Nat) (r : List Nat), Ch Q V → V.drop i = x :: y :: r → Q x y
  | [], i, x, y, r, _, h => by simp at h
  | [z], i, x, y, r, _, h => by
    cases i with
    | zero => simp at h
    | succ i => simp at h
  | z :: w :: V, 0, x, y, r, hc, h => by
    simp only [List.drop_zero, List.cons.injEq] at h
    obtain ⟨rfl, rfl, _⟩ := h
    exact hc.1
  | z :: w :: V, i + 1, x, y, r, hc, h => Ch_drop (w :: V) i x y r hc.2 h

theorem sum_l3 {l : List Int} (hl : l.length ≤ 20000) : ∀ (rest : List Int) (k i : Nat) (n : Int) b (r : Int → Option α), l.drop i = rest → i ≤ l.length → (∀ x ∈ rest, 0 ≤ x ∧ x ≤ 4000) → 0 ≤ n → n ≤ 4000 * (i : Int) → rest.length < k →
    laws_sum_l3 k n i l b r = b (n + rest.sum) l.length l
  | [], k + 1, i, n, b, r, hd, hi, _, _, _, _ => by
    have := drop_nil hd
    have : i = l.length := by omega
    subst this
    rw [laws_sum_l3, dec_lt_f (by omega)]
    simp
  | e :: rest, k + 1, i, n, b, r, hd, hi, hx, h0, hn, hk => by
    obtain ⟨h1, h2, h3⟩ := drop_cons hd
    have he := hx e (by simp)
    have en : w64 ((i : Int) + 1) = ((i + 1 : Nat) : Int) := by rw [w64_of (by omega) (by omega)]; omega
    rw [laws_sum_l3, dec_lt_t (by omega), dec_le_t (by omega), cond_true, Bool.and_true, cond_true, Int.toNat_natCast, h1, Option.bind_some, en, w64_of (n := n + e) (by omega) (by omega), sum_l3 hl rest k (i + 1) (n + e) b r h2 (by omega) (fun x h => hx x (by simp [h])) (by omega) (by omega) (by simp at hk; omega)]
    simp only [List.sum_cons]
    rw [Int.add_assoc]
  | _, 0, _, _, _, _, _, _, _, _, _, hk => by omega

theorem diffs_sum : ∀ (V : List Nat) (x : Nat), (diffs (x :: V)).sum = ((x :: V).getLast (by simp) : Nat) - (x : Int)
  | [], x => by simp [diffs]
  | y :: r, x => by
    have := diffs_sum r y
    simp only [diffs, List.sum_cons, this]
    have e : (x :: y :: r).getLast (by simp) = (y :: r).getLast (by simp) := List.getLast_cons (by simp)
    rw [e]
    omega

theorem impl_lengthOf_eq (k : Nat) (hk : 1000000000 < k) {p q : Int × Int} (hp : Crd p) (hq : Crd q) (r : Int → Int → Option α) : impl_LengthOf k p.1 p.2 q.1 q.2 r = r (gcdI (q.1 - p.1) (q.2 - p.2)) 0 := by
  have hp' := hp
  have hq' := hq
  obtain ⟨ha, hb⟩ := hp'
  obtain ⟨hc, hd⟩ := hq'
  simp only [impl_LengthOf, impl_points2 k (show 3 ≤ k by omega), crdP_iff.2 hp, crdP_iff.2 hq, Bool.and_self, Bool.not_true, cond_false, impl_Point_length]
  rw [impl_less_eq k q.1 q.2 p.1 p.2 _ (by omega) (by omega) (by omega) (by omega), impl_gcd_eq k _ _ _ (by omega) (by omega) (by omega) (by omega) hk]

theorem len22 {a b : Int × Int} {L : List (Int × Int)} {cs : List Int} (hs : Sl a b L cs) {V : List Nat} (hV : V.length ≤ 4000) (hm : ∀ x ∈ V, x < L.length) (hc : Ch (gapOK L) V) (code : List Int) : ∀ (rest : List Nat) (x k i : Nat) B (r : Bool → Option α), V.drop i = x :: rest → rest.length + 1000000000 < k →
    laws_FnSails_l22 k i code (ptsAt L V) (diffs V) B r = B (V.length - 1 : Nat) code (ptsAt L V) (diffs V)
  | [], x, k + 1, i, B, r, hd, hk => by
    obtain ⟨h1, h2, h3⟩ := drop_cons hd
    have := drop_nil h2
    have hl := diffs_len V
    have e : i = V.length - 1 := by omega
    rw [laws_FnSails_l22, dec_lt_f (by omega), e]
    rfl
  | y :: rest, x, k + 1, i, B, r, hd, hk => by
    simp only [List.length_cons] at hk
    obtain ⟨h1, h2, h3⟩ := drop_cons hd
    obtain ⟨g1, g2, g3⟩ := drop_cons h2
    have hl := diffs_len V
    have hpl : (ptsAt L V).length = V.length := by simp [ptsAt]
    have hx := hm x (List.mem_of_getElem? h1)
    have hy := hm y (List.mem_of_getElem? g1)
    have a1 : (ptsAt L V)[i]? = some (L.getD x (0, 0)) := by simp [ptsAt, h1]
    have a2 : (ptsAt L V)[i + 1]? = some (L.getD y (0, 0)) := by simp [ptsAt, g1]
    have hd' := diffs_get V i x y rest hd
    have hq := Ch_drop V i x y rest hc hd
    have en : w64 ((i : Int) + 1) = ((i + 1 : Nat) : Int) := by rw [w64_of (by omega) (by omega)]; omega
    have e1 := fun r => impl_lengthOf_eq (α := α) k (by omega) (hs.crd x hx).1 (hs.crd y hy).1 r
    rw [laws_FnSails_l22, hl, hpl, en, dec_lt_t (by omega), dec_le_t (by omega), dec_lt_t (by omega), dec_le_t (by omega), dec_lt_t (by omega)]
    simp only [Bool.and_self, cond_true, Int.toNat_natCast, a1, a2, Option.bind_some, e1, hd']
    rw [hq]
    simp only [decide_true, Bool.not_true, cond_false]
    exact len22 hs hV hm hc code rest y k (i + 1) B r h2 (by omega)
  | _, _, 0, _, _, _, _, hk => by omega

def insB (a b c : Int × Int) : Bool := decide (0 ≤ dt a c) && decide (0 ≤ dt c b)

theorem isIn_both (k : Nat) (hk : 1000000000 < k) (a b c : Int × Int) : ∃ v z, (∀ r : Bool → Int → Option α, impl_IsInAngle k a.1 a.2 b.1 b.2 c.1 c.2 r = r v z) ∧ (∀ r : Bool → Int → Option α, spec_IsInAngle k a.1 a.2 b.1 b.2 c.1 c.2 r = r v z) ∧ (Ang a b → Crd c → z = 0 ∧ v = insB a b c) := by
  simp only [impl_IsInAngle, spec_IsInAngle, impl_isAngle_eq k hk, spec_isAngle_eq k hk, impl_IsPoint_eq, spec_l01Is_eq]
  cases h : angB (a.1, a.2) (b.1, b.2) with
  | false => exact ⟨false, 1, fun r => by simp, fun r => by simp, fun hA => by rw [angB_iff.2 hA] at h; cases h⟩
  | true =>
    have hA := angB_iff.1 h
    cases hc : (crd c.1 && crd c.2) with
    | false => exact ⟨false, 1, fun r => by simp, fun r => by simp, fun _ hC => by rw [crdP_iff.2 hC] at hc; cases hc⟩
    | true =>
      have hC := crdP_iff.1 hc
      refine ⟨insB a b c, 0, fun r => ?_, fun r => ?_, fun _ _ => ⟨rfl, rfl⟩⟩
      · simp only [Bool.not_true, cond_false, impl_inAngle, impl_det, insB]
        rw [show w64 (w64 (a.1 * c.2) - w64 (a.2 * c.1)) = dt a c from dt_w hA.ca hC, show w64 (w64 (c.1 * b.2) - w64 (c.2 * b.1)) = dt c b from dt_w hC hA.cb]
        cases decide (0 ≤ dt a c) <;> simp
      · simp only [Bool.not_true, cond_false, spec_l03Inside, spec_l01Det, insB]
        rw [show w64 (w64 (a.1 * c.2) - w64 (a.2 * c.1)) = dt a c from dt_w hA.ca hC, show w64 (w64 (c.1 * b.2) - w64 (c.2 * b.1)) = dt c b from dt_w hC hA.cb]
        cases decide (0 ≤ dt a c) <;> simp

theorem loop15 {a b : Int × Int} (hA : Ang a b) {L : List (Int × Int)} {cs : List Int} (hs : Sl a b L cs) (hL : L.length ≤ 4000) (code : List Int) (V : List (Int × Int)) (ls : List Int) (B : List (Int × Int) → List Int → List Int → Option α) (r : Bool → Option α) : ∀ (m k i : Nat), i + m = L.length → 1 ≤ i → m + 1000000000 < k →
    laws_FnSails_l15 k i code a.1 a.2 b.1 b.2 L V ls (fun _ code8 _ _ _ _ _ v4 l3 => B v4 l3 code8) r = B V ls code
  | 0, k + 1, i, hi, h1, _ => by
    rw [laws_FnSails_l15, dec_lt_f (by omega), cond_false]
  | m + 1, k + 1, i, hi, h1, hk => by
    have en : w64 ((i : Int) + 1) = ((i + 1 : Nat) : Int) := by rw [w64_of (by omega) (by omega)]; omega
    have ep : w64 ((i : Int) - 1) = ((i - 1 : Nat) : Int) := by rw [w64_of (by omega) (by omega)]; omega
    rw [laws_FnSails_l15, dec_lt_t (by omega), cond_true]
    by_cases h2 : (i : Int) < 200
    · have c0 := hs.crd (i - 1) (by omega)
      have c1 := hs.crd i (by omega)
      have hdet := hs.det (i - 1) (by omega)
      rw [show i - 1 + 1 = i by omega] at hdet
      obtain ⟨v, z, e1, _, e2⟩ := isIn_both (α := α) k (by omega) a b (L.getD i (0, 0))
      obtain ⟨rfl, rfl⟩ := e2 hA c1.1
      have hin : insB a b (L.getD i (0, 0)) = true := by
        unfold insB
        rw [decide_eq_true c1.2.1, decide_eq_true c1.2.2]
        rfl
      rw [decide_eq_true h2, cond_true, ep, dec_le_t (by omega), dec_lt_t (by omega), dec_le_t (by omega)]
      simp only [Bool.and_self, Bool.and_true, cond_true, Int.toNat_natCast, getD_some (show i - 1 < L.length by omega), getD_some (show i < L.length by omega), Option.bind_some, detOf_impl k (show 3 ≤ k by omega), crdP_iff.2 c0.1, crdP_iff.2 c1.1, e1, hin]
      rw [show detP (L.getD (i - 1) (0, 0)).1 (L.getD (i - 1) (0, 0)).2 (L.getD i (0, 0)).1 (L.getD i (0, 0)).2 = 1 from hdet]
      simp only [decide_true, Bool.not_true, cond_false, en]
      exact loop15 hA hs hL code V ls B r m k (i + 1) (by omega) (by omega) (by omega)
    · rw [decide_eq_false h2, cond_false]
  | _, 0, _, _, _, hk => by omega

/-- The place of the part of an angle where a point is. -/
def spI (L : List (Int × Int)) (c : Int × Int) : Nat → Nat → Nat
  | 0, i => i
  | m + 1, i => if 0 < dt c (L.getD (i + 1) (0, 0)) then i else spI L c m (i + 1)

theorem spI_b (L : List (Int × Int)) (c : Int × Int) : ∀ (m i : Nat), i ≤ spI L c m i ∧ spI L c m i ≤ i + m
  | 0, i => by simp [spI]
  | m + 1, i => by
    have := spI_b L c m (i + 1)
    simp only [spI]
    split <;> omega

def splitL (L : List (Int × Int)) (c : Int × Int) : List Int := [(spI L c (L.length - 2) 0 : Nat), dt c (L.getD (spI L c (L.length - 2) 0 + 1) (0, 0)), dt (L.getD (spI L c (L.length - 2) 0) (0, 0)) c]

theorem spec_split9 {a b : Int × Int} {L : List (Int × Int)} {cs : List Int} (hs : Sl a b L cs) (hL : L.length ≤ 4000) {c : Int × Int} (hc : Crd c) (r0 : Int → Option α) (r1 : List Int → Int → Option α) : ∀ (m k i : Nat), i + m + 2 = L.length → m < k →
    spec_SplitPoint_l9 k i c.1 c.2 L (fun _ c6 c7 points2 =>
      bif (decide (0 ≤ (w64 ((w64 ((((List.length points2) : Nat) : Int) - 2)) + 1))) && decide ((w64 ((w64 ((((List.length points2) : Nat) : Int) - 2)) + 1)) < (((List.length points2) : Nat) : Int))) then
        (points2[(w64 ((w64 ((((List.length points2) : Nat) : Int) - 2)) + 1)).toNat]?).bind fun e_5 =>
        bif (decide (0 ≤ (w64 ((((List.length points2) : Nat) : Int) - 2))) && decide ((w64 ((((List.length points2) : Nat) : Int) - 2)) < (((List.length points2) : Nat) : Int))) then
          (points2[(w64 ((((List.length points2) : Nat) : Int) - 2)).toNat]?).bind fun e_6 =>
          spec_l01Det k c6 c7 e_5.1 e_5.2 fun v12 =>
          spec_l01Det k e_6.1 e_6.2 c6 c7 fun v13 =>
          r1 [(w64 ((((List.length points2) : Nat) : Int) - 2)), v12, v13] 0
        else
          none
      else
        none) r0 r1 = r1 [(spI L c m i : Nat), dt c (L.getD (spI L c m i + 1) (0, 0)), dt (L.getD (spI L c m i) (0, 0)) c] 0
  | 0, k + 1, i, hi, _ => by
    have w2 : w64 ((i : Int) + 2) = ((i + 2 : Nat) : Int) := by rw [w64_of (by omega) (by omega)]; omega
    have v2 : w64 (((L.length : Nat) : Int) - 2) = (i : Int) := by rw [w64_of (by omega) (by omega)]; omega
    have w1 : w64 ((i : Int) + 1) = ((i + 1 : Nat) : Int) := by rw [w64_of (by omega) (by omega)]; omega
    have c1 := hs.crd (i + 1) (by omega)
    have c0 := hs.crd i (by omega)
    rw [spec_SplitPoint_l9, w2, dec_lt_f (by omega), cond_false, v2, w1, dec_le_t (by omega), dec_lt_t (by omega), dec_le_t (by omega), dec_lt_t (by omega)]
    simp only [Bool.and_self, cond_true, Int.toNat_natCast, getD_some (show i < L.length by omega), getD_some (show i + 1 < L.length by omega), Option.bind_some, spec_l01Det, dt_w hc c1.1, dt_w c0.1 hc, spI]
  | m + 1, k + 1, i, hi, hk => by
    have w2 : w64 ((i : Int) + 2) = ((i + 2 : Nat) : Int) := by rw [w64_of (by omega) (by omega)]; omega
    have w1 : w64 ((i : Int) + 1) = ((i + 1 : Nat) : Int) := by rw [w64_of (by omega) (by omega)]; omega
    have c1 := hs.crd (i + 1) (by omega)
    have c0 := hs.crd i (by omega)
    rw [spec_SplitPoint_l9, w2, dec_lt_t (by omega), cond_true, w1, dec_le_t (by omega), dec_lt_t (by omega), dec_le_t (by omega), dec_lt_t (by omega)]
    simp only [Bool.and_self, cond_true, Int.toNat_natCast, getD_some (show i < L.length by omega), getD_some (show i + 1 < L.length by omega), Option.bind_some, spec_l01Det, dt_w hc c1.1, dt_w c0.1 hc, spI]
    by_cases hp : 0 < dt c (L.getD (i + 1) (0, 0))
    · rw [if_pos hp, decide_eq_true hp, cond_true]
    · rw [if_neg hp, decide_eq_false hp, cond_false]
      exact spec_split9 hs hL hc r0 r1 m k (i + 1) (by omega) (by omega)
  | _, 0, _, _, hk => by omega

theorem impl_split10 {a b : Int × Int} {L : List (Int × Int)} {cs : List Int} (hs : Sl a b L cs) (hL : L.length ≤ 4000) {c : Int × Int} (hc : Crd c) (hcb : 0 ≤ dt c b) (T : List Int) B (r0 : Int → Option α) (r1 : List Int → Int → Option α) : ∀ (m k i : Nat), i + m + 2 = L.length → m < k → 0 ≤ dt (L.getD i (0, 0)) c →
    impl_SplitPoint_l10 k ((L.length - 2 : Nat) : Int) ((L.length - 1 : Nat) : Int) i c.1 c.2 L T B r0 r1 = r1 [(spI L c m i : Nat), dt c (L.getD (spI L c m i + 1) (0, 0)), dt (L.getD (spI L c m i) (0, 0)) c] 0
  | m, k + 1, i, hi, hk, h0 => by
    have w1 : w64 ((i : Int) + 1) = ((i + 1 : Nat) : Int) := by rw [w64_of (by omega) (by omega)]; omega
    have c1 := hs.crd (i + 1) (by omega)
    have c0 := hs.crd i (by omega)
    rw [impl_SplitPoint_l10, dec_lt_t (by omega), cond_true, w1, dec_le_t (by omega), dec_lt_t (by omega), dec_le_t (by omega), dec_lt_t (by omega)]
    simp only [Bool.and_self, cond_true, Int.toNat_natCast, getD_some (show i < L.length by omega), getD_some (show i + 1 < L.length by omega), Option.bind_some, impl_det, dt_w hc c1.1, dt_w c0.1 hc, decide_eq_true h0]
    cases m with
    | zero =>
      have hl := hs.last
      rw [show L.length - 1 = i + 1 by omega] at hl
      simp only [spI]
      by_cases hp : 1 ≤ dt c (L.getD (i + 1) (0, 0))
      · rw [decide_eq_true hp, cond_true]
      · have hz : dt c (L.getD (i + 1) (0, 0)) = 0 := by rw [hl] at hp ⊢; omega
        rw [decide_eq_false hp, cond_false, decide_eq_true hz, cond_true, decide_eq_true (show ((i : Nat) : Int) = ((L.length - 2 : Nat) : Int) by omega), cond_true]
    | succ m =>
      have hne : decide (((i : Nat) : Int) = ((L.length - 2 : Nat) : Int)) = false := decide_eq_false (by omega)
      simp only [spI]
      by_cases hp : 0 < dt c (L.getD (i + 1) (0, 0))
      · rw [if_pos hp, decide_eq_true (show 1 ≤ dt c (L.getD (i + 1) (0, 0)) by omega), cond_true]
      · rw [if_neg hp, decide_eq_false (show ¬ 1 ≤ dt c (L.getD (i + 1) (0, 0)) by omega), cond_false, hne, cond_false]
        have := impl_split10 hs hL hc hcb T B r0 r1 m k (i + 1) (by omega) (by omega) (by rw [dt_skew]; omega)
        rw [this]
        cases decide (dt c (L.getD (i + 1) (0, 0)) = 0) <;> rfl
  | _, 0, _, _, hk, _ => by omega

theorem split_both (k : Nat) (hk : 1000000000 < k) (a b c : Int × Int) :
    (∃ v, v ≠ 0 ∧ (∀ (r0 : Int → Option α) r1, impl_SplitPoint k a.1 a.2 b.1 b.2 c.1 c.2 r0 r1 = r0 v) ∧ ∀ (r0 : Int → Option α) r1, spec_SplitPoint k a.1 a.2 b.1 b.2 c.1 c.2 r0 r1 = r0 v) ∨
    (∃ s, sailC a b = .inr s ∧ Crd c ∧ (∀ (r0 : Int → Option α) r1, impl_SplitPoint k a.1 a.2 b.1 b.2 c.1 c.2 r0 r1 = r1 (splitL s.1 c) 0) ∧ ∀ (r0 : Int → Option α) r1, spec_SplitPoint k a.1 a.2 b.1 b.2 c.1 c.2 r0 r1 = r1 (splitL s.1 c) 0) := by
  simp only [impl_SplitPoint, spec_SplitPoint, impl_isAngle_eq k hk, spec_isAngle_eq k hk, impl_IsPoint_eq, spec_l01Is_eq]
  cases h : angB (a.1, a.2) (b.1, b.2) with
  | false => exact .inl ⟨1, by decide, fun _ _ => by simp, fun _ _ => by simp⟩
  | true =>
    have hA : Ang a b := angB_iff.1 h
    cases hc : (crd c.1 && crd c.2) with
    | false => exact .inl ⟨1, by decide, fun _ _ => by simp, fun _ _ => by simp⟩
    | true =>
      have hC := crdP_iff.1 hc
      have d1 : w64 (w64 (a.1 * c.2) - w64 (a.2 * c.1)) = dt a c := dt_w hA.ca hC
      have d2 : w64 (w64 (c.1 * b.2) - w64 (c.2 * b.1)) = dt c b := dt_w hC hA.cb
      simp only [Bool.not_true, cond_false, impl_inAngle, impl_det, spec_l03Inside, spec_l01Det, d1, d2]
      by_cases h1 : 0 ≤ dt a c
      · by_cases h2 : 0 ≤ dt c b
        · cases h3 : (decide (c.1 = 0) && decide (c.2 = 0)) with
          | true => exact .inl ⟨4, by decide, fun _ _ => by simp [h1, h2], fun _ _ => by simp [h1, h2]⟩
          | false =>
            simp only [decide_eq_true h1, decide_eq_true h2, cond_true, Bool.not_true, cond_false]
            have hang : angB a b = true := h
            cases hs : sailC a b with
            | inl v =>
              refine .inl ⟨v, by rcases sailC_code hs with rfl | rfl <;> decide, fun r0 r1 => ?_, fun r0 r1 => ?_⟩
              · unfold sailC at hs
                rw [if_pos hang] at hs
                rw [impl_sailOf_eq k hk hA]
                cases hsa : sailA a b with
                | none => rw [hsa] at hs; cases hs; rfl
                | some t => rw [hsa] at hs; cases hs
              · rw [spec_code_eq k hk, hs]
                rcases sailC_code hs with rfl | rfl <;> rfl
            | inr s =>
              obtain ⟨_, hsl, hl, hg0⟩ := sailC_ok k hk hs
              have hn2 := hsl.n2
              have w2 : w64 (((s.1.length : Nat) : Int) - 2) = ((s.1.length - 2 : Nat) : Int) := by rw [w64_of (by omega) (by omega)]; omega
              have w1 : w64 (((s.1.length - 2 : Nat) : Int) + 1) = ((s.1.length - 1 : Nat) : Int) := by rw [w64_of (by omega) (by omega)]; omega
              refine .inr ⟨s, rfl, hC, fun r0 r1 => ?_, fun r0 r1 => ?_⟩
              · have hs' := hs
                unfold sailC at hs
                rw [if_pos hang] at hs
                rw [impl_sailOf_eq k hk hA]
                cases hsa : sailA a b with
                | none => rw [hsa] at hs; cases hs
                | some t =>
                  rw [hsa] at hs
                  cases hs
                  have hl' : (a :: t.1).length ≤ 2000 := hl
                  have hn' : 2 ≤ (a :: t.1).length := hn2
                  have hsl' : Sl a b (a :: t.1) t.2 := hsl
                  have hg' : (a :: t.1).getD 0 (0, 0) = a := rfl
                  simp only [decide_true, Bool.not_true, cond_false]
                  rw [w2, w1]
                  have := impl_split10 (α := α) hsl' (by omega) hC h2 (0 :: t.2 ++ [0]) (fun _ _ _ _ _ _ _ => r0 4) r0 r1 ((a :: t.1).length - 2) k 0 (by omega) (by omega) (by rw [hg']; exact h1)
                  simp only [Int.natCast_zero] at this
                  exact this
              · rw [spec_code_eq k hk, hs]
                simp only [decide_true, Bool.not_true, cond_false]
                have := spec_split9 (α := α) hsl (by omega) hC r0 r1 (s.1.length - 2) k 0 (by omega) (by omega)
                simp only [Int.natCast_zero] at this
                exact this
        · exact .inl ⟨4, by decide, fun _ _ => by simp [h1, h2], fun _ _ => by simp [h1, h2]⟩
      · exact .inl ⟨4, by decide, fun _ _ => by simp [h1], fun _ _ => by simp [h1]⟩

/-- Both parts give the point. -/
theorem split_sum {u v p : Int × Int} (h : dt u v = 1) : dt p v * u.1 + dt u p * v.1 = p.1 ∧ dt p v * u.2 + dt u p * v.2 = p.2 := by
  constructor
  · have : dt p v * u.1 + dt u p * v.1 = dt u v * p.1 := by unfold dt; grind
    rw [this, h, Int.one_mul]
  · have : dt p v * u.2 + dt u p * v.2 = dt u v * p.2 := by unfold dt; grind
    rw [this, h, Int.one_mul]

theorem points5_l4 : ∀ (rest : List (Int × Int)) (k i : Nat) (s : List (Int × Int)) b (r : Bool → Option α), s.drop i = rest → s.length ≤ big → i ≤ s.length → rest.length < k → laws_points5_l4 k i s s b r = b s.length s s
  | [], k + 1, i, s, b, r, hd, hb, hi, _ => by
    have := drop_nil hd
    have : i = s.length := by omega
    subst this
    rw [laws_points5_l4, dec_lt_f (by omega)]
    rfl
  | e :: rest, k + 1, i, s, b, r, hd, hb, hi, hk => by
    obtain ⟨h1, h2, h3⟩ := drop_cons hd
    rw [big_val] at hb
    have en : w64 ((i : Int) + 1) = ((i + 1 : Nat) : Int) := by rw [w64_of (by omega) (by omega)]; omega
    rw [laws_points5_l4, dec_lt_t (by omega), dec_le_t (by omega), cond_true, Bool.and_true, cond_true, Int.toNat_natCast, h1, Option.bind_some, cond_true, Option.bind_some, decide_eq_true rfl, decide_eq_true rfl, Bool.and_self, Bool.not_true, cond_false, en]
    exact points5_l4 rest k (i + 1) s b r h2 (by rw [big_val]; omega) (by omega) (by simp at hk; omega)
  | _, 0, _, _, _, _, _, _, _, hk => by omega

theorem points5_same (k : Nat) (s : List (Int × Int)) (r : Bool → Option α) (hs : s.length ≤ big) (hk : s.length < k) : laws_points5 k s s r = r true := by
  unfold laws_points5
  rw [decide_eq_true rfl, Bool.not_true, cond_false]
  have := points5_l4 s k 0 s (fun _ _ _ => r true) r rfl hs (by omega) hk
  simpa using this

theorem likeInts_l4 : ∀ (rest : List Int) (k i : Nat) (s : List Int) b (r : Bool → Option α), s.drop i = rest → s.length ≤ big → i ≤ s.length → rest.length < k → laws_likeInts_l4 k i s s b r = b s.length s s
  | [], k + 1, i, s, b, r, hd, hb, hi, _ => by
    have := drop_nil hd
    have : i = s.length := by omega
    subst this
    rw [laws_likeInts_l4, dec_lt_f (by omega)]
    rfl
  | e :: rest, k + 1, i, s, b, r, hd, hb, hi, hk => by
    obtain ⟨h1, h2, h3⟩ := drop_cons hd
    rw [big_val] at hb
    have en : w64 ((i : Int) + 1) = ((i + 1 : Nat) : Int) := by rw [w64_of (by omega) (by omega)]; omega
    rw [laws_likeInts_l4, dec_lt_t (by omega), dec_le_t (by omega), cond_true, Bool.and_true, cond_true, Int.toNat_natCast, h1, Option.bind_some, cond_true, Option.bind_some, decide_eq_true rfl, Bool.not_true, cond_false, en]
    exact likeInts_l4 rest k (i + 1) s b r h2 (by rw [big_val]; omega) (by omega) (by simp at hk; omega)
  | _, 0, _, _, _, _, _, _, _, hk => by omega

theorem likeInts_same (k : Nat) (s : List Int) (r : Bool → Option α) (hs : s.length ≤ big) (hk : s.length < k) : laws_likeInts k s s r = r true := by
  unfold laws_likeInts
  rw [decide_eq_true rfl, Bool.not_true, cond_false]
  have := likeInts_l4 s k 0 s (fun _ _ _ => r true) r rfl hs (by omega) hk
  simpa using this

theorem drawOf3_ok {l : List Int} (hl : IsCode l) {a : Int} (ha : AtC l a) (k : Nat) (hk : 1000000000 < k) (h : Int) {most : Int} (h0 : 0 ≤ most) (h1 : most ≤ 1000000) : ∃ x y u v a' h', AtC l a' ∧ ∀ r : Int → Int → Int → Int → Int → Int → Option α, spec_l03DrawOf k l a h most r = r x y u v a' h' := by
  obtain ⟨x, y, a1, h1', i1, e1⟩ := primitive_ok (α := α) hl ha k hk h h0 h1
  obtain ⟨u, v, a2, h2', i2, e2⟩ := primitive_ok (α := α) hl i1 k hk h1' h0 h1
  obtain ⟨w, a3, h3', i3, _, _, e3⟩ := next_ok (α := α) hl i2 k h2' most
  simp only [spec_l03DrawOf, e1, e2, spec_l01Det, e3]
  generalize w64 (w64 (x * v) - w64 (y * u)) = d
  by_cases d0 : d = 0
  · exact ⟨1, 0, 1, w64 (1 + w), a3, h3', i3, fun r => by simp [d0]⟩
  · by_cases d1 : d < 0
    · exact ⟨u, v, x, y, a2, h2', i2, fun r => by simp [d0, d1]⟩
    · exact ⟨x, y, u, v, a2, h2', i2, fun r => by simp [d0, d1]⟩

theorem draw3_ok {l : List Int} (hl : IsCode l) {a : Int} (ha : AtC l a) (k : Nat) (hk : 1000000000 < k) (h : Int) : ∃ x y u v a' h', AtC l a' ∧ ∀ r : Int → Int → Int → Int → Int → Int → Option α, spec_l03Draw k l a h r = r x y u v a' h' := by
  obtain ⟨m, a1, h1, i1, m1, e1⟩ := pick_ok (α := α) hl ha k h (list := [3, 6, 12, 12, 100, 1000, 1000000]) (by simp) (by simp)
  have hm : 0 ≤ m ∧ m ≤ 1000000 := by
    simp only [List.mem_cons, List.not_mem_nil, or_false] at m1
    omega
  obtain ⟨x, y, u, v, a2, h2, i2, e2⟩ := drawOf3_ok (α := α) hl i1 k hk h1 hm.1 hm.2
  obtain ⟨w, a3, h3, i3, _, _, e3⟩ := next_ok (α := α) hl i2 k h2 30
  simp only [spec_l03Draw, e1, e2, e3]
  by_cases w0 : w = 0
  · exact ⟨u, v, x, y, a3, h3, i3, fun r => by simp [w0]⟩
  · by_cases w1 : w = 1
    · obtain ⟨p, q, a4, h4, i4, e4⟩ := bad_ok (α := α) hl i3 k h3 (w64 (x + w64 (1 * x))) (w64 (y + w64 (1 * y)))
      exact ⟨p, q, u, v, a4, h4, i4, fun r => by simp only [w1, show decide ((1 : Int) = 0) = false from rfl, decide_true, cond_true, cond_false, spec_l01Plus, e4]⟩
    · obtain ⟨p, q, a4, h4, i4, e4⟩ := bad_ok (α := α) hl i3 k h3 x y
      exact ⟨p, q, u, v, a4, h4, i4, fun r => by simp [w0, w1, e4]⟩

theorem dSailPoints_ok {l : List Int} (hl : IsCode l) (k : Nat) (hk : 1000000000 < k) : ∃ x y u v, ∀ r : Int → Int → Int → Int → Option α, spec_DrawSailPoints k l r = r x y u v := by
  obtain ⟨h, i, e⟩ := from_ok (α := α) hl k (by omega)
  obtain ⟨x, y, u, v, a1, h1, i1, e1⟩ := draw3_ok (α := α) hl i k hk h
  exact ⟨x, y, u, v, fun r => by simp only [spec_DrawSailPoints, e, e1]⟩

theorem dSailVertices_ok {l : List Int} (hl : IsCode l) (k : Nat) (hk : 1000000000 < k) : ∃ x y u v, ∀ r : Int → Int → Int → Int → Option α, spec_DrawSailVertices k l r = r x y u v := by
  obtain ⟨h, i, e⟩ := from_ok (α := α) hl k (by omega)
  obtain ⟨x, y, u, v, a1, h1, i1, e1⟩ := draw3_ok (α := α) hl i k hk h
  exact ⟨x, y, u, v, fun r => by simp only [spec_DrawSailVertices, e, e1]⟩

theorem dAdjacent_ok {l : List Int} (hl : IsCode l) (k : Nat) (hk : 1000000000 < k) : ∃ x y u v, ∀ r : Int → Int → Int → Int → Option α, spec_DrawAdjacentAngle k l r = r x y u v := by
  obtain ⟨h, i, e⟩ := from_ok (α := α) hl k (by omega)
  obtain ⟨x, y, u, v, a1, h1, i1, e1⟩ := draw3_ok (α := α) hl i k hk h
  exact ⟨x, y, u, v, fun r => by simp only [spec_DrawAdjacentAngle, e, e1]⟩

theorem with3_ok {l : List Int} (hl : IsCode l) (k : Nat) (hk : 1000000000 < k) : ∃ a b c d p q, ∀ r : Int → Int → Int → Int → Int → Int → Option α, spec_l03With k l r = r a b c d p q := by
  obtain ⟨h, i, e⟩ := from_ok (α := α) hl k (by omega)
  obtain ⟨x, y, u, v, a1, h1, i1, e1⟩ := draw3_ok (α := α) hl i k hk h
  obtain ⟨m, a2, h2, i2, m2, e2⟩ := pick_ok (α := α) hl i1 k h1 (list := [2, 6, 20]) (by simp) (by simp)
  have hm : 0 ≤ m ∧ m ≤ 1000000 := by
    simp only [List.mem_cons, List.not_mem_nil, or_false] at m2
    omega
  obtain ⟨p, q, a3, h3, i3, _, _, e3⟩ := point_ok (α := α) hl i2 k h2 (most := m) hm.1 (by omega)
  obtain ⟨w, a4, h4, i4, _, _, e4⟩ := next_ok (α := α) hl i3 k h3 4
  simp only [spec_l03With, e, e1, e2, e3, e4]
  by_cases w0 : w = 0
  · obtain ⟨n, a5, h5, i5, _, _, e5⟩ := next_ok (α := α) hl i4 k h4 4
    obtain ⟨n', a6, h6, i6, _, _, e6⟩ := next_ok (α := α) hl i5 k h5 4
    obtain ⟨s, t, a7, h7, i7, e7⟩ := bad_ok (α := α) hl i6 k h6 (w64 (w64 (0 + w64 (n * x)) + w64 (n' * u))) (w64 (w64 (0 + w64 (n * y)) + w64 (n' * v)))
    exact ⟨x, y, u, v, s, t, fun r => by simp only [w0, decide_true, cond_true, e5, spec_l01Plus, e6, e7]⟩
  · by_cases w1 : w = 1
    · simp only [w1, show decide ((1 : Int) = 0) = false from rfl, decide_true, cond_true, cond_false]
      obtain ⟨s0, t0, a7, h7, i7, e7⟩ := bad_ok (α := α) hl i4 k h4 p q
      have hc := fun r0 r1 => spec_code_eq (α := α) k hk (x, y) (u, v) r0 r1
      simp only at hc
      simp only [hc]
      cases hs : sailC (x, y) (u, v) with
      | inl c =>
        have hne : c ≠ 0 := by rcases sailC_code hs with rfl | rfl <;> decide
        exact ⟨x, y, u, v, s0, t0, fun r => by simp [hne, e7]⟩
      | inr s =>
        obtain ⟨_, hsl, hlen, _⟩ := sailC_ok k hk hs
        have hn2 := hsl.n2
        obtain ⟨n, a5, h5, i5, n0, n1, e5⟩ := next_ok (α := α) hl i4 k h4 ((s.1.length : Nat) : Int)
        have hn : n < s.1.length := by omega
        obtain ⟨n', a6, h6, i6, _, _, e6⟩ := next_ok (α := α) hl i5 k h5 2
        have hg : s.1[n.toNat]? = some (s.1.getD n.toNat (0, 0)) := getD_some (by omega)
        simp only [decide_true, cond_true, e5, decide_eq_true n0, decide_eq_true hn, Bool.and_self, hg, Option.bind_some, e6]
        by_cases z : n' = 0
        · have hw : w64 (n + 1) = n + 1 := w64_of (by omega) (by omega)
          have hw2 : w64 (((s.1.length : Nat) : Int) - 1) = (s.1.length : Int) - 1 := w64_of (by omega) (by omega)
          have hg2 : s.1[(min (n + 1) ((s.1.length : Int) - 1)).toNat]? = some (s.1.getD (min (n + 1) ((s.1.length : Int) - 1)).toNat (0, 0)) := getD_some (by omega)
          obtain ⟨m1, a8, h8, i8, _, _, e8⟩ := next_ok (α := α) hl i6 k h6 3
          obtain ⟨m2, a9, h9, i9, _, _, e9⟩ := next_ok (α := α) hl i8 k h8 3
          simp only [z, decide_true, cond_true, hw, hw2, dec_le_t (show 0 ≤ min (n + 1) ((s.1.length : Int) - 1) by omega), dec_lt_t (show min (n + 1) ((s.1.length : Int) - 1) < (s.1.length : Int) by omega), Bool.and_self, hg2, Option.bind_some, e8, spec_l01Plus, e9]
          obtain ⟨s1, t1, a10, h10, i10, e10⟩ := bad_ok (α := α) hl i9 k h9 (w64 (w64 (0 + w64 (w64 (1 + m1) * (s.1.getD n.toNat (0, 0)).1)) + w64 (m2 * (s.1.getD (min (n + 1) ((s.1.length : Int) - 1)).toNat (0, 0)).1))) (w64 (w64 (0 + w64 (w64 (1 + m1) * (s.1.getD n.toNat (0, 0)).2)) + w64 (m2 * (s.1.getD (min (n + 1) ((s.1.length : Int) - 1)).toNat (0, 0)).2)))
          exact ⟨x, y, u, v, s1, t1, fun r => by rw [e10]⟩
        · simp only [decide_eq_false z, cond_false]
          obtain ⟨s1, t1, a10, h10, i10, e10⟩ := bad_ok (α := α) hl i6 k h6 (s.1.getD n.toNat (0, 0)).1 (s.1.getD n.toNat (0, 0)).2
          exact ⟨x, y, u, v, s1, t1, fun r => by rw [e10]⟩
    · obtain ⟨s0, t0, a7, h7, i7, e7⟩ := bad_ok (α := α) hl i4 k h4 p q
      exact ⟨x, y, u, v, s0, t0, fun r => by simp [w0, w1, e7]⟩

theorem place_spec {L : List (Int × Int)} (hL : L.length ≤ 4000) (c : Int × Int) (r0 : Int → Int → Option α) : ∀ (rest : List (Int × Int)) (k i : Nat), L.drop i = rest → i ≤ L.length → rest.length < k →
    spec_PlaceOnSail_l7 k i c.1 c.2 L (fun _ _ _ _ => r0 0 4) r0 = match rest.findIdx? (fun e => decide (c.1 = e.1) && decide (c.2 = e.2)) with
      | some j => r0 ((i + j : Nat) : Int) 0
      | none => r0 0 4
  | [], k + 1, i, hd, hi, _ => by
    have := drop_nil hd
    rw [spec_PlaceOnSail_l7, dec_lt_f (by omega)]
    rfl
  | e :: rest, k + 1, i, hd, hi, hk => by
    obtain ⟨h1, h2, h3⟩ := drop_cons hd
    have en : w64 ((i : Int) + 1) = ((i + 1 : Nat) : Int) := by rw [w64_of (by omega) (by omega)]; omega
    have es : (decide (e.1 = c.1) && decide (e.2 = c.2)) = (decide (c.1 = e.1) && decide (c.2 = e.2)) := by simp only [eq_comm]
    rw [spec_PlaceOnSail_l7, dec_lt_t (by omega), dec_le_t (by omega), cond_true, Bool.and_true, cond_true, Int.toNat_natCast, h1, Option.bind_some, es, List.findIdx?_cons, en]
    cases hp : (decide (c.1 = e.1) && decide (c.2 = e.2)) with
    | true => simp
    | false =>
      rw [cond_false, place_spec hL c r0 rest k (i + 1) h2 (by omega) (by simp at hk; omega)]
      cases rest.findIdx? (fun e => decide (c.1 = e.1) && decide (c.2 = e.2)) with
      | none => rfl
      | some j => simp [Nat.add_assoc, Nat.add_comm 1 j]
  | _, 0, _, _, _, hk => by omega

theorem index_point {l : List (Int × Int)} (hl : l.length ≤ big) (k : Nat) (hk : l.length < k) (x y : Int) (r : Int → Option α) :
    slices_Index_impl_Point_impl_Point k l x y r = match l.findIdx? (fun e => decide (x = e.1) && decide (y = e.2)) with
      | some j => r ((j : Nat) : Int)
      | none => r (-1) := by
  unfold slices_Index_impl_Point_impl_Point
  have := find_loop (α := α) (p := fun e : Int × Int => decide (x = e.1) && decide (y = e.2)) (L := fun k X i s b r => slices_Index_impl_Point_impl_Point_l2 k X i s x y (fun X i s _ _ => b X i s) r) (fun k X i s b r => by
    rw [slices_Index_impl_Point_impl_Point_l2]) l k 0 l (fun _ _ _ => r (-1)) r rfl hl (by omega) hk
  simp only [Int.natCast_zero, Nat.zero_add] at this
  exact this

theorem place_both (k : Nat) (hk : 1000000000 < k) (a b c : Int × Int) : ∃ v z, (∀ r : Int → Int → Option α, impl_PlaceOnSail k a.1 a.2 b.1 b.2 c.1 c.2 r = r v z) ∧ ∀ r : Int → Int → Option α, spec_PlaceOnSail k a.1 a.2 b.1 b.2 c.1 c.2 r = r v z := by
  simp only [impl_PlaceOnSail, spec_PlaceOnSail, impl_isAngle_eq k hk, impl_IsPoint_eq, spec_l01Is_eq]
  cases h : angB a b with
  | false =>
    have hs : sailC a b = .inl 1 := by unfold sailC; rw [h]; rfl
    refine ⟨0, 1, fun r => rfl, fun r => ?_⟩
    cases hc : (crd c.1 && crd c.2) with
    | false => rfl
    | true =>
      rw [Bool.not_true, cond_false, spec_code_eq k hk, hs]
      rfl
  | true =>
    cases hc : (crd c.1 && crd c.2) with
    | false => exact ⟨0, 1, fun r => rfl, fun r => by rfl⟩
    | true =>
      have hA := angB_iff.1 h
      have hs : sailC a b = match sailA a b with
        | none => .inl 3
        | some s => .inr (a :: s.1, s.2) := by
        unfold sailC
        rw [if_pos h]
        all_goals (cases sailA a b <;> rfl)
      cases hsa : sailA a b with
      | none =>
        rw [hsa] at hs
        refine ⟨0, 3, fun r => ?_, fun r => ?_⟩
        · rw [Bool.not_true, cond_false, cond_false, impl_sailOf_eq k hk hA, hsa]; rfl
        · rw [Bool.not_true, cond_false, spec_code_eq k hk, hs]; rfl
      | some t =>
        rw [hsa] at hs
        obtain ⟨_, _, hl, _⟩ := sailC_ok k hk hs
        have hl' : (a :: t.1).length ≤ 2000 := hl
        have h1 := fun r : Int → Option α => index_point (l := a :: t.1) (by rw [big_val]; omega) k (by omega) c.1 c.2 r
        have h2 := fun r : Int → Int → Option α => place_spec (L := a :: t.1) (by omega) c r (a :: t.1) k 0 rfl (by omega) (by omega)
        simp only [Int.natCast_zero, Nat.zero_add] at h2
        cases hf : (a :: t.1).findIdx? (fun e => decide (c.1 = e.1) && decide (c.2 = e.2)) with
        | none =>
          rw [hf] at h1 h2
          refine ⟨0, 4, fun r => ?_, fun r => ?_⟩
          · rw [Bool.not_true, cond_false, cond_false, impl_sailOf_eq k hk hA, hsa]
            simp only [decide_true, Bool.not_true, cond_false, h1]
            rfl
          · rw [Bool.not_true, cond_false, spec_code_eq k hk, hs]
            simp only [decide_true, Bool.not_true, cond_false, h2]
        | some j =>
          rw [hf] at h1 h2
          refine ⟨j, 0, fun r => ?_, fun r => ?_⟩
          · rw [Bool.not_true, cond_false, cond_false, impl_sailOf_eq k hk hA, hsa]
            simp only [decide_true, Bool.not_true, cond_false, h1]
            rw [dec_lt_f (by omega)]
            rfl
          · rw [Bool.not_true, cond_false, spec_code_eq k hk, hs]
            simp only [decide_true, Bool.not_true, cond_false, h2]

theorem adj_ang {a b : Int × Int} (h : Ang a b) : Ang b (-a.1, -a.2) := by
  have ca := h.ca
  refine ⟨h.cb, ⟨by have := ca.1; simp only; omega, by have := ca.2; simp only; omega⟩, h.gb, ?_, ?_⟩
  · have := h.ga
    unfold gcdI at this ⊢
    simp only [Int.neg_gcd, Int.gcd_neg]
    exact this
  · have e : dt b (-a.1, -a.2) = dt a b := by unfold dt; grind
    rw [e]
    exact h.det

theorem adj_both (k : Nat) (hk : 1000000000 < k) (a b : Int × Int) :
    (angB a b = false ∧ (∀ (r0 : Int → Option α) r1, impl_AdjacentAngle k a.1 a.2 b.1 b.2 r0 r1 = r0 1) ∧ ∀ (r0 : Int → Option α) r1, spec_AdjacentAngle k a.1 a.2 b.1 b.2 r0 r1 = r0 1) ∨
    (Ang a b ∧ (∀ (r0 : Int → Option α) r1, impl_AdjacentAngle k a.1 a.2 b.1 b.2 r0 r1 = r1 [b, (-a.1, -a.2)] 0) ∧ ∀ (r0 : Int → Option α) r1, spec_AdjacentAngle k a.1 a.2 b.1 b.2 r0 r1 = r1 [b, (-a.1, -a.2)] 0) := by
  simp only [impl_AdjacentAngle, spec_AdjacentAngle, impl_isAngle_eq k hk, spec_isAngle_eq k hk]
  cases h : angB a b with
  | false =>
    exact .inl ⟨rfl, fun _ _ => rfl, fun _ _ => rfl⟩
  | true =>
    have hA := angB_iff.1 h
    have ca := hA.ca
    have e1 : w64 (0 - a.1) = -a.1 := by rw [w64_of (by have := ca.1; omega) (by have := ca.1; omega)]; omega
    have e2 : w64 (0 - a.2) = -a.2 := by rw [w64_of (by have := ca.2; omega) (by have := ca.2; omega)]; omega
    refine .inr ⟨hA, fun _ _ => ?_, fun _ _ => ?_⟩
    · rw [Bool.not_true, cond_false, impl_less_eq k 0 0 a.1 a.2 _ (by omega) (by omega) (by have := ca.1; omega) (by have := ca.2; omega), Int.zero_sub, Int.zero_sub]
    · rw [Bool.not_true, cond_false, e1, e2]

theorem fs25 {l : List Int} (hl : IsCode l) (k : Nat) (hk : 1000000100 < k) (r : Bool → Option α) : laws_FnSails_B25 k l r = r true := by
  obtain ⟨a, b, c, d, p, q, e1⟩ := with3_ok (α := α) hl k (by omega)
  obtain ⟨v, z, e2, e3, _⟩ := isIn_both (α := α) k (by omega) (a, b) (c, d) (p, q)
  obtain ⟨x, y, u, w, e4⟩ := dSailVertices_ok (α := α) hl k (by omega)
  obtain ⟨e5, e6⟩ := sailVert_both (α := α) k (by omega) (x, y) (u, w)
  simp only at e2 e3 e5 e6
  simp only [laws_FnSails_B25, laws_FnSails_b25, spec_DrawIsInAngle, e1, e2, e3, e4, e5, laws_FnSails_B26, laws_FnSails_b26, e6]
  cases hs : sailC (x, y) (u, w) with
  | inl c0 => simp [laws_FnSails_B27, laws_FnSails_b27, points5_same k [] _ (by simp) (by simp; omega)]
  | inr s =>
    obtain ⟨_, hsl, hlen, _⟩ := sailC_ok k (by omega) hs
    have hv : (ptsAt s.1 (vIdx s.2)).length ≤ 2000 := by
      have := idxF_len (s.2.length + 2) 0 (tI s.2)
      rw [tI_len] at this
      have := hsl.nc
      unfold ptsAt vIdx
      rw [List.length_map]
      omega
    simp [laws_FnSails_B27, laws_FnSails_b27, points5_same k (ptsAt s.1 (vIdx s.2)) _ (by rw [big_val]; omega) (by omega)]

theorem fs21 {l : List Int} (hl : IsCode l) (k : Nat) (hk : 1000000100 < k) (r : Bool → Option α) : laws_FnSails_B21 k l r = r true := by
  obtain ⟨x, y, u, w, e4⟩ := dAdjacent_ok (α := α) hl k (by omega)
  simp only [laws_FnSails_B21, laws_FnSails_b21, e4, laws_FnSails_B22, laws_FnSails_b22]
  rcases adj_both (α := α) k (by omega) (x, y) (u, w) with ⟨_, e1, e2⟩ | ⟨hA, e1, e2⟩
  · simp only at e1 e2
    simp [e1, e2, laws_FnSails_B23, laws_FnSails_b23, points5_same k [] _ (by simp) (by simp; omega), fs25 hl k hk]
  · simp only at e1 e2
    have h1 := fun r : Bool → Option α => impl_isAngle_eq k (show 1000000000 < k by omega) u w (-x) (-y) r
    have h2 : angB (u, w) (-x, -y) = true := angB_iff.2 (adj_ang hA)
    simp [e1, e2, laws_FnSails_B23, laws_FnSails_b23, points5_same k [(u, w), (-x, -y)] _ (by rw [big_val]; simp) (by simp; omega), h1, h2, fs25 hl k hk]

theorem fs19 {l : List Int} (hl : IsCode l) (k : Nat) (hk : 1000000100 < k) (r : Bool → Option α) : laws_FnSails_B19 k l r = r true := by
  obtain ⟨a, b, c, d, p, q, e1⟩ := with3_ok (α := α) hl k (by omega)
  obtain ⟨v, z, e2, e3⟩ := place_both (α := α) k (by omega) (a, b) (c, d) (p, q)
  simp only at e2 e3
  simp [laws_FnSails_B19, laws_FnSails_b19, spec_DrawPlaceOnSail, e1, e2, e3, fs21 hl k hk]

theorem fs9 {l : List Int} (hl : IsCode l) (k : Nat) (hk : 1000000100 < k) (r : Bool → Option α) : laws_FnSails_B9 k l r = r true := by
  obtain ⟨a, b, c, d, p, q, e1⟩ := with3_ok (α := α) hl k (by omega)
  simp only [laws_FnSails_B9, laws_FnSails_b9, spec_DrawSplitPoint, e1, laws_FnSails_B10, laws_FnSails_b10]
  rcases split_both (α := α) k (by omega) (a, b) (c, d) (p, q) with ⟨v, hv, e2, e3⟩ | ⟨s, hs, hC, e2, e3⟩
  · simp only at e2 e3
    simp [e2, e3, laws_FnSails_B11, laws_FnSails_b11, likeInts_same k [] _ (by simp) (by simp; omega), laws_FnSails_B13, laws_FnSails_b13, hv, fs19 hl k hk]
  · simp only at e2 e3
    obtain ⟨e5, _⟩ := sailPoints_both (α := α) k (by omega) (a, b) (c, d)
    simp only [hs] at e5
    obtain ⟨hA, hsl, hlen, hg0⟩ := sailC_ok k (by omega) hs
    have hn2 := hsl.n2
    have hi := spI_b s.1 (p, q) (s.1.length - 2) 0
    generalize hI : spI s.1 (p, q) (s.1.length - 2) 0 = i at hi
    have hsp : splitL s.1 (p, q) = [((i : Nat) : Int), dt (p, q) (s.1.getD (i + 1) (0, 0)), dt (s.1.getD i (0, 0)) (p, q)] := by unfold splitL; rw [hI]
    have c0 := (hsl.crd i (by omega)).1
    have c1 := (hsl.crd (i + 1) (by omega)).1
    have hd := hsl.det i (by omega)
    have b0 := dt_b hC c1
    have b1 := dt_b c0 hC
    obtain ⟨s1, s2⟩ := split_sum (p := (p, q)) hd
    have w1 : w64 (((i : Nat) : Int) + 1) = ((i + 1 : Nat) : Int) := by rw [w64_of (by omega) (by omega)]; omega
    have wl : ∀ {x y u v : Int}, (-2000000000000 ≤ x ∧ x ≤ 2000000000000) → (-2000000000000 ≤ y ∧ y ≤ 2000000000000) → (-1000000 ≤ u ∧ u ≤ 1000000) → (-1000000 ≤ v ∧ v ≤ 1000000) → w64 (w64 (x * u) + w64 (y * v)) = x * u + y * v := by
      intro x y u v hx hy hu hv
      have m1 := mul_bound hx.1 hx.2 hu.1 hu.2
      have m2 := mul_bound hy.1 hy.2 hv.1 hv.2
      rw [w64_of (n := x * u) (by omega) (by omega), w64_of (n := y * v) (by omega) (by omega), w64_of (by omega) (by omega)]
    have w2 := wl b0 b1 c0.1 c1.1
    have w3 := wl b0 b1 c0.2 c1.2
    rw [s1] at w2
    rw [s2] at w3
    rw [e2]
    simp only [e3, laws_FnSails_B11, laws_FnSails_b11, decide_true, Bool.not_true, cond_false, likeInts_same k (splitL s.1 (p, q)) _ (by rw [big_val]; simp [splitL]) (by simp [splitL]; omega), laws_FnSails_B13, laws_FnSails_b13, cond_true, e5, laws_FnSails_B14, laws_FnSails_b14]
    rw [hsp]
    have l3 : ([((i : Nat) : Int), dt (p, q) (s.1.getD (i + 1) (0, 0)), dt (s.1.getD i (0, 0)) (p, q)] : List Int).length = 3 := rfl
    simp only [l3, List.getElem?_cons_zero, Option.bind_some, laws_FnSails_B16, laws_FnSails_b16]
    rw [show decide (((3 : Nat) : Int) = 3) = true from rfl, show decide ((0 : Int) < ((3 : Nat) : Int)) = true from rfl, dec_lt_f (show (0 : Int) ≤ ((i : Nat) : Int) by omega), w1, dec_le_f (show (((i + 1 : Nat)) : Int) < ((s.1.length : Nat) : Int) by omega), dec_le_t (show (0 : Int) ≤ ((i : Nat) : Int) by omega), dec_lt_t (show ((i : Nat) : Int) < ((s.1.length : Nat) : Int) by omega), dec_le_t (show (0 : Int) ≤ ((i + 1 : Nat) : Int) by omega), dec_lt_t (show ((i + 1 : Nat) : Int) < ((s.1.length : Nat) : Int) by omega)]
    simp only [Bool.and_self, Bool.not_true, cond_true, cond_false, Int.toNat_natCast, getD_some (show i < s.1.length by omega), getD_some (show i + 1 < s.1.length by omega), Option.bind_some, laws_FnSails_B17, laws_FnSails_b17, l3, List.getElem?_cons_succ, List.getElem?_cons_zero, w2, w3]
    rw [show decide ((1 : Int) < ((3 : Nat) : Int)) = true from rfl, show decide ((2 : Int) < ((3 : Nat) : Int)) = true from rfl]
    simp [fs19 hl k hk]

theorem fs0 {l : List Int} (hl : IsCode l) (k : Nat) (hk : 1000000000 + 5000 < k) (r : Bool → Option α) (hbig : decide (4096 < (((List.length l) : Nat) : Int)) = false) : laws_FnSails_B0 k l r = r true := by
  obtain ⟨x, y, u, v, e0⟩ := dSailPoints_ok (α := α) hl k (by omega)
  obtain ⟨e1, e2⟩ := sailPoints_both (α := α) k (by omega) (x, y) (u, v)
  simp only at e1 e2
  have a1 := fun r : Bool → Option α => impl_isAngle_eq k (show 1000000000 < k by omega) x y u v r
  have a2 := fun r : Bool → Option α => spec_isAngle_eq k (show 1000000000 < k by omega) x y u v r
  simp only [laws_FnSails_B0, laws_FnSails_b0, laws_big_eq, hbig, cond_false, e0, e1, laws_FnSails_B1, laws_FnSails_b1, e2]
  cases hs : sailC (x, y) (u, v) with
  | inl c =>
    have hc : c ≠ 0 := by rcases sailC_code hs with rfl | rfl <;> decide
    simp [laws_FnSails_B2, laws_FnSails_b2, points5_same k [] _ (by simp) (by simp; omega), a1, spec_IsAngle, a2, laws_FnSails_B4, laws_FnSails_b4, hc, fs9 hl k (by omega)]
  | inr s =>
    obtain ⟨hA, hsl, hlen, hg0⟩ := sailC_ok k (by omega) hs
    have hn2 := hsl.n2
    have hnc := hsl.nc
    have hlast := hsl.last
    obtain ⟨e3, _⟩ := sailVert_both (α := α) k (by omega) (x, y) (u, v)
    have e4 := fun r0 r1 => lengths_eq (α := α) k (by omega) (x, y) (u, v) r0 r1
    have e5 := fun r0 r1 => impl_angleSail_eq (α := α) k (by omega) (x, y) (u, v) r0 r1
    simp only [hs] at e3 e4 e5
    have w1 : w64 (((s.1.length : Nat) : Int) - 1) = ((s.1.length - 1 : Nat) : Int) := by rw [w64_of (by omega) (by omega)]; omega
    obtain ⟨m, hm, hmx⟩ := vIdx_form s.2
    have hvl := idxF_len (s.2.length + 2) 0 (tI s.2)
    rw [tI_len] at hvl
    have hvl : (vIdx s.2).length ≤ 2000 := by unfold vIdx; omega
    have hvm : ∀ i ∈ vIdx s.2, i < s.1.length := fun i hi => by
      have := idxF_mem (s.2.length + 2) 0 (tI s.2) i hi
      rw [tI_len] at this
      omega
    have hdl := diffs_len (vIdx s.2)
    have hpl : (ptsAt s.1 (vIdx s.2)).length = (vIdx s.2).length := by simp [ptsAt]
    have hv1 : 2 ≤ (vIdx s.2).length := by rw [hm]; simp
    have hdx : ∀ z ∈ diffs (vIdx s.2), 0 ≤ z ∧ z ≤ 4000 := by
      have key : ∀ V : List Nat, (∀ i ∈ V, i < s.1.length) → Ch (gapOK s.1) V → ∀ z ∈ diffs V, 0 ≤ z ∧ z ≤ 4000 := by
        intro V
        induction V with
        | nil => intro _ _ z hz; simp [diffs] at hz
        | cons i V ih =>
          intro hV hc z hz
          cases V with
          | nil => simp [diffs] at hz
          | cons j V =>
            simp only [diffs, List.mem_cons] at hz
            rcases hz with rfl | hz
            · have h1 := hV i (by simp)
              have h2 := hV j (by simp)
              have h3 := hc.1
              unfold gapOK gcdI at h3
              omega
            · exact ih (fun i hi => hV i (by simp [hi])) hc.2 z (by simpa [diffs] using hz)
      exact key _ hvm (gaps_ok hsl)
    have hsum : (diffs (vIdx s.2)).sum = ((s.1.length - 1 : Nat) : Int) := by
      have e : ∀ h, (0 :: (m ++ [s.2.length + 1])).getLast h = s.2.length + 1 := fun h => by
        rw [List.getLast_cons (by simp)]
        simp
      rw [hm, diffs_sum, e]
      omega
    have f1 := fun B r => sum_l3 (α := α) (l := diffs (vIdx s.2)) (by omega) (diffs (vIdx s.2)) k 0 0 B r rfl (by omega) hdx (by omega) (by omega) (by omega)
    simp only [Int.natCast_zero, Int.zero_add, hsum] at f1
    have g0 : s.1[0]? = some (x, y) := by rw [getD_some (by omega), hg0]
    have g1 : s.1[s.1.length - 1]? = some (u, v) := by rw [getD_some (by omega), hlast]
    have f2 := fun B => loop15 (α := α) hA hsl (by omega) l (ptsAt s.1 (vIdx s.2)) (diffs (vIdx s.2)) B r (s.1.length - 1) k 1 (by omega) (by omega) (by omega)
    have hml : (vIdx s.2).length = (m ++ [s.2.length + 1]).length + 1 := by rw [hm]; rfl
    have f3 := fun B => len22 (α := α) hsl (by omega) hvm (gaps_ok hsl) l (m ++ [s.2.length + 1]) 0 k 0 B r (by rw [hm]; rfl) (by omega)
    simp only [Int.natCast_one, Int.natCast_zero] at f2 f3
    have w2 : w64 ((((vIdx s.2).length - 1 : Nat) : Int) + 1) = ((vIdx s.2).length : Int) := by rw [w64_of (by omega) (by omega)]; omega
    simp only [laws_FnSails_B2, laws_FnSails_b2, decide_true, Bool.not_true, cond_false, points5_same k s.1 _ (by rw [big_val]; omega) (by omega), a1, spec_IsAngle, a2, beq_self_eq_true, laws_FnSails_B4, laws_FnSails_b4, cond_true, impl_AreaBelow, e5, e3, laws_FnSails_B5, laws_FnSails_b5, e4, laws_FnSails_B6, laws_FnSails_b6, laws_sum, w1, g0, Option.bind_some]
    rw [dec_lt_f (show (2 : Int) ≤ ((s.1.length : Nat) : Int) by omega), dec_lt_t (show (0 : Int) < ((s.1.length : Nat) : Int) by omega), dec_le_t (show (0 : Int) ≤ ((s.1.length - 1 : Nat) : Int) by omega), dec_lt_t (show ((s.1.length - 1 : Nat) : Int) < ((s.1.length : Nat) : Int) by omega)]
    simp only [Bool.and_self, Bool.not_true, cond_true, cond_false, Int.toNat_natCast, g1, Option.bind_some, decide_true, f1, hdl, hpl, w2, laws_FnSails_B8, laws_FnSails_b8]
    rw [f2 fun v4 l3 c8 => laws_FnSails_l22 k 0 c8 v4 l3 (fun _ code10 _ _ => laws_FnSails_B9 k code10 r) r, f3]
    exact fs9 hl k (by omega) r

theorem law_FnSails (k : Nat) (hk : 1000005000 < k) (l : List Int) (r : Bool → Option α) (hb : ∀ x ∈ l, 0 ≤ x ∧ x ≤ 255) : laws_FnSails k l r = r true := by
  unfold laws_FnSails
  cases hbig : decide (4096 < (((List.length l) : Nat) : Int)) with
  | true => simp only [laws_FnSails_B0, laws_FnSails_b0, laws_big_eq, hbig, cond_true]
  | false => exact fs0 ⟨by have := of_decide_eq_false hbig; omega, hb⟩ k (by omega) r hbig

end Go.Sh
