/- Plain laws: what the readings without memory answer. -/
import Derived.Test.YtjekmhinmcniaaaShXAreEqualTriangles
namespace Go.Sh
open Go Go.Ev

variable {α : Type}

theorem spec_l01In_eq (k : Nat) (n low high : Int) (r : Bool → Option α) : spec_l01In k n low high r = r (inB n low high) := by
  unfold spec_l01In inB
  cases decide (low ≤ n) <;> rfl

theorem impl_in_eq (k : Nat) (n low high : Int) (r : Bool → Option α) : impl_in k n low high r = r (inB n low high) := by
  unfold impl_in inB
  cases decide (low ≤ n) <;> rfl

theorem spec_l01Rest_eq (k : Nat) (n x : Int) (r : Int → Option α) (hn : 0 < n) (hn2 : n ≤ 1000000000000000000) : spec_l01Rest k n x r = r (x % n) := by
  have h1 : -n < Int.tmod x n := Int.lt_tmod_of_pos x hn
  have h2 : Int.tmod x n < n := Int.tmod_lt_of_pos x hn
  simp only [spec_l01Rest, dec_eq_f (show n ≠ 0 by omega), cond_false]
  rw [w64_of (by omega) (by omega), rest_eq hn]

theorem impl_floor_eq (k : Nat) (a b : Int) (r : Int → Option α) (hb : 0 < b) (ha : -1000000000000000000 ≤ a) (ha2 : a ≤ 1000000000000000000) : impl_floor k a b r = r (a / b) := by
  have hq := tdiv_abs a b
  simp only [impl_floor, dec_eq_f (show b ≠ 0 by omega), cond_false, w64_of (n := Int.tdiv a b) (by omega) (by omega), w64_of (n := Int.tdiv a b - 1) (by omega) (by omega)]
  rw [← tdiv_floor a b hb]
  cases (!decide (Int.tmod a b = 0)) <;> cases (!(decide (a < 0) == decide (b < 0))) <;> rfl

theorem impl_mod_eq (k : Nat) (a b : Int) (r : Int → Option α) (hb : 0 < b) (hb2 : b ≤ 1000000000000000000) (ha : -1000000000000000000 ≤ a) (ha2 : a ≤ 1000000000000000000) : impl_mod k a b r = r (a % b) := by
  simp only [impl_mod, impl_floor_eq k a b _ hb ha ha2]
  have h1 := Int.emod_add_mul_ediv a b
  have h2 := Int.emod_nonneg a (b := b) (by omega)
  have h3 := Int.emod_lt_of_pos a hb
  rw [w64_of (n := b * (a / b)) (by omega) (by omega), w64_of (by omega) (by omega)]
  congr 1
  omega

theorem impl_size_eq (k : Nat) (n : Int) (r : Int → Option α) (h0 : -1000000000000000000 ≤ n) (h1 : n ≤ 1000000000000000000) : impl_size k n r = r (max n (-n)) := by
  simp only [impl_size]
  rw [w64_of (by omega) (by omega), Int.zero_sub]

def gcdI (a b : Int) : Int := (Int.gcd a b : Int)

theorem gcdI_le {a b B : Int} (ha : -B ≤ a) (ha1 : a ≤ B) (hb : -B ≤ b) (hb1 : b ≤ B) : 0 ≤ gcdI a b ∧ gcdI a b ≤ B := by
  unfold gcdI
  refine ⟨by omega, ?_⟩
  by_cases h : a = 0
  · subst h
    rw [Int.gcd_zero_left]
    omega
  · have := Int.gcd_le_natAbs_left (a := a) b h
    omega

theorem gcdI_pos {a b : Int} (h : a ≠ 0 ∨ b ≠ 0) : 0 < gcdI a b := by
  unfold gcdI
  have : Int.gcd a b ≠ 0 := fun e => by
    rw [Int.gcd_eq_zero_iff] at e
    omega
  omega

theorem gcd_step (a b : Int) : Int.gcd b (Int.tmod a b) = Int.gcd a b := by
  unfold Int.gcd
  rw [Int.natAbs_tmod, Nat.gcd_comm, ← Nat.gcd_rec, Nat.gcd_comm]

theorem tmod_lt_abs (a : Int) {b : Int} (h : b ≠ 0) : (Int.tmod a b).natAbs < b.natAbs := by
  rw [Int.natAbs_tmod]
  exact Nat.mod_lt _ (by omega)

theorem spec_gcd_l1 : ∀ (n k : Nat) (a b : Int) b0 (r0 : Int → Option α), b.natAbs ≤ n → n < k → ∃ g : Int, g.natAbs = Int.gcd a b ∧ spec_l01Gcd_l1 k a b b0 r0 = b0 g 0
  | n, k + 1, a, b, b0, r0, hn, hk => by
    by_cases h : b = 0
    · subst h
      exact ⟨a, by simp, by simp [spec_l01Gcd_l1]⟩
    · cases n with
      | zero => omega
      | succ n =>
        have := tmod_lt_abs a h
        obtain ⟨g, h1, h2⟩ := spec_gcd_l1 n k b (Int.tmod a b) b0 r0 (by omega) (by omega)
        refine ⟨g, by rw [h1, gcd_step], ?_⟩
        rw [spec_l01Gcd_l1, dec_eq_f h]
        exact h2
  | _, 0, _, _, _, _, _, hk => by omega

theorem impl_gcd_l1_ok : ∀ (n k : Nat) (a b : Int) b0 (r0 : Int → Option α), b.natAbs ≤ n → n < k → ∃ g : Int, g.natAbs = Int.gcd a b ∧ impl_gcd_l1 k a b b0 r0 = b0 g 0
  | n, k + 1, a, b, b0, r0, hn, hk => by
    by_cases h : b = 0
    · subst h
      exact ⟨a, by simp, by simp [impl_gcd_l1]⟩
    · cases n with
      | zero => omega
      | succ n =>
        have := tmod_lt_abs a h
        obtain ⟨g, h1, h2⟩ := impl_gcd_l1_ok n k b (Int.tmod a b) b0 r0 (by omega) (by omega)
        refine ⟨g, by rw [h1, gcd_step], ?_⟩
        rw [impl_gcd_l1, dec_eq_f h]
        exact h2
  | _, 0, _, _, _, _, _, hk => by omega

theorem spec_l01Gcd_eq (k : Nat) (a b : Int) (r : Int → Option α) (ha : -1000000000 ≤ a) (ha1 : a ≤ 1000000000) (hb : -1000000000 ≤ b) (hb1 : b ≤ 1000000000) (hk : 1000000000 < k) : spec_l01Gcd k a b r = r (gcdI a b) := by
  unfold spec_l01Gcd
  obtain ⟨g, h1, h2⟩ := spec_gcd_l1 (α := α) 1000000000 k a b (fun a2 b_2 => r (max a2 (w64 (0 - a2)))) r (by omega) hk
  have hb := gcdI_le ha ha1 hb hb1
  unfold gcdI at hb ⊢
  rw [h2, w64_of (by omega) (by omega)]
  congr 1
  omega

theorem impl_gcd_eq (k : Nat) (a b : Int) (r : Int → Option α) (ha : -1000000000 ≤ a) (ha1 : a ≤ 1000000000) (hb : -1000000000 ≤ b) (hb1 : b ≤ 1000000000) (hk : 1000000000 < k) : impl_gcd k a b r = r (gcdI a b) := by
  unfold impl_gcd
  obtain ⟨g, h1, h2⟩ := impl_gcd_l1_ok (α := α) 1000000000 k a b (fun a2 b_2 => impl_size k a2 fun v => r v) r (by omega) hk
  have hb := gcdI_le ha ha1 hb hb1
  unfold gcdI at hb ⊢
  rw [h2, impl_size_eq _ _ _ (by omega) (by omega)]
  congr 1
  omega

/-- A point's primitive one. -/
def prim (a b : Int) : Int × Int := (Int.tdiv a (gcdI a b), Int.tdiv b (gcdI a b))

theorem spec_l01Part_eq (k : Nat) (a b : Int) (r : Int → Int → Option α) (ha : -1000000000 ≤ a) (ha1 : a ≤ 1000000000) (hb : -1000000000 ≤ b) (hb1 : b ≤ 1000000000) (hk : 1000000000 < k) (h : a ≠ 0 ∨ b ≠ 0) : spec_l01Part k a b r = r (prim a b).1 (prim a b).2 := by
  have hp := gcdI_pos h
  have h1 := tdiv_abs a (gcdI a b)
  have h2 := tdiv_abs b (gcdI a b)
  unfold spec_l01Part prim
  rw [spec_l01Gcd_eq k a b _ ha ha1 hb hb1 hk]
  simp only
  rw [dec_eq_f (show gcdI a b ≠ 0 by omega), w64_of (by omega) (by omega), w64_of (by omega) (by omega)]
  rfl

theorem impl_primitive_eq (k : Nat) (a b : Int) (r : Int → Int → Option α) (ha : -1000000000 ≤ a) (ha1 : a ≤ 1000000000) (hb : -1000000000 ≤ b) (hb1 : b ≤ 1000000000) (hk : 1000000000 < k) (h : a ≠ 0 ∨ b ≠ 0) : impl_Point_primitive k a b r = r (prim a b).1 (prim a b).2 := by
  have hp := gcdI_pos h
  have h1 := tdiv_abs a (gcdI a b)
  have h2 := tdiv_abs b (gcdI a b)
  unfold impl_Point_primitive impl_Point_length prim
  rw [impl_gcd_eq k a b _ ha ha1 hb hb1 hk]
  simp only
  rw [dec_eq_f (show gcdI a b ≠ 0 by omega), w64_of (by omega) (by omega), w64_of (by omega) (by omega)]
  rfl

theorem less_w {a b : Int} (ha : -1000000000 ≤ a) (ha1 : a ≤ 1000000000) (hb : -1000000000 ≤ b) (hb1 : b ≤ 1000000000) : w64 (a + w64 (-1 * b)) = a - b := by
  rw [w64_of (n := -1 * b) (by omega) (by omega), w64_of (by omega) (by omega)]
  omega

theorem spec_less_eq (k : Nat) (a b c d : Int) (r : Int → Int → Option α) (ha : -1000000000 ≤ a ∧ a ≤ 1000000000) (hb : -1000000000 ≤ b ∧ b ≤ 1000000000) (hc : -1000000000 ≤ c ∧ c ≤ 1000000000) (hd : -1000000000 ≤ d ∧ d ≤ 1000000000) : spec_l01Plus k a b c d (-1) r = r (a - c) (b - d) := by
  unfold spec_l01Plus
  rw [less_w ha.1 ha.2 hc.1 hc.2, less_w hb.1 hb.2 hd.1 hd.2]

theorem impl_less_eq (k : Nat) (a b c d : Int) (r : Int → Int → Option α) (ha : -1000000000 ≤ a ∧ a ≤ 1000000000) (hb : -1000000000 ≤ b ∧ b ≤ 1000000000) (hc : -1000000000 ≤ c ∧ c ≤ 1000000000) (hd : -1000000000 ≤ d ∧ d ≤ 1000000000) : impl_Point_less k a b c d r = r (a - c) (b - d) := by
  unfold impl_Point_less impl_Point_plus
  rw [less_w ha.1 ha.2 hc.1 hc.2, less_w hb.1 hb.2 hd.1 hd.2]

theorem det_w {a b c d : Int} (ha : -1000000000 ≤ a ∧ a ≤ 1000000000) (hb : -1000000000 ≤ b ∧ b ≤ 1000000000) (hc : -1000000000 ≤ c ∧ c ≤ 1000000000) (hd : -1000000000 ≤ d ∧ d ≤ 1000000000) : w64 (w64 (a * d) - w64 (b * c)) = a * d - b * c ∧ -2000000000000000000 ≤ a * d - b * c ∧ a * d - b * c ≤ 2000000000000000000 := by
  have h1 := mul_bound ha.1 ha.2 hd.1 hd.2
  have h2 := mul_bound hb.1 hb.2 hc.1 hc.2
  rw [w64_of (n := a * d) (by omega) (by omega), w64_of (n := b * c) (by omega) (by omega), w64_of (by omega) (by omega)]
  exact ⟨rfl, by omega, by omega⟩

/-- A number of a triangle's point. -/
def inT (a : Int) : Prop := -1000 ≤ a ∧ a ≤ 1000

theorem inB_T {a : Int} : inB a (-1000) 1000 = true ↔ inT a := inB_iff

/-- A triangle. -/
structure IsT (a b c d e f : Int) : Prop where
  ne : (c - a) * (f - b) - (d - b) * (e - a) ≠ 0
  a : inT a
  b : inT b
  c : inT c
  d : inT d
  e : inT e
  f : inT f

theorem inT.wide {a : Int} (h : inT a) : -1000000000 ≤ a ∧ a ≤ 1000000000 := by
  unfold inT at h
  omega

theorem inT.sub {a b : Int} (h : inT a) (h' : inT b) : -1000000000 ≤ a - b ∧ a - b ≤ 1000000000 := by
  unfold inT at h h'
  omega

theorem inT.sub2 {a b : Int} (h : inT a) (h' : inT b) : -2000 ≤ a - b ∧ a - b ≤ 2000 := by
  unfold inT at h h'
  omega

theorem spec_area_eq (k : Nat) {a b c d e f : Int} (ha : inT a) (hb : inT b) (hc : inT c) (hd : inT d) (he : inT e) (hf : inT f) (r : Int → Option α) : spec_l01Area k a b c d e f r = r (max ((c - a) * (f - b) - (d - b) * (e - a)) (-((c - a) * (f - b) - (d - b) * (e - a)))) := by
  have h1 := det_w (hc.sub ha) (hd.sub hb) (he.sub ha) (hf.sub hb)
  have m1 := mul_bound (hc.sub2 ha).1 (hc.sub2 ha).2 (hf.sub2 hb).1 (hf.sub2 hb).2
  have m2 := mul_bound (hd.sub2 hb).1 (hd.sub2 hb).2 (he.sub2 ha).1 (he.sub2 ha).2
  simp only [spec_l01Area, spec_l01Det]
  rw [spec_less_eq _ _ _ _ _ _ hc.wide hd.wide ha.wide hb.wide, spec_less_eq _ _ _ _ _ _ he.wide hf.wide ha.wide hb.wide, h1.1, w64_of (by omega) (by omega), Int.zero_sub]

theorem impl_area_eq (k : Nat) {a b c d e f : Int} (ha : inT a) (hb : inT b) (hc : inT c) (hd : inT d) (he : inT e) (hf : inT f) (r : Int → Option α) : impl_area k a b c d e f r = r (max ((c - a) * (f - b) - (d - b) * (e - a)) (-((c - a) * (f - b) - (d - b) * (e - a)))) := by
  have h1 := det_w (hc.sub ha) (hd.sub hb) (he.sub ha) (hf.sub hb)
  have m1 := mul_bound (hc.sub2 ha).1 (hc.sub2 ha).2 (hf.sub2 hb).1 (hf.sub2 hb).2
  have m2 := mul_bound (hd.sub2 hb).1 (hd.sub2 hb).2 (he.sub2 ha).1 (he.sub2 ha).2
  simp only [impl_area, impl_det]
  rw [impl_less_eq _ _ _ _ _ _ hc.wide hd.wide ha.wide hb.wide, impl_less_eq _ _ _ _ _ _ he.wide hf.wide ha.wide hb.wide, h1.1, impl_size_eq _ _ _ (by omega) (by omega)]

theorem tri_cases (k : Nat) (a b c d e f : Int) : ((∀ r : Bool → Option α, spec_l04Is k a b c d e f r = r false) ∧ (∀ r : Bool → Option α, impl_IsTriangle k a b c d e f r = r false)) ∨
    (IsT a b c d e f ∧ (∀ r : Bool → Option α, spec_l04Is k a b c d e f r = r true) ∧ (∀ r : Bool → Option α, impl_IsTriangle k a b c d e f r = r true)) := by
  simp only [spec_l04Is, impl_IsTriangle, spec_l01In_eq, impl_small, impl_in_eq]
  cases ha : inB a (-1000) 1000 with
  | false => exact .inl ⟨by simp, by simp⟩
  | true =>
    cases hb : inB b (-1000) 1000 with
    | false => exact .inl ⟨by simp, by simp⟩
    | true =>
      cases hc : inB c (-1000) 1000 with
      | false => exact .inl ⟨by simp, by simp⟩
      | true =>
        cases hd : inB d (-1000) 1000 with
        | false => exact .inl ⟨by simp, by simp⟩
        | true =>
          cases he : inB e (-1000) 1000 with
          | false => exact .inl ⟨by simp, by simp⟩
          | true =>
            cases hf : inB f (-1000) 1000 with
            | false => exact .inl ⟨by simp, by simp⟩
            | true =>
              rw [inB_T] at ha hb hc hd he hf
              simp only [Bool.not_true, cond_false, cond_true, spec_area_eq k ha hb hc hd he hf, impl_area_eq k ha hb hc hd he hf]
              by_cases h : (c - a) * (f - b) - (d - b) * (e - a) = 0
              · exact .inl ⟨by simp [h], by simp [h]⟩
              · have h2 : max ((c - a) * (f - b) - (d - b) * (e - a)) (-((c - a) * (f - b) - (d - b) * (e - a))) ≠ 0 := by omega
                exact .inr ⟨⟨h, ha, hb, hc, hd, he, hf⟩, by simp [h2], by simp [h2]⟩

structure InT6 (a b c d e f : Int) : Prop where
  a : inT a
  b : inT b
  c : inT c
  d : inT d
  e : inT e
  f : inT f

theorem spec_length_eq (k : Nat) (hk : 1000000000 < k) {a b c d : Int} (ha : inT a) (hb : inT b) (hc : inT c) (hd : inT d) (r : Int → Option α) : spec_l01Length k a b c d r = r (gcdI (c - a) (d - b)) := by
  have h1 := hc.sub2 ha
  have h2 := hd.sub2 hb
  unfold spec_l01Length
  rw [w64_of (n := c - a) (by omega) (by omega), w64_of (n := d - b) (by omega) (by omega), spec_l01Gcd_eq k _ _ _ (by omega) (by omega) (by omega) (by omega) hk]

theorem impl_length_eq (k : Nat) (hk : 1000000000 < k) {a b : Int} (ha : -2000 ≤ a ∧ a ≤ 2000) (hb : -2000 ≤ b ∧ b ≤ 2000) (r : Int → Option α) : impl_Point_length k a b r = r (gcdI a b) := by
  unfold impl_Point_length
  rw [impl_gcd_eq k _ _ _ (by omega) (by omega) (by omega) (by omega) hk]

theorem euclid_both : ∀ (m : Nat) (n β s u v rest next : Int), (s = 1 ∨ s = -1) → 0 ≤ u → u ≤ n → 0 ≤ v → v ≤ n → 0 ≤ rest → rest ≤ n → 0 ≤ next → next ≤ n → n ≤ 1000000000 → u * next + v * rest = n → n ∣ s * u * β - rest → n ∣ -s * v * β - next → next ≤ m →
    ∃ X g bef : Int, -n ≤ X ∧ X ≤ n ∧ n ∣ X * β - g ∧ g = gcdI rest next ∧ (∀ k, m < k → ∀ a2 a3 p q b0 (r0 : Int → Int → Option α), spec_l01Base_l5 k n (s * u) (-s * v) rest next a2 a3 p q b0 r0 = b0 n X bef g 0 a2 a3 p q) ∧
      (∀ k, m < k → ∀ b0 (r0 : Int → Option α), impl_bezout_l2 k n rest next (s * u) (-s * v) b0 r0 = b0 n g 0 X bef)
  | m, n, β, s, u, v, rest, next, hs, hu, hu2, hv, hv2, hr, hr2, hn, hn2, hb, he, d1, d2, hm => by
    by_cases hz : next = 0
    · subst hz
      refine ⟨s * u, rest, -s * v, ?_, ?_, d1, ?_, fun k hk a2 a3 p q b0 r0 => ?_, fun k hk b0 r0 => ?_⟩
      · rcases hs with rfl | rfl <;> omega
      · rcases hs with rfl | rfl <;> omega
      · unfold gcdI; rw [Int.gcd_zero_right]; omega
      · obtain ⟨k, rfl⟩ : ∃ k', k = k' + 1 := ⟨k - 1, by omega⟩
        rw [spec_l01Base_l5]; rfl
      · obtain ⟨k, rfl⟩ : ∃ k', k = k' + 1 := ⟨k - 1, by omega⟩
        rw [impl_bezout_l2]; rfl
    · have hpos : 0 < next := by omega
      have hq : Int.tdiv rest next = rest / next := Int.tdiv_eq_ediv_of_nonneg hr
      have hq0 : 0 ≤ rest / next := Int.ediv_nonneg hr (by omega)
      have hd := ediv_bounds (a := rest) hpos
      generalize rest / next = t at hq hq0 hd
      have c1 : next * t = t * next := Int.mul_comm _ _
      have tv : 0 ≤ t * v := Int.mul_nonneg hq0 hv
      have e2 : v * (rest - t * next) + (u + t * v) * next = n := by rw [← he]; grind
      have p1 : 0 ≤ v * (rest - t * next) := Int.mul_nonneg hv (by omega)
      have p2 : (u + t * v) * 1 ≤ (u + t * v) * next := Int.mul_le_mul_of_nonneg_left (by omega) (by omega)
      have tn : 0 ≤ t * next := Int.mul_nonneg hq0 hn
      have d2' : n ∣ -s * v * β - next := d2
      have d3 : n ∣ - -s * (u + t * v) * β - (rest - t * next) := by
        have e : - -s * (u + t * v) * β - (rest - t * next) = (s * u * β - rest) - t * (-s * v * β - next) := by grind
        rw [e]
        exact Int.dvd_sub d1 (Int.dvd_trans d2 (Int.dvd_mul_left _ _))
      obtain ⟨X, g, bef, x1, x2, x3, x4, f1, f2⟩ := euclid_both (m - 1) n β (-s) v (u + t * v) next (rest - t * next) (by omega) hv hv2 (by omega) (by omega) hn hn2 (by omega) (by omega) hb e2 d2' d3 (by omega)
      have eb : -s * (-s * v) = -s * -s * v := by grind
      have ex : s * u - t * (-s * v) = - -s * (u + t * v) := by grind
      have w1 : w64 (t * (-s * v)) = t * (-s * v) := by
        have : t * (-s * v) = -s * (t * v) := by grind
        rw [this]
        rcases hs with rfl | rfl
        · exact w64_of (by omega) (by omega)
        · exact w64_of (by omega) (by omega)
      have w2 : w64 (s * u - t * (-s * v)) = - -s * (u + t * v) := by
        rw [ex]
        rcases hs with rfl | rfl
        · exact w64_of (by omega) (by omega)
        · exact w64_of (by omega) (by omega)
      have w3 : w64 (t * next) = t * next := w64_of (by omega) (by omega)
      have w4 : w64 (rest - t * next) = rest - t * next := w64_of (by omega) (by omega)
      have w5 : w64 t = t := by
        have : t * 1 ≤ t * next := Int.mul_le_mul_of_nonneg_left (by omega) hq0
        exact w64_of (by omega) (by omega)
      refine ⟨X, g, bef, x1, x2, x3, ?_, fun k hk a2 a3 p q b0 r0 => ?_, fun k hk b0 r0 => ?_⟩
      · rw [x4]; unfold gcdI
        rw [Int.gcd_sub_mul_right_right, Int.gcd_comm]
      · obtain ⟨k, rfl⟩ : ∃ k', k = k' + 1 := ⟨k - 1, by omega⟩
        rw [spec_l01Base_l5, decide_eq_false hz, Bool.not_false, cond_true, cond_false, hq, w5, w1, w2, w3, w4]
        exact f1 k (by omega) a2 a3 p q b0 r0
      · obtain ⟨k, rfl⟩ : ∃ k', k = k' + 1 := ⟨k - 1, by omega⟩
        rw [impl_bezout_l2, decide_eq_false hz, Bool.not_false, cond_true, cond_false, hq, w5, w1, w2, w3, w4]
        exact f2 k (by omega) b0 r0
  termination_by m => m
  decreasing_by omega

/-- Base point and mate: what both programs hand back. -/
theorem mate_both (k : Nat) (hk : 1000000000 < k) {a b : Int} (h0 : a ≠ 0) (ha : -1000000 ≤ a) (ha1 : a ≤ 1000000) (hb : -1000000 ≤ b) (hb1 : b ≤ 1000000) : ∃ p q : Int, 0 ≤ p ∧ p < a.natAbs ∧ -1000000000001 ≤ q ∧ q ≤ 1000000000001 ∧ (gcdI a b = 1 → a * q - b * p = 1) ∧
    (∀ r : Int → Int → Option α, spec_l01Base k a b r = r p q) ∧ (∀ r : Int → Int → Option α, impl_Point_mate k a b r = r p q) := by
  have hn : max a (w64 (0 - a)) = max a (-a) := by rw [w64_of (by omega) (by omega)]; omega
  generalize hN : max a (-a) = n at hn
  have n0 : 1 ≤ n := by omega
  have n1 : n ≤ 1000000 := by omega
  have r0 := Int.emod_nonneg b (b := n) (by omega)
  have r1 := Int.emod_lt_of_pos b (show 0 < n by omega)
  have d1 : n ∣ 1 * 1 * b - b % n := ⟨b / n, by have := Int.emod_add_mul_ediv b n; omega⟩
  have d2 : n ∣ -1 * 0 * b - n := ⟨-1, by omega⟩
  obtain ⟨X, g, bef, x1, x2, x3, x4, f1, f2⟩ := euclid_both (α := α) 1000000000 n b 1 1 0 (b % n) n (.inl rfl) (by omega) (by omega) (by omega) (by omega) r0 (by omega) (by omega) (by omega) (by omega) (by omega) d1 d2 (by omega)
  rw [show (1 : Int) * 1 = 1 from rfl, show -(1 : Int) * 0 = 0 from rfl] at f1 f2
  have p0 := Int.emod_nonneg (0 - X) (b := n) (by omega)
  have p1 := Int.emod_lt_of_pos (0 - X) (show 0 < n by omega)
  have q0 := Int.emod_nonneg X (b := n) (by omega)
  have q1 := Int.emod_lt_of_pos X (show 0 < n by omega)
  have hm := mul_bound hb hb1 (show -1000000 ≤ (0 - X) % n by omega) (show (0 - X) % n ≤ 1000000 by omega)
  have hq := tdiv_abs (1 + b * ((0 - X) % n)) a
  have epq : (0 - X % n) % n = (0 - X) % n := by
    have e := Int.emod_add_mul_ediv X n
    have : 0 - X % n = (0 - X) + n * (X / n) := by omega
    rw [this, Int.add_mul_emod_self_left]
  refine ⟨(0 - X) % n, Int.tdiv (1 + b * ((0 - X) % n)) a, p0, by omega, by omega, by omega, fun hg => ?_, fun r => ?_, fun r => ?_⟩
  · have eg : g = 1 := by
      rw [x4, ← hg]; unfold gcdI
      have e1 : Int.gcd (b % n) n = Int.gcd b n := by
        rw [Int.emod_def, Int.gcd_sub_mul_left_left]
      have e2 : Int.gcd b n = Int.gcd a b := by
        rw [Int.gcd_comm a b]
        rcases (show n = a ∨ n = -a by omega) with e | e
        · rw [e]
        · rw [e, Int.gcd_neg]
      rw [e1, e2]
    subst eg
    have e3 := Int.emod_add_mul_ediv (0 - X) n
    have hdv : a ∣ 1 + b * ((0 - X) % n) := by
      have hna : a ∣ n := by
        rcases (show n = a ∨ n = -a by omega) with e | e
        · rw [e]; exact Int.dvd_refl _
        · rw [e]; exact (Int.dvd_neg).2 (Int.dvd_refl _)
      obtain ⟨c, hc⟩ := x3
      have e4 : 1 + b * ((0 - X) % n) = n * (-c - b * ((0 - X) / n)) := by
        have e5 : (0 - X) % n = 0 - X - n * ((0 - X) / n) := by omega
        rw [e5]; grind
      rw [e4]
      exact Int.dvd_trans hna (Int.dvd_mul_right _ _)
    have := Int.mul_tdiv_cancel' hdv
    omega
  · unfold spec_l01Base
    rw [decide_eq_false h0, cond_false, hn, spec_l01Rest_eq k n b _ (by omega) (by omega), f1 k hk]
    rw [w64_of (n := 0 - X) (by omega) (by omega), spec_l01Rest_eq k n _ _ (by omega) (by omega)]
    simp only [decide_eq_false h0, cond_false]
    rw [w64_of (n := b * ((0 - X) % n)) (by omega) (by omega), w64_of (n := 1 + b * ((0 - X) % n)) (by omega) (by omega), w64_of (by omega) (by omega)]
  · unfold impl_Point_mate impl_bezout
    rw [decide_eq_false h0, cond_false, impl_size_eq _ _ _ (by omega) (by omega), hN, impl_mod_eq _ _ _ _ (by omega) (by omega) (by omega) (by omega), f2 k hk]
    simp only
    rw [impl_mod_eq _ _ _ _ (by omega) (by omega) (by omega) (by omega), impl_size_eq _ _ _ (by omega) (by omega), hN, w64_of (n := 0 - X % n) (by omega) (by omega), impl_mod_eq _ _ _ _ (by omega) (by omega) (by omega) (by omega), epq]
    simp only [cond_false]
    rw [w64_of (n := b * ((0 - X) % n)) (by omega) (by omega), w64_of (n := 1 + b * ((0 - X) % n)) (by omega) (by omega), w64_of (by omega) (by omega)]

/-- A mate of a primitive point. -/
structure IsMate (a b p q : Int) : Prop where
  det : a * q - b * p = 1
  p0 : a ≠ 0 → 0 ≤ p ∧ p < a.natAbs
  z : a = 0 → p = -b ∧ q = 0
  pb : -1000000 ≤ p ∧ p ≤ 1000000
  qb : -1000000000001 ≤ q ∧ q ≤ 1000000000001

theorem mate_ok (k : Nat) (hk : 1000000000 < k) {a b : Int} (ha : -1000000 ≤ a) (ha1 : a ≤ 1000000) (hb : -1000000 ≤ b) (hb1 : b ≤ 1000000) (hg : gcdI a b = 1) : ∃ p q : Int, IsMate a b p q ∧
    (∀ r : Int → Int → Option α, spec_l01Base k a b r = r p q) ∧ (∀ r : Int → Int → Option α, impl_Point_mate k a b r = r p q) := by
  by_cases h0 : a = 0
  · subst h0
    unfold gcdI at hg
    rw [Int.gcd_zero_left] at hg
    have w : w64 (0 - b) = -b := by rw [w64_of (by omega) (by omega)]; omega
    refine ⟨-b, 0, ⟨?_, fun h => absurd rfl h, fun _ => ⟨rfl, rfl⟩, by omega, by omega⟩, fun r => ?_, fun r => ?_⟩
    · rcases (show b = 1 ∨ b = -1 by omega) with rfl | rfl <;> rfl
    · unfold spec_l01Base; rw [decide_eq_true rfl, cond_true, w]
    · unfold impl_Point_mate; rw [decide_eq_true rfl, cond_true, w]
  · obtain ⟨p, q, h1, h2, h3, h4, h5, h6, h7⟩ := mate_both (α := α) k hk h0 ha ha1 hb hb1
    exact ⟨p, q, ⟨h5 hg, fun _ => ⟨h1, h2⟩, fun e => absurd e h0, by omega, by omega⟩, h6, h7⟩

theorem mate_uniq {a b p q p' q' : Int} (h0 : a ≠ 0) (h : a * q - b * p = 1) (h' : a * q' - b * p' = 1) (b1 : 0 ≤ p ∧ p < a.natAbs) (b2 : 0 ≤ p' ∧ p' < a.natAbs) : p = p' ∧ q = q' := by
  have e : a * (q - q') = b * (p - p') := by grind
  have hd : a ∣ p - p' := by
    have e1 : p - p' = a * (q * (p - p') - p * (q - q')) := by
      have e2 : (a * q - b * p) * (p - p') = p - p' := by rw [h, Int.one_mul]
      grind
    rw [e1]; exact Int.dvd_mul_right _ _
  have hp : p - p' = 0 := Int.eq_zero_of_dvd_of_natAbs_lt_natAbs hd (by omega)
  have hq : a * (q - q') = 0 := by rw [e, hp, Int.mul_zero]
  rcases Int.mul_eq_zero.1 hq with e | e
  · exact absurd e h0
  · omega

/-- The mate. -/
def mateI (a b : Int) : Int × Int := if a = 0 then (-b, 0) else
  match (List.range a.natAbs).find? (fun p : Nat => decide ((1 + b * (p : Int)) % a = 0)) with
  | some p => ((p : Int), (1 + b * (p : Int)) / a)
  | none => (0, 0)

theorem mateI_is {a b p q : Int} (h : IsMate a b p q) : mateI a b = (p, q) := by
  unfold mateI
  split
  · rename_i h0
    have := h.z h0
    rw [this.1, this.2]
  · rename_i h0
    have hp := h.p0 h0
    split
    · rename_i p' hf
      have h1 := List.find?_some hf
      have h2 := List.mem_range.1 (List.mem_of_find?_eq_some hf)
      simp only [decide_eq_true_eq] at h1
      have h3 := Int.mul_ediv_cancel' (Int.dvd_of_emod_eq_zero h1)
      have := mate_uniq h0 h.det (q' := (1 + b * (p' : Int)) / a) (p' := (p' : Int)) (by omega) hp ⟨by omega, by omega⟩
      rw [this.1, this.2]
    · rename_i hf
      have := List.find?_eq_none.1 hf p.toNat (List.mem_range.2 (by omega))
      rw [show ((p.toNat : Nat) : Int) = p by omega] at this
      refine absurd ?_ this
      rw [decide_eq_true_iff, show 1 + b * p = a * q by have := h.det; omega]
      exact Int.mul_emod_right _ _

def shS (k : Nat) (a b c d e f p0 p1 q0 q1 s0 s1 : Int) (r : Int → Int → Int → Option α) : Option α :=
  spec_l01Plus k q0 q1 p0 p1 (-1) fun v v1 =>
  spec_l01Plus k s0 s1 p0 p1 (-1) fun v2 v3 =>
  spec_l01Part k v v1 fun v4 v5 =>
  spec_l01Length k p0 p1 q0 q1 fun v6 =>
  spec_l04Area k a b c d e f fun v7 =>
  bif decide (v6 = 0) then none else
  spec_l01Base k v4 v5 fun v8 v9 =>
  spec_l01Det k v2 v3 v8 v9 fun v10 =>
  spec_l01Rest k (w64 (Int.tdiv v7 v6)) v10 fun v11 =>
  r v6 v11 (w64 (Int.tdiv v7 v6))

def shI (k : Nat) (a b c d e f p0 p1 q0 q1 s0 s1 : Int) (r : Int → Int → Int → Option α) : Option α :=
  impl_Point_less k q0 q1 p0 p1 fun v v1 =>
  impl_Point_less k s0 s1 p0 p1 fun v2 v3 =>
  impl_Point_length k v v1 fun v4 =>
  impl_Triangle_area k a b c d e f fun v5 =>
  bif decide (v4 = 0) then none else
  impl_Point_primitive k v v1 fun v6 v7 =>
  impl_Point_mate k v6 v7 fun v8 v9 =>
  impl_det k v2 v3 v8 v9 fun v10 =>
  impl_mod k v10 (w64 (Int.tdiv v5 v4)) fun v11 =>
  r v4 v11 (w64 (Int.tdiv v5 v4))

theorem shS01 (k : Nat) (a b c d e f : Int) (r : Int → Int → Int → Option α) : spec_l04Shape k a b c d e f 0 1 r = shS k a b c d e f a b c d e f r := by rfl

theorem shS02 (k : Nat) (a b c d e f : Int) (r : Int → Int → Int → Option α) : spec_l04Shape k a b c d e f 0 2 r = shS k a b c d e f a b e f c d r := by rfl

theorem shS10 (k : Nat) (a b c d e f : Int) (r : Int → Int → Int → Option α) : spec_l04Shape k a b c d e f 1 0 r = shS k a b c d e f c d a b e f r := by rfl

theorem shS12 (k : Nat) (a b c d e f : Int) (r : Int → Int → Int → Option α) : spec_l04Shape k a b c d e f 1 2 r = shS k a b c d e f c d e f a b r := by rfl

theorem shS20 (k : Nat) (a b c d e f : Int) (r : Int → Int → Int → Option α) : spec_l04Shape k a b c d e f 2 0 r = shS k a b c d e f e f a b c d r := by rfl

theorem shS21 (k : Nat) (a b c d e f : Int) (r : Int → Int → Int → Option α) : spec_l04Shape k a b c d e f 2 1 r = shS k a b c d e f e f c d a b r := by rfl

theorem shI01 (k : Nat) (a b c d e f : Int) (r : Int → Int → Int → Option α) : impl_Triangle_shape k a b c d e f 0 1 r = shI k a b c d e f a b c d e f r := by rfl

theorem shI02 (k : Nat) (a b c d e f : Int) (r : Int → Int → Int → Option α) : impl_Triangle_shape k a b c d e f 0 2 r = shI k a b c d e f a b e f c d r := by rfl

theorem shI10 (k : Nat) (a b c d e f : Int) (r : Int → Int → Int → Option α) : impl_Triangle_shape k a b c d e f 1 0 r = shI k a b c d e f c d a b e f r := by rfl

theorem shI12 (k : Nat) (a b c d e f : Int) (r : Int → Int → Int → Option α) : impl_Triangle_shape k a b c d e f 1 2 r = shI k a b c d e f c d e f a b r := by rfl

theorem shI20 (k : Nat) (a b c d e f : Int) (r : Int → Int → Int → Option α) : impl_Triangle_shape k a b c d e f 2 0 r = shI k a b c d e f e f a b c d r := by rfl

theorem shI21 (k : Nat) (a b c d e f : Int) (r : Int → Int → Int → Option α) : impl_Triangle_shape k a b c d e f 2 1 r = shI k a b c d e f e f c d a b r := by rfl

theorem gcd_prim {a b : Int} (h : a ≠ 0 ∨ b ≠ 0) : gcdI (prim a b).1 (prim a b).2 = 1 := by
  have hp := gcdI_pos h
  unfold prim gcdI at *
  simp only
  have d1 := Int.gcd_dvd_left a b
  have d2 := Int.gcd_dvd_right a b
  rw [Int.tdiv_eq_ediv_of_dvd d1, Int.tdiv_eq_ediv_of_dvd d2, Int.gcd_ediv d1 d2]
  rw [Int.natAbs_natCast, Nat.div_self (by omega)]
  rfl

theorem prim_le {a b B : Int} (ha : -B ≤ a ∧ a ≤ B) (hb : -B ≤ b ∧ b ≤ B) : (-B ≤ (prim a b).1 ∧ (prim a b).1 ≤ B) ∧ -B ≤ (prim a b).2 ∧ (prim a b).2 ≤ B := by
  have h1 := tdiv_abs a (gcdI a b)
  have h2 := tdiv_abs b (gcdI a b)
  unfold prim
  simp only
  omega

theorem exists_mate {a b : Int} (ha : -1000000 ≤ a ∧ a ≤ 1000000) (hb : -1000000 ≤ b ∧ b ≤ 1000000) (hg : gcdI a b = 1) : ∃ m : Int × Int, IsMate a b m.1 m.2 := by
  obtain ⟨p, q, h, _⟩ := mate_ok (α := Int) 1000000001 (by omega) ha.1 ha.2 hb.1 hb.2 hg
  exact ⟨(p, q), h⟩

theorem mateI_ok {a b : Int} (ha : -1000000 ≤ a ∧ a ≤ 1000000) (hb : -1000000 ≤ b ∧ b ≤ 1000000) (hg : gcdI a b = 1) : IsMate a b (mateI a b).1 (mateI a b).2 := by
  obtain ⟨m, h⟩ := exists_mate ha hb hg
  rw [mateI_is h]
  exact h

theorem mateI_eq (k : Nat) (hk : 1000000000 < k) {a b : Int} (ha : -1000000 ≤ a ∧ a ≤ 1000000) (hb : -1000000 ≤ b ∧ b ≤ 1000000) (hg : gcdI a b = 1) :
    (∀ r : Int → Int → Option α, spec_l01Base k a b r = r (mateI a b).1 (mateI a b).2) ∧ (∀ r : Int → Int → Option α, impl_Point_mate k a b r = r (mateI a b).1 (mateI a b).2) := by
  obtain ⟨p, q, h, h1, h2⟩ := mate_ok (α := α) k hk ha.1 ha.2 hb.1 hb.2 hg
  rw [mateI_is h]
  exact ⟨h1, h2⟩

def detS (p0 p1 q0 q1 s0 s1 : Int) : Int := (q0 - p0) * (s1 - p1) - (q1 - p1) * (s0 - p0)

def absI (x : Int) : Int := max x (-x)

def shapeI (p0 p1 q0 q1 s0 s1 : Int) : Int × Int × Int :=
  (gcdI (q0 - p0) (q1 - p1),
   ((s0 - p0) * (mateI (prim (q0 - p0) (q1 - p1)).1 (prim (q0 - p0) (q1 - p1)).2).2 - (s1 - p1) * (mateI (prim (q0 - p0) (q1 - p1)).1 (prim (q0 - p0) (q1 - p1)).2).1) % (absI (detS p0 p1 q0 q1 s0 s1) / gcdI (q0 - p0) (q1 - p1)),
   absI (detS p0 p1 q0 q1 s0 s1) / gcdI (q0 - p0) (q1 - p1))

theorem shape_facts {p0 p1 q0 q1 s0 s1 : Int} (hp0 : inT p0) (hp1 : inT p1) (hq0 : inT q0) (hq1 : inT q1) (hs0 : inT s0) (hs1 : inT s1) (hne : detS p0 p1 q0 q1 s0 s1 ≠ 0) :
    (q0 - p0 ≠ 0 ∨ q1 - p1 ≠ 0) ∧ 1 ≤ gcdI (q0 - p0) (q1 - p1) ∧ gcdI (q0 - p0) (q1 - p1) ≤ 2000 ∧ gcdI (q0 - p0) (q1 - p1) ∣ absI (detS p0 p1 q0 q1 s0 s1) ∧ 1 ≤ absI (detS p0 p1 q0 q1 s0 s1) ∧ absI (detS p0 p1 q0 q1 s0 s1) ≤ 8000000 ∧ 1 ≤ absI (detS p0 p1 q0 q1 s0 s1) / gcdI (q0 - p0) (q1 - p1) ∧ absI (detS p0 p1 q0 q1 s0 s1) / gcdI (q0 - p0) (q1 - p1) ≤ 8000000 := by
  have h1 := hq0.sub2 hp0
  have h2 := hq1.sub2 hp1
  have h3 := hs0.sub2 hp0
  have h4 := hs1.sub2 hp1
  have m1 := mul_bound h1.1 h1.2 h4.1 h4.2
  have m2 := mul_bound h2.1 h2.2 h3.1 h3.2
  have hz : q0 - p0 ≠ 0 ∨ q1 - p1 ≠ 0 := by
    rcases Classical.em (q0 - p0 = 0) with e1 | e1
    · rcases Classical.em (q1 - p1 = 0) with e2 | e2
      · exact absurd (by unfold detS; rw [e1, e2]; simp) hne
      · exact .inr e2
    · exact .inl e1
  have hg := gcdI_pos hz
  have hgl := gcdI_le h1.1 h1.2 h2.1 h2.2
  have hd : gcdI (q0 - p0) (q1 - p1) ∣ detS p0 p1 q0 q1 s0 s1 := by
    unfold detS gcdI
    exact Int.dvd_sub (Int.dvd_trans (Int.gcd_dvd_left _ _) (Int.dvd_mul_right _ _)) (Int.dvd_trans (Int.gcd_dvd_right _ _) (Int.dvd_mul_right _ _))
  have hda : gcdI (q0 - p0) (q1 - p1) ∣ absI (detS p0 p1 q0 q1 s0 s1) := by
    unfold absI
    rcases (show max (detS p0 p1 q0 q1 s0 s1) (-detS p0 p1 q0 q1 s0 s1) = detS p0 p1 q0 q1 s0 s1 ∨ max (detS p0 p1 q0 q1 s0 s1) (-detS p0 p1 q0 q1 s0 s1) = -detS p0 p1 q0 q1 s0 s1 by omega) with e | e
    · rw [e]; exact hd
    · rw [e]; exact (Int.dvd_neg).2 hd
  have ha : 1 ≤ absI (detS p0 p1 q0 q1 s0 s1) ∧ absI (detS p0 p1 q0 q1 s0 s1) ≤ 8000000 := by
    unfold absI
    unfold detS at *
    omega
  refine ⟨hz, hg, by omega, hda, ha.1, ha.2, ?_, ?_⟩
  · have := Int.le_of_dvd (by omega) hda
    rw [Int.le_ediv_iff_mul_le hg]
    omega
  · have := Int.ediv_le_self (gcdI (q0 - p0) (q1 - p1)) (show 0 ≤ absI (detS p0 p1 q0 q1 s0 s1) by omega)
    omega

theorem shape_both (k : Nat) (hk : 1000000000 < k) {a b c d e f p0 p1 q0 q1 s0 s1 : Int} (h : InT6 a b c d e f) (hp0 : inT p0) (hp1 : inT p1) (hq0 : inT q0) (hq1 : inT q1) (hs0 : inT s0) (hs1 : inT s1) (hne : detS p0 p1 q0 q1 s0 s1 ≠ 0) (hA : absI (detS a b c d e f) = absI (detS p0 p1 q0 q1 s0 s1)) :
    (∀ r : Int → Int → Int → Option α, shS k a b c d e f p0 p1 q0 q1 s0 s1 r = r (shapeI p0 p1 q0 q1 s0 s1).1 (shapeI p0 p1 q0 q1 s0 s1).2.1 (shapeI p0 p1 q0 q1 s0 s1).2.2) ∧
    (∀ r : Int → Int → Int → Option α, shI k a b c d e f p0 p1 q0 q1 s0 s1 r = r (shapeI p0 p1 q0 q1 s0 s1).1 (shapeI p0 p1 q0 q1 s0 s1).2.1 (shapeI p0 p1 q0 q1 s0 s1).2.2) := by
  obtain ⟨hz, g1, g2, gd, a1, a2, z1, z2⟩ := shape_facts hp0 hp1 hq0 hq1 hs0 hs1 hne
  have h1 := hq0.sub2 hp0
  have h2 := hq1.sub2 hp1
  have h3 := hs0.sub2 hp0
  have h4 := hs1.sub2 hp1
  have hpl := prim_le h1 h2
  have hm := mateI_ok (a := (prim (q0 - p0) (q1 - p1)).1) (b := (prim (q0 - p0) (q1 - p1)).2) (by omega) (by omega) (gcd_prim hz)
  have he := mateI_eq (α := α) k hk (a := (prim (q0 - p0) (q1 - p1)).1) (b := (prim (q0 - p0) (q1 - p1)).2) (by omega) (by omega) (gcd_prim hz)
  have hpb := hm.pb
  have hqb := hm.qb
  have hA1 : max ((c - a) * (f - b) - (d - b) * (e - a)) (-((c - a) * (f - b) - (d - b) * (e - a))) = absI (detS p0 p1 q0 q1 s0 s1) := hA
  have htd : Int.tdiv (absI (detS p0 p1 q0 q1 s0 s1)) (gcdI (q0 - p0) (q1 - p1)) = absI (detS p0 p1 q0 q1 s0 s1) / gcdI (q0 - p0) (q1 - p1) := Int.tdiv_eq_ediv_of_nonneg (by omega)
  have hsh : shapeI p0 p1 q0 q1 s0 s1 = (gcdI (q0 - p0) (q1 - p1), ((s0 - p0) * (mateI (prim (q0 - p0) (q1 - p1)).1 (prim (q0 - p0) (q1 - p1)).2).2 - (s1 - p1) * (mateI (prim (q0 - p0) (q1 - p1)).1 (prim (q0 - p0) (q1 - p1)).2).1) % (absI (detS p0 p1 q0 q1 s0 s1) / gcdI (q0 - p0) (q1 - p1)), absI (detS p0 p1 q0 q1 s0 s1) / gcdI (q0 - p0) (q1 - p1)) := rfl
  rw [hsh]
  simp only
  have hp1' := fun r => spec_l01Part_eq (α := α) k (q0 - p0) (q1 - p1) r (by omega) (by omega) (by omega) (by omega) hk hz
  have hp2' := fun r => impl_primitive_eq (α := α) k (q0 - p0) (q1 - p1) r (by omega) (by omega) (by omega) (by omega) hk hz
  generalize (prim (q0 - p0) (q1 - p1)).1 = u at *
  generalize (prim (q0 - p0) (q1 - p1)).2 = v at *
  generalize (mateI u v).1 = x at *
  generalize (mateI u v).2 = y at *
  generalize absI (detS p0 p1 q0 q1 s0 s1) = A at *
  generalize A / gcdI (q0 - p0) (q1 - p1) = H at *
  have m1 := mul_bound h3.1 h3.2 hqb.1 hqb.2
  have m2 := mul_bound h4.1 h4.2 hpb.1 hpb.2
  have g0 : decide (gcdI (q0 - p0) (q1 - p1) = 0) = false := decide_eq_false (by omega)
  constructor
  · intro r
    unfold shS
    rw [spec_less_eq k _ _ _ _ _ hq0.wide hq1.wide hp0.wide hp1.wide, spec_less_eq k _ _ _ _ _ hs0.wide hs1.wide hp0.wide hp1.wide, hp1', spec_length_eq k hk hp0 hp1 hq0 hq1]
    have ea : ∀ r0 : Int → Option α, spec_l04Area k a b c d e f r0 = spec_l01Area k a b c d e f r0 := fun _ => rfl
    rw [ea, spec_area_eq k h.a h.b h.c h.d h.e h.f, hA1, g0, cond_false, he.1, htd, w64_of (n := H) (by omega) (by omega)]
    simp only [spec_l01Det]
    rw [w64_of (n := (s0 - p0) * y) (by omega) (by omega), w64_of (n := (s1 - p1) * x) (by omega) (by omega), w64_of (by omega) (by omega), spec_l01Rest_eq k H _ _ (by omega) (by omega)]
  · intro r
    unfold shI
    rw [impl_less_eq k _ _ _ _ _ hq0.wide hq1.wide hp0.wide hp1.wide, impl_less_eq k _ _ _ _ _ hs0.wide hs1.wide hp0.wide hp1.wide, impl_length_eq k hk h1 h2]
    have ea : ∀ r0 : Int → Option α, impl_Triangle_area k a b c d e f r0 = impl_area k a b c d e f r0 := fun _ => rfl
    rw [ea, impl_area_eq k h.a h.b h.c h.d h.e h.f, hA1, g0, cond_false, hp2', he.2, htd, w64_of (n := H) (by omega) (by omega)]
    simp only [impl_det]
    rw [w64_of (n := (s0 - p0) * y) (by omega) (by omega), w64_of (n := (s1 - p1) * x) (by omega) (by omega), w64_of (by omega) (by omega), impl_mod_eq k _ H _ (by omega) (by omega) (by omega) (by omega)]

/-- The points of a triangle in the order i, j, and the third. -/
def shapeT (a b c d e f : Int) : Int → Int → Int × Int × Int
  | 0, 1 => shapeI a b c d e f
  | 0, 2 => shapeI a b e f c d
  | 1, 0 => shapeI c d a b e f
  | 1, 2 => shapeI c d e f a b
  | 2, 0 => shapeI e f a b c d
  | 2, 1 => shapeI e f c d a b
  | _, _ => (0, 0, 0)

theorem shapes_eq (k : Nat) (hk : 1000000000 < k) {a b c d e f : Int} (h : IsT a b c d e f) {i j : Int} (hi : 0 ≤ i ∧ i ≤ 2) (hj : 0 ≤ j ∧ j ≤ 2) (hij : i ≠ j) :
    (∀ r : Int → Int → Int → Option α, spec_l04Shape k a b c d e f i j r = r (shapeT a b c d e f i j).1 (shapeT a b c d e f i j).2.1 (shapeT a b c d e f i j).2.2) ∧
    (∀ r : Int → Int → Int → Option α, impl_Triangle_shape k a b c d e f i j r = r (shapeT a b c d e f i j).1 (shapeT a b c d e f i j).2.1 (shapeT a b c d e f i j).2.2) := by
  have h6 : InT6 a b c d e f := ⟨h.a, h.b, h.c, h.d, h.e, h.f⟩
  have hne : detS a b c d e f ≠ 0 := h.ne
  have e02 : detS a b e f c d = -detS a b c d e f := by unfold detS; grind
  have e10 : detS c d a b e f = -detS a b c d e f := by unfold detS; grind
  have e12 : detS c d e f a b = detS a b c d e f := by unfold detS; grind
  have e20 : detS e f a b c d = detS a b c d e f := by unfold detS; grind
  have e21 : detS e f c d a b = -detS a b c d e f := by unfold detS; grind
  have ea : absI (-detS a b c d e f) = absI (detS a b c d e f) := by unfold absI; omega
  have t01 := shape_both (α := α) k hk h6 h.a h.b h.c h.d h.e h.f hne rfl
  have t02 := shape_both (α := α) k hk h6 h.a h.b h.e h.f h.c h.d (by omega) (by rw [e02, ea])
  have t10 := shape_both (α := α) k hk h6 h.c h.d h.a h.b h.e h.f (by omega) (by rw [e10, ea])
  have t12 := shape_both (α := α) k hk h6 h.c h.d h.e h.f h.a h.b (by omega) (by rw [e12])
  have t20 := shape_both (α := α) k hk h6 h.e h.f h.a h.b h.c h.d (by omega) (by rw [e20])
  have t21 := shape_both (α := α) k hk h6 h.e h.f h.c h.d h.a h.b (by omega) (by rw [e21, ea])
  rcases (show (i = 0 ∧ j = 1) ∨ (i = 0 ∧ j = 2) ∨ (i = 1 ∧ j = 0) ∨ (i = 1 ∧ j = 2) ∨ (i = 2 ∧ j = 0) ∨ (i = 2 ∧ j = 1) by omega) with ⟨rfl, rfl⟩ | ⟨rfl, rfl⟩ | ⟨rfl, rfl⟩ | ⟨rfl, rfl⟩ | ⟨rfl, rfl⟩ | ⟨rfl, rfl⟩
  · exact ⟨fun r => (shS01 k a b c d e f r).trans (t01.1 r), fun r => (shI01 k a b c d e f r).trans (t01.2 r)⟩
  · exact ⟨fun r => (shS02 k a b c d e f r).trans (t02.1 r), fun r => (shI02 k a b c d e f r).trans (t02.2 r)⟩
  · exact ⟨fun r => (shS10 k a b c d e f r).trans (t10.1 r), fun r => (shI10 k a b c d e f r).trans (t10.2 r)⟩
  · exact ⟨fun r => (shS12 k a b c d e f r).trans (t12.1 r), fun r => (shI12 k a b c d e f r).trans (t12.2 r)⟩
  · exact ⟨fun r => (shS20 k a b c d e f r).trans (t20.1 r), fun r => (shI20 k a b c d e f r).trans (t20.2 r)⟩
  · exact ⟨fun r => (shS21 k a b c d e f r).trans (t21.1 r), fun r => (shI21 k a b c d e f r).trans (t21.2 r)⟩

def cmpI (x y : Int) : Int := if x < y then -1 else if y < x then 1 else 0

theorem cmp_Compare_eq (k : Nat) (x y : Int) (r : Int → Option α) : cmp_Compare_int64 k x y r = r (cmpI x y) := by
  simp only [cmp_Compare_int64, cmp_isNaN_int64, decide_true, Bool.not_true, cond_false]
  unfold cmpI
  by_cases h : x < y
  · simp [h]
  · by_cases h2 : y < x <;> simp [h, h2]

def or3 (a b c : Int) : Int := if a ≠ 0 then a else if b ≠ 0 then b else c

theorem cmp_Or3 (k : Nat) (hk : 4 ≤ k) (a b c : Int) (r : Int → Option α) : cmp_Or_int k [a, b, c] r = r (or3 a b c) := by
  obtain ⟨k, rfl⟩ : ∃ k', k = k' + 4 := ⟨k - 4, by omega⟩
  have w1 : w64 (0 + 1) = 1 := by decide
  have w2 : w64 (1 + 1) = 2 := by decide
  have w3 : w64 (2 + 1) = 3 := by decide
  unfold cmp_Or_int or3
  rw [cmp_Or_int_l3]
  simp only [List.length_cons, List.length_nil, w1]
  by_cases ha : a = 0
  · rw [cmp_Or_int_l3]
    simp only [List.length_cons, List.length_nil, w2]
    by_cases hb : b = 0
    · rw [cmp_Or_int_l3]
      simp only [List.length_cons, List.length_nil, w3]
      by_cases hc : c = 0
      · rw [cmp_Or_int_l3]
        simp [ha, hb, hc]
      · simp [ha, hb, hc]
    · simp [ha, hb]
  · simp [ha]

/-- Which shape comes ahead. -/
def bef (x y : Int × Int × Int) : Bool := bif !decide (x.1 = y.1) then decide (x.1 < y.1) else bif !decide (x.2.1 = y.2.1) then decide (x.2.1 < y.2.1) else decide (x.2.2 < y.2.2)

theorem spec_before_eq (k : Nat) (x1 x2 x3 y1 y2 y3 : Int) (r : Bool → Option α) : spec_l04Before k x1 x2 x3 y1 y2 y3 r = r (bef (x1, x2, x3) (y1, y2, y3)) := by
  simp only [spec_l04Before, bef]
  by_cases h1 : x1 = y1
  · by_cases h2 : x2 = y2 <;> simp [h1, h2]
  · simp [h1]

def ordS (x y : Int × Int × Int) : Int := or3 (cmpI x.1 y.1) (cmpI x.2.1 y.2.1) (cmpI x.2.2 y.2.2)

theorem impl_order_eq (k : Nat) (hk : 4 ≤ k) (x1 x2 x3 y1 y2 y3 : Int) (r : Int → Option α) : impl_shapeOrder k x1 x2 x3 y1 y2 y3 r = r (ordS (x1, x2, x3) (y1, y2, y3)) := by
  simp only [impl_shapeOrder, cmp_Compare_eq]
  rw [cmp_Or3 k hk]
  rfl

theorem ordS_bef (x y : Int × Int × Int) : decide (ordS x y < 0) = bef x y := by
  unfold ordS or3 cmpI bef
  by_cases h1 : x.1 < y.1
  · have : x.1 ≠ y.1 := by omega
    simp [h1, this]
  · by_cases h2 : y.1 < x.1
    · have : x.1 ≠ y.1 := by omega
      simp [h1, h2, this]
    · have e1 : x.1 = y.1 := by omega
      by_cases h3 : x.2.1 < y.2.1
      · have : x.2.1 ≠ y.2.1 := by omega
        simp [e1, h3, this]
      · by_cases h4 : y.2.1 < x.2.1
        · have : x.2.1 ≠ y.2.1 := by omega
          simp [e1, h3, h4, this]
        · have e2 : x.2.1 = y.2.1 := by omega
          by_cases h5 : x.2.2 < y.2.2
          · simp [e1, e2, h5]
          · by_cases h6 : y.2.2 < x.2.2 <;> simp [e1, e2, h5, h6]

def lessS (x out : Int × Int × Int) : Int × Int × Int := bif bef x out then x else out

/-- The normal shape of a triangle. -/
def normS (a b c d e f : Int) : Int × Int × Int :=
  lessS (shapeT a b c d e f 2 1) (lessS (shapeT a b c d e f 2 0) (lessS (shapeT a b c d e f 1 2) (lessS (shapeT a b c d e f 1 0) (lessS (shapeT a b c d e f 0 2) (lessS (shapeT a b c d e f 0 1) (shapeT a b c d e f 0 1))))))

theorem spec_round0 (k : Nat) (hk : 1000000000 < k) {a b c d e f : Int} (h : IsT a b c d e f) (x x1 x2 o1 o2 o3 : Int) (b0) (r0 : Int → Int → Int → Option α) :
    spec_l04Normal_l3 (k + 1) 0 a b c d e f x x1 x2 o1 o2 o3 b0 r0 = spec_l04Normal_l3 k 1 a b c d e f x x1 x2 (lessS (shapeT a b c d e f 0 2) (lessS (shapeT a b c d e f 0 1) (o1, o2, o3))).1 (lessS (shapeT a b c d e f 0 2) (lessS (shapeT a b c d e f 0 1) (o1, o2, o3))).2.1 (lessS (shapeT a b c d e f 0 2) (lessS (shapeT a b c d e f 0 1) (o1, o2, o3))).2.2 b0 r0 := by
  have w : w64 (0 + 1) = 1 := by decide
  have ta := (shapes_eq (α := α) k hk h (i := 0) (j := 1) (by omega) (by omega) (by omega)).1
  have tb := (shapes_eq (α := α) k hk h (i := 0) (j := 2) (by omega) (by omega) (by omega)).1
  rw [spec_l04Normal_l3]
  simp only [show decide ((0 : Int) < 3) = true from rfl, show decide ((0 : Int) = 0) = true from rfl, show decide ((0 : Int) = 1) = false from rfl, show decide ((0 : Int) = 2) = false from rfl, Bool.not_true, Bool.not_false, cond_true, cond_false, ta, tb, w, spec_before_eq]
  generalize shapeT a b c d e f 0 1 = za
  generalize shapeT a b c d e f 0 2 = zb
  unfold lessS
  cases h1 : bef za (o1, o2, o3) with
  | true => cases h2 : bef zb za <;> simp [h1, h2]
  | false => cases h2 : bef zb (o1, o2, o3) <;> simp [h1, h2]

theorem spec_round1 (k : Nat) (hk : 1000000000 < k) {a b c d e f : Int} (h : IsT a b c d e f) (x x1 x2 o1 o2 o3 : Int) (b0) (r0 : Int → Int → Int → Option α) :
    spec_l04Normal_l3 (k + 1) 1 a b c d e f x x1 x2 o1 o2 o3 b0 r0 = spec_l04Normal_l3 k 2 a b c d e f x x1 x2 (lessS (shapeT a b c d e f 1 2) (lessS (shapeT a b c d e f 1 0) (o1, o2, o3))).1 (lessS (shapeT a b c d e f 1 2) (lessS (shapeT a b c d e f 1 0) (o1, o2, o3))).2.1 (lessS (shapeT a b c d e f 1 2) (lessS (shapeT a b c d e f 1 0) (o1, o2, o3))).2.2 b0 r0 := by
  have w : w64 (1 + 1) = 2 := by decide
  have ta := (shapes_eq (α := α) k hk h (i := 1) (j := 0) (by omega) (by omega) (by omega)).1
  have tb := (shapes_eq (α := α) k hk h (i := 1) (j := 2) (by omega) (by omega) (by omega)).1
  rw [spec_l04Normal_l3]
  simp only [show decide ((1 : Int) < 3) = true from rfl, show decide ((1 : Int) = 0) = false from rfl, show decide ((1 : Int) = 1) = true from rfl, show decide ((1 : Int) = 2) = false from rfl, Bool.not_true, Bool.not_false, cond_true, cond_false, ta, tb, w, spec_before_eq]
  generalize shapeT a b c d e f 1 0 = za
  generalize shapeT a b c d e f 1 2 = zb
  unfold lessS
  cases h1 : bef za (o1, o2, o3) with
  | true => cases h2 : bef zb za <;> simp [h1, h2]
  | false => cases h2 : bef zb (o1, o2, o3) <;> simp [h1, h2]

theorem spec_round2 (k : Nat) (hk : 1000000000 < k) {a b c d e f : Int} (h : IsT a b c d e f) (x x1 x2 o1 o2 o3 : Int) (b0) (r0 : Int → Int → Int → Option α) :
    spec_l04Normal_l3 (k + 1) 2 a b c d e f x x1 x2 o1 o2 o3 b0 r0 = spec_l04Normal_l3 k 3 a b c d e f x x1 x2 (lessS (shapeT a b c d e f 2 1) (lessS (shapeT a b c d e f 2 0) (o1, o2, o3))).1 (lessS (shapeT a b c d e f 2 1) (lessS (shapeT a b c d e f 2 0) (o1, o2, o3))).2.1 (lessS (shapeT a b c d e f 2 1) (lessS (shapeT a b c d e f 2 0) (o1, o2, o3))).2.2 b0 r0 := by
  have w : w64 (2 + 1) = 3 := by decide
  have ta := (shapes_eq (α := α) k hk h (i := 2) (j := 0) (by omega) (by omega) (by omega)).1
  have tb := (shapes_eq (α := α) k hk h (i := 2) (j := 1) (by omega) (by omega) (by omega)).1
  rw [spec_l04Normal_l3]
  simp only [show decide ((2 : Int) < 3) = true from rfl, show decide ((2 : Int) = 0) = false from rfl, show decide ((2 : Int) = 1) = false from rfl, show decide ((2 : Int) = 2) = true from rfl, Bool.not_true, Bool.not_false, cond_true, cond_false, ta, tb, w, spec_before_eq]
  generalize shapeT a b c d e f 2 0 = za
  generalize shapeT a b c d e f 2 1 = zb
  unfold lessS
  cases h1 : bef za (o1, o2, o3) with
  | true => cases h2 : bef zb za <;> simp [h1, h2]
  | false => cases h2 : bef zb (o1, o2, o3) <;> simp [h1, h2]

theorem impl_round0 (k : Nat) (hk : 1000000000 < k) {a b c d e f : Int} (h : IsT a b c d e f) (x x1 x2 o1 o2 o3 : Int) (b0) (r0 : Int → Int → Int → Option α) :
    impl_Triangle_normal_l3 (k + 1) 0 a b c d e f x x1 x2 o1 o2 o3 b0 r0 = impl_Triangle_normal_l3 k 1 a b c d e f x x1 x2 (lessS (shapeT a b c d e f 0 2) (lessS (shapeT a b c d e f 0 1) (o1, o2, o3))).1 (lessS (shapeT a b c d e f 0 2) (lessS (shapeT a b c d e f 0 1) (o1, o2, o3))).2.1 (lessS (shapeT a b c d e f 0 2) (lessS (shapeT a b c d e f 0 1) (o1, o2, o3))).2.2 b0 r0 := by
  have w : w64 (0 + 1) = 1 := by decide
  have ta := (shapes_eq (α := α) k hk h (i := 0) (j := 1) (by omega) (by omega) (by omega)).2
  have tb := (shapes_eq (α := α) k hk h (i := 0) (j := 2) (by omega) (by omega) (by omega)).2
  rw [impl_Triangle_normal_l3]
  simp only [show decide ((0 : Int) < 3) = true from rfl, show decide ((0 : Int) = 0) = true from rfl, show decide ((0 : Int) = 1) = false from rfl, show decide ((0 : Int) = 2) = false from rfl, Bool.not_true, Bool.not_false, cond_true, cond_false, ta, tb, w, impl_order_eq k (by omega), ordS_bef]
  generalize shapeT a b c d e f 0 1 = za
  generalize shapeT a b c d e f 0 2 = zb
  unfold lessS
  cases h1 : bef za (o1, o2, o3) with
  | true => cases h2 : bef zb za <;> simp [h1, h2]
  | false => cases h2 : bef zb (o1, o2, o3) <;> simp [h1, h2]

theorem impl_round1 (k : Nat) (hk : 1000000000 < k) {a b c d e f : Int} (h : IsT a b c d e f) (x x1 x2 o1 o2 o3 : Int) (b0) (r0 : Int → Int → Int → Option α) :
    impl_Triangle_normal_l3 (k + 1) 1 a b c d e f x x1 x2 o1 o2 o3 b0 r0 = impl_Triangle_normal_l3 k 2 a b c d e f x x1 x2 (lessS (shapeT a b c d e f 1 2) (lessS (shapeT a b c d e f 1 0) (o1, o2, o3))).1 (lessS (shapeT a b c d e f 1 2) (lessS (shapeT a b c d e f 1 0) (o1, o2, o3))).2.1 (lessS (shapeT a b c d e f 1 2) (lessS (shapeT a b c d e f 1 0) (o1, o2, o3))).2.2 b0 r0 := by
  have w : w64 (1 + 1) = 2 := by decide
  have ta := (shapes_eq (α := α) k hk h (i := 1) (j := 0) (by omega) (by omega) (by omega)).2
  have tb := (shapes_eq (α := α) k hk h (i := 1) (j := 2) (by omega) (by omega) (by omega)).2
  rw [impl_Triangle_normal_l3]
  simp only [show decide ((1 : Int) < 3) = true from rfl, show decide ((1 : Int) = 0) = false from rfl, show decide ((1 : Int) = 1) = true from rfl, show decide ((1 : Int) = 2) = false from rfl, Bool.not_true, Bool.not_false, cond_true, cond_false, ta, tb, w, impl_order_eq k (by omega), ordS_bef]
  generalize shapeT a b c d e f 1 0 = za
  generalize shapeT a b c d e f 1 2 = zb
  unfold lessS
  cases h1 : bef za (o1, o2, o3) with
  | true => cases h2 : bef zb za <;> simp [h1, h2]
  | false => cases h2 : bef zb (o1, o2, o3) <;> simp [h1, h2]

theorem impl_round2 (k : Nat) (hk : 1000000000 < k) {a b c d e f : Int} (h : IsT a b c d e f) (x x1 x2 o1 o2 o3 : Int) (b0) (r0 : Int → Int → Int → Option α) :
    impl_Triangle_normal_l3 (k + 1) 2 a b c d e f x x1 x2 o1 o2 o3 b0 r0 = impl_Triangle_normal_l3 k 3 a b c d e f x x1 x2 (lessS (shapeT a b c d e f 2 1) (lessS (shapeT a b c d e f 2 0) (o1, o2, o3))).1 (lessS (shapeT a b c d e f 2 1) (lessS (shapeT a b c d e f 2 0) (o1, o2, o3))).2.1 (lessS (shapeT a b c d e f 2 1) (lessS (shapeT a b c d e f 2 0) (o1, o2, o3))).2.2 b0 r0 := by
  have w : w64 (2 + 1) = 3 := by decide
  have ta := (shapes_eq (α := α) k hk h (i := 2) (j := 0) (by omega) (by omega) (by omega)).2
  have tb := (shapes_eq (α := α) k hk h (i := 2) (j := 1) (by omega) (by omega) (by omega)).2
  rw [impl_Triangle_normal_l3]
  simp only [show decide ((2 : Int) < 3) = true from rfl, show decide ((2 : Int) = 0) = false from rfl, show decide ((2 : Int) = 1) = false from rfl, show decide ((2 : Int) = 2) = true from rfl, Bool.not_true, Bool.not_false, cond_true, cond_false, ta, tb, w, impl_order_eq k (by omega), ordS_bef]
  generalize shapeT a b c d e f 2 0 = za
  generalize shapeT a b c d e f 2 1 = zb
  unfold lessS
  cases h1 : bef za (o1, o2, o3) with
  | true => cases h2 : bef zb za <;> simp [h1, h2]
  | false => cases h2 : bef zb (o1, o2, o3) <;> simp [h1, h2]

theorem normal_eq (k : Nat) (hk : 1000000100 < k) {a b c d e f : Int} (h : IsT a b c d e f) :
    (∀ r : Int → Int → Int → Option α, spec_l04Normal k a b c d e f r = r (normS a b c d e f).1 (normS a b c d e f).2.1 (normS a b c d e f).2.2) ∧
    (∀ r : Int → Int → Int → Option α, impl_Triangle_normal k a b c d e f r = r (normS a b c d e f).1 (normS a b c d e f).2.1 (normS a b c d e f).2.2) := by
  obtain ⟨k, rfl⟩ : ∃ k', k = k' + 1 + 1 + 1 + 1 := ⟨k - 4, by omega⟩
  have t := shapes_eq (α := α) (k + 1 + 1 + 1 + 1) (by omega) h (i := 0) (j := 1) (by omega) (by omega) (by omega)
  constructor
  · intro r
    unfold spec_l04Normal
    rw [t.1, spec_round0 (k + 1 + 1 + 1) (by omega) h, spec_round1 (k + 1 + 1) (by omega) h, spec_round2 (k + 1) (by omega) h, spec_l04Normal_l3]
    rfl
  · intro r
    unfold impl_Triangle_normal
    rw [t.2, impl_round0 (k + 1 + 1 + 1) (by omega) h, impl_round1 (k + 1 + 1) (by omega) h, impl_round2 (k + 1) (by omega) h, impl_Triangle_normal_l3]
    rfl

theorem law_AreEqualTriangles (k : Nat) (hk : 1000000100 < k) (a b c d e f u v w x y z : Int) (r : Bool → Option α) : laws_FnExactAreEqualTriangles k a b c d e f u v w x y z r = r true := by
  simp only [laws_FnExactAreEqualTriangles, laws_toTriangle, laws_toPoint, spec_AreEqualTriangles, impl_AreEqualTriangles]
  rcases tri_cases (α := α) k a b c d e f with ⟨h1, h2⟩ | ⟨h, h1, h2⟩
  · simp [h1, h2]
  · rcases tri_cases (α := α) k u v w x y z with ⟨g1, g2⟩ | ⟨g, g1, g2⟩
    · simp [h1, h2, g1, g2]
    · have e := normal_eq (α := α) k hk h
      have e' := normal_eq (α := α) k hk g
      simp [h1, h2, g1, g2, e.1, e.2, e'.1, e'.2]

end Go.Sh
