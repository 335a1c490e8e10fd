/- Plain laws: what the readings without memory answer. -/
import Derived.Test.YtjjmfadknpdnjaaShLShapes
namespace Go.Sh
open Go Go.Ev

variable {α : Type}

theorem spec_l01In_eq (k : Nat) (n low high : Int) (r : Bool → Option α) : spec_l01In k n low high r = r (inB n low high) := by
  unfold spec_l01In inB
  cases decide (low ≤ n) <;> rfl

theorem impl_in_eq (k : Nat) (n low high : Int) (r : Bool → Option α) : impl_in k n low high r = r (inB n low high) := by
  unfold impl_in inB
  cases decide (low ≤ n) <;> rfl

theorem spec_l01Rest_eq (k : Nat) (n x : Int) (r : Int → Option α) (hn : 0 < n) (hn2 : n ≤ 1000000000000000000) : spec_l01Rest k n x r = r (x % n) := by
  have h1 : -n < Int.tmod x n := Int.lt_tmod_of_pos x hn
  have h2 : Int.tmod x n < n := Int.tmod_lt_of_pos x hn
  simp only [spec_l01Rest, dec_eq_f (show n ≠ 0 by omega), cond_false]
  rw [w64_of (by omega) (by omega), rest_eq hn]

theorem impl_floor_eq (k : Nat) (a b : Int) (r : Int → Option α) (hb : 0 < b) (ha : -1000000000000000000 ≤ a) (ha2 : a ≤ 1000000000000000000) : impl_floor k a b r = r (a / b) := by
  have hq := tdiv_abs a b
  simp only [impl_floor, dec_eq_f (show b ≠ 0 by omega), cond_false, w64_of (n := Int.tdiv a b) (by omega) (by omega), w64_of (n := Int.tdiv a b - 1) (by omega) (by omega)]
  rw [← tdiv_floor a b hb]
  cases (!decide (Int.tmod a b = 0)) <;> cases (!(decide (a < 0) == decide (b < 0))) <;> rfl

theorem impl_mod_eq (k : Nat) (a b : Int) (r : Int → Option α) (hb : 0 < b) (hb2 : b ≤ 1000000000000000000) (ha : -1000000000000000000 ≤ a) (ha2 : a ≤ 1000000000000000000) : impl_mod k a b r = r (a % b) := by
  simp only [impl_mod, impl_floor_eq k a b _ hb ha ha2]
  have h1 := Int.emod_add_mul_ediv a b
  have h2 := Int.emod_nonneg a (b := b) (by omega)
  have h3 := Int.emod_lt_of_pos a hb
  rw [w64_of (n := b * (a / b)) (by omega) (by omega), w64_of (by omega) (by omega)]
  congr 1
  omega

theorem impl_size_eq (k : Nat) (n : Int) (r : Int → Option α) (h0 : -1000000000000000000 ≤ n) (h1 : n ≤ 1000000000000000000) : impl_size k n r = r (max n (-n)) := by
  simp only [impl_size]
  rw [w64_of (by omega) (by omega), Int.zero_sub]

def gcdI (a b : Int) : Int := (Int.gcd a b : Int)

theorem gcdI_le {a b B : Int} (ha : -B ≤ a) (ha1 : a ≤ B) (hb : -B ≤ b) (hb1 : b ≤ B) : 0 ≤ gcdI a b ∧ gcdI a b ≤ B := by
  unfold gcdI
  refine ⟨by omega, ?_⟩
  by_cases h : a = 0
  · subst h
    rw [Int.gcd_zero_left]
    omega
  · have := Int.gcd_le_natAbs_left (a := a) b h
    omega

theorem gcdI_pos {a b : Int} (h : a ≠ 0 ∨ b ≠ 0) : 0 < gcdI a b := by
  unfold gcdI
  have : Int.gcd a b ≠ 0 := fun e => by
    rw [Int.gcd_eq_zero_iff] at e
    omega
  omega

theorem gcd_step (a b : Int) : Int.gcd b (Int.tmod a b) = Int.gcd a b := by
  unfold Int.gcd
  rw [Int.natAbs_tmod, Nat.gcd_comm, ← Nat.gcd_rec, Nat.gcd_comm]

theorem tmod_lt_abs (a : Int) {b : Int} (h : b ≠ 0) : (Int.tmod a b).natAbs < b.natAbs := by
  rw [Int.natAbs_tmod]
  exact Nat.mod_lt _ (by omega)

theorem spec_gcd_l1 : ∀ (n k : Nat) (a b : Int) b0 (r0 : Int → Option α), b.natAbs ≤ n → n < k → ∃ g : Int, g.natAbs = Int.gcd a b ∧ spec_l01Gcd_l1 k a b b0 r0 = b0 g 0
  | n, k + 1, a, b, b0, r0, hn, hk => by
    by_cases h : b = 0
    · subst h
      exact ⟨a, by simp, by simp [spec_l01Gcd_l1]⟩
    · cases n with
      | zero => omega
      | succ n =>
        have := tmod_lt_abs a h
        obtain ⟨g, h1, h2⟩ := spec_gcd_l1 n k b (Int.tmod a b) b0 r0 (by omega) (by omega)
        refine ⟨g, by rw [h1, gcd_step], ?_⟩
        rw [spec_l01Gcd_l1, dec_eq_f h]
        exact h2
  | _, 0, _, _, _, _, _, hk => by omega

theorem impl_gcd_l1_ok : ∀ (n k : Nat) (a b : Int) b0 (r0 : Int → Option α), b.natAbs ≤ n → n < k → ∃ g : Int, g.natAbs = Int.gcd a b ∧ impl_gcd_l1 k a b b0 r0 = b0 g 0
  | n, k + 1, a, b, b0, r0, hn, hk => by
    by_cases h : b = 0
    · subst h
      exact ⟨a, by simp, by simp [impl_gcd_l1]⟩
    · cases n with
      | zero => omega
      | succ n =>
        have := tmod_lt_abs a h
        obtain ⟨g, h1, h2⟩ := impl_gcd_l1_ok n k b (Int.tmod a b) b0 r0 (by omega) (by omega)
        refine ⟨g, by rw [h1, gcd_step], ?_⟩
        rw [impl_gcd_l1, dec_eq_f h]
        exact h2
  | _, 0, _, _, _, _, _, hk => by omega

theorem spec_l01Gcd_eq (k : Nat) (a b : Int) (r : Int → Option α) (ha : -1000000000 ≤ a) (ha1 : a ≤ 1000000000) (hb : -1000000000 ≤ b) (hb1 : b ≤ 1000000000) (hk : 1000000000 < k) : spec_l01Gcd k a b r = r (gcdI a b) := by
  unfold spec_l01Gcd
  obtain ⟨g, h1, h2⟩ := spec_gcd_l1 (α := α) 1000000000 k a b (fun a2 b_2 => r (max a2 (w64 (0 - a2)))) r (by omega) hk
  have hb := gcdI_le ha ha1 hb hb1
  unfold gcdI at hb ⊢
  rw [h2, w64_of (by omega) (by omega)]
  congr 1
  omega

theorem impl_gcd_eq (k : Nat) (a b : Int) (r : Int → Option α) (ha : -1000000000 ≤ a) (ha1 : a ≤ 1000000000) (hb : -1000000000 ≤ b) (hb1 : b ≤ 1000000000) (hk : 1000000000 < k) : impl_gcd k a b r = r (gcdI a b) := by
  unfold impl_gcd
  obtain ⟨g, h1, h2⟩ := impl_gcd_l1_ok (α := α) 1000000000 k a b (fun a2 b_2 => impl_size k a2 fun v => r v) r (by omega) hk
  have hb := gcdI_le ha ha1 hb hb1
  unfold gcdI at hb ⊢
  rw [h2, impl_size_eq _ _ _ (by omega) (by omega)]
  congr 1
  omega

/-- A point's primitive one. -/
def prim (a b : Int) : Int × Int := (Int.tdiv a (gcdI a b), Int.tdiv b (gcdI a b))

theorem spec_l01Part_eq (k : Nat) (a b : Int) (r : Int → Int → Option α) (ha : -1000000000 ≤ a) (ha1 : a ≤ 1000000000) (hb : -1000000000 ≤ b) (hb1 : b ≤ 1000000000) (hk : 1000000000 < k) (h : a ≠ 0 ∨ b ≠ 0) : spec_l01Part k a b r = r (prim a b).1 (prim a b).2 := by
  have hp := gcdI_pos h
  have h1 := tdiv_abs a (gcdI a b)
  have h2 := tdiv_abs b (gcdI a b)
  unfold spec_l01Part prim
  rw [spec_l01Gcd_eq k a b _ ha ha1 hb hb1 hk]
  simp only
  rw [dec_eq_f (show gcdI a b ≠ 0 by omega), w64_of (by omega) (by omega), w64_of (by omega) (by omega)]
  rfl

theorem impl_primitive_eq (k : Nat) (a b : Int) (r : Int → Int → Option α) (ha : -1000000000 ≤ a) (ha1 : a ≤ 1000000000) (hb : -1000000000 ≤ b) (hb1 : b ≤ 1000000000) (hk : 1000000000 < k) (h : a ≠ 0 ∨ b ≠ 0) : impl_Point_primitive k a b r = r (prim a b).1 (prim a b).2 := by
  have hp := gcdI_pos h
  have h1 := tdiv_abs a (gcdI a b)
  have h2 := tdiv_abs b (gcdI a b)
  unfold impl_Point_primitive impl_Point_length prim
  rw [impl_gcd_eq k a b _ ha ha1 hb hb1 hk]
  simp only
  rw [dec_eq_f (show gcdI a b ≠ 0 by omega), w64_of (by omega) (by omega), w64_of (by omega) (by omega)]
  rfl

theorem less_w {a b : Int} (ha : -1000000000 ≤ a) (ha1 : a ≤ 1000000000) (hb : -1000000000 ≤ b) (hb1 : b ≤ 1000000000) : w64 (a + w64 (-1 * b)) = a - b := by
  rw [w64_of (n := -1 * b) (by omega) (by omega), w64_of (by omega) (by omega)]
  omega

theorem spec_less_eq (k : Nat) (a b c d : Int) (r : Int → Int → Option α) (ha : -1000000000 ≤ a ∧ a ≤ 1000000000) (hb : -1000000000 ≤ b ∧ b ≤ 1000000000) (hc : -1000000000 ≤ c ∧ c ≤ 1000000000) (hd : -1000000000 ≤ d ∧ d ≤ 1000000000) : spec_l01Plus k a b c d (-1) r = r (a - c) (b - d) := by
  unfold spec_l01Plus
  rw [less_w ha.1 ha.2 hc.1 hc.2, less_w hb.1 hb.2 hd.1 hd.2]

theorem impl_less_eq (k : Nat) (a b c d : Int) (r : Int → Int → Option α) (ha : -1000000000 ≤ a ∧ a ≤ 1000000000) (hb : -1000000000 ≤ b ∧ b ≤ 1000000000) (hc : -1000000000 ≤ c ∧ c ≤ 1000000000) (hd : -1000000000 ≤ d ∧ d ≤ 1000000000) : impl_Point_less k a b c d r = r (a - c) (b - d) := by
  unfold impl_Point_less impl_Point_plus
  rw [less_w ha.1 ha.2 hc.1 hc.2, less_w hb.1 hb.2 hd.1 hd.2]

theorem det_w {a b c d : Int} (ha : -1000000000 ≤ a ∧ a ≤ 1000000000) (hb : -1000000000 ≤ b ∧ b ≤ 1000000000) (hc : -1000000000 ≤ c ∧ c ≤ 1000000000) (hd : -1000000000 ≤ d ∧ d ≤ 1000000000) : w64 (w64 (a * d) - w64 (b * c)) = a * d - b * c ∧ -2000000000000000000 ≤ a * d - b * c ∧ a * d - b * c ≤ 2000000000000000000 := by
  have h1 := mul_bound ha.1 ha.2 hd.1 hd.2
  have h2 := mul_bound hb.1 hb.2 hc.1 hc.2
  rw [w64_of (n := a * d) (by omega) (by omega), w64_of (n := b * c) (by omega) (by omega), w64_of (by omega) (by omega)]
  exact ⟨rfl, by omega, by omega⟩

/-- A number of a triangle's point. -/
def inT (a : Int) : Prop := -1000 ≤ a ∧ a ≤ 1000

theorem inB_T {a : Int} : inB a (-1000) 1000 = true ↔ inT a := inB_iff

/-- A triangle. -/
structure IsT (a b c d e f : Int) : Prop where
  ne : (c - a) * (f - b) - (d - b) * (e - a) ≠ 0
  a : inT a
  b : inT b
  c : inT c
  d : inT d
  e : inT e
  f : inT f

theorem inT.wide {a : Int} (h : inT a) : -1000000000 ≤ a ∧ a ≤ 1000000000 := by
  unfold inT at h
  omega

theorem inT.sub {a b : Int} (h : inT a) (h' : inT b) : -1000000000 ≤ a - b ∧ a - b ≤ 1000000000 := by
  unfold inT at h h'
  omega

theorem inT.sub2 {a b : Int} (h : inT a) (h' : inT b) : -2000 ≤ a - b ∧ a - b ≤ 2000 := by
  unfold inT at h h'
  omega

theorem spec_area_eq (k : Nat) {a b c d e f : Int} (ha : inT a) (hb : inT b) (hc : inT c) (hd : inT d) (he : inT e) (hf : inT f) (r : Int → Option α) : spec_l01Area k a b c d e f r = r (max ((c - a) * (f - b) - (d - b) * (e - a)) (-((c - a) * (f - b) - (d - b) * (e - a)))) := by
  have h1 := det_w (hc.sub ha) (hd.sub hb) (he.sub ha) (hf.sub hb)
  have m1 := mul_bound (hc.sub2 ha).1 (hc.sub2 ha).2 (hf.sub2 hb).1 (hf.sub2 hb).2
  have m2 := mul_bound (hd.sub2 hb).1 (hd.sub2 hb).2 (he.sub2 ha).1 (he.sub2 ha).2
  simp only [spec_l01Area, spec_l01Det]
  rw [spec_less_eq _ _ _ _ _ _ hc.wide hd.wide ha.wide hb.wide, spec_less_eq _ _ _ _ _ _ he.wide hf.wide ha.wide hb.wide, h1.1, w64_of (by omega) (by omega), Int.zero_sub]

theorem impl_area_eq (k : Nat) {a b c d e f : Int} (ha : inT a) (hb : inT b) (hc : inT c) (hd : inT d) (he : inT e) (hf : inT f) (r : Int → Option α) : impl_area k a b c d e f r = r (max ((c - a) * (f - b) - (d - b) * (e - a)) (-((c - a) * (f - b) - (d - b) * (e - a)))) := by
  have h1 := det_w (hc.sub ha) (hd.sub hb) (he.sub ha) (hf.sub hb)
  have m1 := mul_bound (hc.sub2 ha).1 (hc.sub2 ha).2 (hf.sub2 hb).1 (hf.sub2 hb).2
  have m2 := mul_bound (hd.sub2 hb).1 (hd.sub2 hb).2 (he.sub2 ha).1 (he.sub2 ha).2
  simp only [impl_area, impl_det]
  rw [impl_less_eq _ _ _ _ _ _ hc.wide hd.wide ha.wide hb.wide, impl_less_eq _ _ _ _ _ _ he.wide hf.wide ha.wide hb.wide, h1.1, impl_size_eq _ _ _ (by omega) (by omega)]

theorem tri_cases (k : Nat) (a b c d e f : Int) : ((∀ r : Bool → Option α, spec_l04Is k a b c d e f r = r false) ∧ (∀ r : Bool → Option α, impl_IsTriangle k a b c d e f r = r false)) ∨
    (IsT a b c d e f ∧ (∀ r : Bool → Option α, spec_l04Is k a b c d e f r = r true) ∧ (∀ r : Bool → Option α, impl_IsTriangle k a b c d e f r = r true)) := by
  simp only [spec_l04Is, impl_IsTriangle, spec_l01In_eq, impl_small, impl_in_eq]
  cases ha : inB a (-1000) 1000 with
  | false => exact .inl ⟨by simp, by simp⟩
  | true =>
    cases hb : inB b (-1000) 1000 with
    | false => exact .inl ⟨by simp, by simp⟩
    | true =>
      cases hc : inB c (-1000) 1000 with
      | false => exact .inl ⟨by simp, by simp⟩
      | true =>
        cases hd : inB d (-1000) 1000 with
        | false => exact .inl ⟨by simp, by simp⟩
        | true =>
          cases he : inB e (-1000) 1000 with
          | false => exact .inl ⟨by simp, by simp⟩
          | true =>
            cases hf : inB f (-1000) 1000 with
            | false => exact .inl ⟨by simp, by simp⟩
            | true =>
              rw [inB_T] at ha hb hc hd he hf
              simp only [Bool.not_true, cond_false, cond_true, spec_area_eq k ha hb hc hd he hf, impl_area_eq k ha hb hc hd he hf]
              by_cases h : (c - a) * (f - b) - (d - b) * (e - a) = 0
              · exact .inl ⟨by simp [h], by simp [h]⟩
              · have h2 : max ((c - a) * (f - b) - (d - b) * (e - a)) (-((c - a) * (f - b) - (d - b) * (e - a))) ≠ 0 := by omega
                exact .inr ⟨⟨h, ha, hb, hc, hd, he, hf⟩, by simp [h2], by simp [h2]⟩

structure InT6 (a b c d e f : Int) : Prop where
  a : inT a
  b : inT b
  c : inT c
  d : inT d
  e : inT e
  f : inT f

theorem impl_side01 (k : Nat) (a b c d e f : Int) (r : Int → Int → Option α) : impl_Triangle_side k a b c d e f 0 1 r = impl_Point_less k c d a b fun v v1 => r v v1 := by rfl

theorem impl_side12 (k : Nat) (a b c d e f : Int) (r : Int → Int → Option α) : impl_Triangle_side k a b c d e f 1 2 r = impl_Point_less k e f c d fun v v1 => r v v1 := by rfl

theorem impl_side20 (k : Nat) (a b c d e f : Int) (r : Int → Int → Option α) : impl_Triangle_side k a b c d e f 2 0 r = impl_Point_less k a b e f fun v v1 => r v v1 := by rfl

def areaT (a b c d e f : Int) : Int := max ((c - a) * (f - b) - (d - b) * (e - a)) (-((c - a) * (f - b) - (d - b) * (e - a)))

theorem spec_length_eq (k : Nat) (hk : 1000000000 < k) {a b c d : Int} (ha : inT a) (hb : inT b) (hc : inT c) (hd : inT d) (r : Int → Option α) : spec_l01Length k a b c d r = r (gcdI (c - a) (d - b)) := by
  have h1 := hc.sub2 ha
  have h2 := hd.sub2 hb
  unfold spec_l01Length
  rw [w64_of (n := c - a) (by omega) (by omega), w64_of (n := d - b) (by omega) (by omega), spec_l01Gcd_eq k _ _ _ (by omega) (by omega) (by omega) (by omega) hk]

theorem impl_length_eq (k : Nat) (hk : 1000000000 < k) {a b : Int} (ha : -2000 ≤ a ∧ a ≤ 2000) (hb : -2000 ≤ b ∧ b ≤ 2000) (r : Int → Option α) : impl_Point_length k a b r = r (gcdI a b) := by
  unfold impl_Point_length
  rw [impl_gcd_eq k _ _ _ (by omega) (by omega) (by omega) (by omega) hk]

theorem euclid_both : ∀ (m : Nat) (n β s u v rest next : Int), (s = 1 ∨ s = -1) → 0 ≤ u → u ≤ n → 0 ≤ v → v ≤ n → 0 ≤ rest → rest ≤ n → 0 ≤ next → next ≤ n → n ≤ 1000000000 → u * next + v * rest = n → n ∣ s * u * β - rest → n ∣ -s * v * β - next → next ≤ m →
    ∃ X g bef : Int, -n ≤ X ∧ X ≤ n ∧ n ∣ X * β - g ∧ g = gcdI rest next ∧ (∀ k, m < k → ∀ a2 a3 p q b0 (r0 : Int → Int → Option α), spec_l01Base_l5 k n (s * u) (-s * v) rest next a2 a3 p q b0 r0 = b0 n X bef g 0 a2 a3 p q) ∧
      (∀ k, m < k → ∀ b0 (r0 : Int → Option α), impl_bezout_l2 k n rest next (s * u) (-s * v) b0 r0 = b0 n g 0 X bef)
  | m, n, β, s, u, v, rest, next, hs, hu, hu2, hv, hv2, hr, hr2, hn, hn2, hb, he, d1, d2, hm => by
    by_cases hz : next = 0
    · subst hz
      refine ⟨s * u, rest, -s * v, ?_, ?_, d1, ?_, fun k hk a2 a3 p q b0 r0 => ?_, fun k hk b0 r0 => ?_⟩
      · rcases hs with rfl | rfl <;> omega
      · rcases hs with rfl | rfl <;> omega
      · unfold gcdI; rw [Int.gcd_zero_right]; omega
      · obtain ⟨k, rfl⟩ : ∃ k', k = k' + 1 := ⟨k - 1, by omega⟩
        rw [spec_l01Base_l5]; rfl
      · obtain ⟨k, rfl⟩ : ∃ k', k = k' + 1 := ⟨k - 1, by omega⟩
        rw [impl_bezout_l2]; rfl
    · have hpos : 0 < next := by omega
      have hq : Int.tdiv rest next = rest / next := Int.tdiv_eq_ediv_of_nonneg hr
      have hq0 : 0 ≤ rest / next := Int.ediv_nonneg hr (by omega)
      have hd := ediv_bounds (a := rest) hpos
      generalize rest / next = t at hq hq0 hd
      have c1 : next * t = t * next := Int.mul_comm _ _
      have tv : 0 ≤ t * v := Int.mul_nonneg hq0 hv
      have e2 : v * (rest - t * next) + (u + t * v) * next = n := by rw [← he]; grind
      have p1 : 0 ≤ v * (rest - t * next) := Int.mul_nonneg hv (by omega)
      have p2 : (u + t * v) * 1 ≤ (u + t * v) * next := Int.mul_le_mul_of_nonneg_left (by omega) (by omega)
      have tn : 0 ≤ t * next := Int.mul_nonneg hq0 hn
      have d2' : n ∣ -s * v * β - next := d2
      have d3 : n ∣ - -s * (u + t * v) * β - (rest - t * next) := by
        have e : - -s * (u + t * v) * β - (rest - t * next) = (s * u * β - rest) - t * (-s * v * β - next) := by grind
        rw [e]
        exact Int.dvd_sub d1 (Int.dvd_trans d2 (Int.dvd_mul_left _ _))
      obtain ⟨X, g, bef, x1, x2, x3, x4, f1, f2⟩ := euclid_both (m - 1) n β (-s) v (u + t * v) next (rest - t * next) (by omega) hv hv2 (by omega) (by omega) hn hn2 (by omega) (by omega) hb e2 d2' d3 (by omega)
      have eb : -s * (-s * v) = -s * -s * v := by grind
      have ex : s * u - t * (-s * v) = - -s * (u + t * v) := by grind
      have w1 : w64 (t * (-s * v)) = t * (-s * v) := by
        have : t * (-s * v) = -s * (t * v) := by grind
        rw [this]
        rcases hs with rfl | rfl
        · exact w64_of (by omega) (by omega)
        · exact w64_of (by omega) (by omega)
      have w2 : w64 (s * u - t * (-s * v)) = - -s * (u + t * v) := by
        rw [ex]
        rcases hs with rfl | rfl
        · exact w64_of (by omega) (by omega)
        · exact w64_of (by omega) (by omega)
      have w3 : w64 (t * next) = t * next := w64_of (by omega) (by omega)
      have w4 : w64 (rest - t * next) = rest - t * next := w64_of (by omega) (by omega)
      have w5 : w64 t = t := by
        have : t * 1 ≤ t * next := Int.mul_le_mul_of_nonneg_left (by omega) hq0
        exact w64_of (by omega) (by omega)
      refine ⟨X, g, bef, x1, x2, x3, ?_, fun k hk a2 a3 p q b0 r0 => ?_, fun k hk b0 r0 => ?_⟩
      · rw [x4]; unfold gcdI
        rw [Int.gcd_sub_mul_right_right, Int.gcd_comm]
      · obtain ⟨k, rfl⟩ : ∃ k', k = k' + 1 := ⟨k - 1, by omega⟩
        rw [spec_l01Base_l5, decide_eq_false hz, Bool.not_false, cond_true, cond_false, hq, w5, w1, w2, w3, w4]
        exact f1 k (by omega) a2 a3 p q b0 r0
      · obtain ⟨k, rfl⟩ : ∃ k', k = k' + 1 := ⟨k - 1, by omega⟩
        rw [impl_bezout_l2, decide_eq_false hz, Bool.not_false, cond_true, cond_false, hq, w5, w1, w2, w3, w4]
        exact f2 k (by omega) b0 r0
  termination_by m => m
  decreasing_by omega

/-- Base point and mate: what both programs hand back. -/
theorem mate_both (k : Nat) (hk : 1000000000 < k) {a b : Int} (h0 : a ≠ 0) (ha : -1000000 ≤ a) (ha1 : a ≤ 1000000) (hb : -1000000 ≤ b) (hb1 : b ≤ 1000000) : ∃ p q : Int, 0 ≤ p ∧ p < a.natAbs ∧ -1000000000001 ≤ q ∧ q ≤ 1000000000001 ∧ (gcdI a b = 1 → a * q - b * p = 1) ∧
    (∀ r : Int → Int → Option α, spec_l01Base k a b r = r p q) ∧ (∀ r : Int → Int → Option α, impl_Point_mate k a b r = r p q) := by
  have hn : max a (w64 (0 - a)) = max a (-a) := by rw [w64_of (by omega) (by omega)]; omega
  generalize hN : max a (-a) = n at hn
  have n0 : 1 ≤ n := by omega
  have n1 : n ≤ 1000000 := by omega
  have r0 := Int.emod_nonneg b (b := n) (by omega)
  have r1 := Int.emod_lt_of_pos b (show 0 < n by omega)
  have d1 : n ∣ 1 * 1 * b - b % n := ⟨b / n, by have := Int.emod_add_mul_ediv b n; omega⟩
  have d2 : n ∣ -1 * 0 * b - n := ⟨-1, by omega⟩
  obtain ⟨X, g, bef, x1, x2, x3, x4, f1, f2⟩ := euclid_both (α := α) 1000000000 n b 1 1 0 (b % n) n (.inl rfl) (by omega) (by omega) (by omega) (by omega) r0 (by omega) (by omega) (by omega) (by omega) (by omega) d1 d2 (by omega)
  rw [show (1 : Int) * 1 = 1 from rfl, show -(1 : Int) * 0 = 0 from rfl] at f1 f2
  have p0 := Int.emod_nonneg (0 - X) (b := n) (by omega)
  have p1 := Int.emod_lt_of_pos (0 - X) (show 0 < n by omega)
  have q0 := Int.emod_nonneg X (b := n) (by omega)
  have q1 := Int.emod_lt_of_pos X (show 0 < n by omega)
  have hm := mul_bound hb hb1 (show -1000000 ≤ (0 - X) % n by omega) (show (0 - X) % n ≤ 1000000 by omega)
  have hq := tdiv_abs (1 + b * ((0 - X) % n)) a
  have epq : (0 - X % n) % n = (0 - X) % n := by
    have e := Int.emod_add_mul_ediv X n
    have : 0 - X % n = (0 - X) + n * (X / n) := by omega
    rw [this, Int.add_mul_emod_self_left]
  refine ⟨(0 - X) % n, Int.tdiv (1 + b * ((0 - X) % n)) a, p0, by omega, by omega, by omega, fun hg => ?_, fun r => ?_, fun r => ?_⟩
  · have eg : g = 1 := by
      rw [x4, ← hg]; unfold gcdI
      have e1 : Int.gcd (b % n) n = Int.gcd b n := by
        rw [Int.emod_def, Int.gcd_sub_mul_left_left]
      have e2 : Int.gcd b n = Int.gcd a b := by
        rw [Int.gcd_comm a b]
        rcases (show n = a ∨ n = -a by omega) with e | e
        · rw [e]
        · rw [e, Int.gcd_neg]
      rw [e1, e2]
    subst eg
    have e3 := Int.emod_add_mul_ediv (0 - X) n
    have hdv : a ∣ 1 + b * ((0 - X) % n) := by
      have hna : a ∣ n := by
        rcases (show n = a ∨ n = -a by omega) with e | e
        · rw [e]; exact Int.dvd_refl _
        · rw [e]; exact (Int.dvd_neg).2 (Int.dvd_refl _)
      obtain ⟨c, hc⟩ := x3
      have e4 : 1 + b * ((0 - X) % n) = n * (-c - b * ((0 - X) / n)) := by
        have e5 : (0 - X) % n = 0 - X - n * ((0 - X) / n) := by omega
        rw [e5]; grind
      rw [e4]
      exact Int.dvd_trans hna (Int.dvd_mul_right _ _)
    have := Int.mul_tdiv_cancel' hdv
    omega
  · unfold spec_l01Base
    rw [decide_eq_false h0, cond_false, hn, spec_l01Rest_eq k n b _ (by omega) (by omega), f1 k hk]
    rw [w64_of (n := 0 - X) (by omega) (by omega), spec_l01Rest_eq k n _ _ (by omega) (by omega)]
    simp only [decide_eq_false h0, cond_false]
    rw [w64_of (n := b * ((0 - X) % n)) (by omega) (by omega), w64_of (n := 1 + b * ((0 - X) % n)) (by omega) (by omega), w64_of (by omega) (by omega)]
  · unfold impl_Point_mate impl_bezout
    rw [decide_eq_false h0, cond_false, impl_size_eq _ _ _ (by omega) (by omega), hN, impl_mod_eq _ _ _ _ (by omega) (by omega) (by omega) (by omega), f2 k hk]
    simp only
    rw [impl_mod_eq _ _ _ _ (by omega) (by omega) (by omega) (by omega), impl_size_eq _ _ _ (by omega) (by omega), hN, w64_of (n := 0 - X % n) (by omega) (by omega), impl_mod_eq _ _ _ _ (by omega) (by omega) (by omega) (by omega), epq]
    simp only [cond_false]
    rw [w64_of (n := b * ((0 - X) % n)) (by omega) (by omega), w64_of (n := 1 + b * ((0 - X) % n)) (by omega) (by omega), w64_of (by omega) (by omega)]

/-- A mate of a primitive point. -/
structure IsMate (a b p q : Int) : Prop where
  det : a * q - b * p = 1
  p0 : a ≠ 0 → 0 ≤ p ∧ p < a.natAbs
  z : a = 0 → p = -b ∧ q = 0
  pb : -1000000 ≤ p ∧ p ≤ 1000000
  qb : -1000000000001 ≤ q ∧ q ≤ 1000000000001

theorem mate_ok (k : Nat) (hk : 1000000000 < k) {a b : Int} (ha : -1000000 ≤ a) (ha1 : a ≤ 1000000) (hb : -1000000 ≤ b) (hb1 : b ≤ 1000000) (hg : gcdI a b = 1) : ∃ p q : Int, IsMate a b p q ∧
    (∀ r : Int → Int → Option α, spec_l01Base k a b r = r p q) ∧ (∀ r : Int → Int → Option α, impl_Point_mate k a b r = r p q) := by
  by_cases h0 : a = 0
  · subst h0
    unfold gcdI at hg
    rw [Int.gcd_zero_left] at hg
    have w : w64 (0 - b) = -b := by rw [w64_of (by omega) (by omega)]; omega
    refine ⟨-b, 0, ⟨?_, fun h => absurd rfl h, fun _ => ⟨rfl, rfl⟩, by omega, by omega⟩, fun r => ?_, fun r => ?_⟩
    · rcases (show b = 1 ∨ b = -1 by omega) with rfl | rfl <;> rfl
    · unfold spec_l01Base; rw [decide_eq_true rfl, cond_true, w]
    · unfold impl_Point_mate; rw [decide_eq_true rfl, cond_true, w]
  · obtain ⟨p, q, h1, h2, h3, h4, h5, h6, h7⟩ := mate_both (α := α) k hk h0 ha ha1 hb hb1
    exact ⟨p, q, ⟨h5 hg, fun _ => ⟨h1, h2⟩, fun e => absurd e h0, by omega, by omega⟩, h6, h7⟩

theorem mate_uniq {a b p q p' q' : Int} (h0 : a ≠ 0) (h : a * q - b * p = 1) (h' : a * q' - b * p' = 1) (b1 : 0 ≤ p ∧ p < a.natAbs) (b2 : 0 ≤ p' ∧ p' < a.natAbs) : p = p' ∧ q = q' := by
  have e : a * (q - q') = b * (p - p') := by grind
  have hd : a ∣ p - p' := by
    have e1 : p - p' = a * (q * (p - p') - p * (q - q')) := by
      have e2 : (a * q - b * p) * (p - p') = p - p' := by rw [h, Int.one_mul]
      grind
    rw [e1]; exact Int.dvd_mul_right _ _
  have hp : p - p' = 0 := Int.eq_zero_of_dvd_of_natAbs_lt_natAbs hd (by omega)
  have hq : a * (q - q') = 0 := by rw [e, hp, Int.mul_zero]
  rcases Int.mul_eq_zero.1 hq with e | e
  · exact absurd e h0
  · omega

/-- The mate. -/
def mateI (a b : Int) : Int × Int := if a = 0 then (-b, 0) else
  match (List.range a.natAbs).find? (fun p : Nat => decide ((1 + b * (p : Int)) % a = 0)) with
  | some p => ((p : Int), (1 + b * (p : Int)) / a)
  | none => (0, 0)

theorem mateI_is {a b p q : Int} (h : IsMate a b p q) : mateI a b = (p, q) := by
  unfold mateI
  split
  · rename_i h0
    have := h.z h0
    rw [this.1, this.2]
  · rename_i h0
    have hp := h.p0 h0
    split
    · rename_i p' hf
      have h1 := List.find?_some hf
      have h2 := List.mem_range.1 (List.mem_of_find?_eq_some hf)
      simp only [decide_eq_true_eq] at h1
      have h3 := Int.mul_ediv_cancel' (Int.dvd_of_emod_eq_zero h1)
      have := mate_uniq h0 h.det (q' := (1 + b * (p' : Int)) / a) (p' := (p' : Int)) (by omega) hp ⟨by omega, by omega⟩
      rw [this.1, this.2]
    · rename_i hf
      have := List.find?_eq_none.1 hf p.toNat (List.mem_range.2 (by omega))
      rw [show ((p.toNat : Nat) : Int) = p by omega] at this
      refine absurd ?_ this
      rw [decide_eq_true_iff, show 1 + b * p = a * q by have := h.det; omega]
      exact Int.mul_emod_right _ _

def shS (k : Nat) (a b c d e f p0 p1 q0 q1 s0 s1 : Int) (r : Int → Int → Int → Option α) : Option α :=
  spec_l01Plus k q0 q1 p0 p1 (-1) fun v v1 =>
  spec_l01Plus k s0 s1 p0 p1 (-1) fun v2 v3 =>
  spec_l01Part k v v1 fun v4 v5 =>
  spec_l01Length k p0 p1 q0 q1 fun v6 =>
  spec_l04Area k a b c d e f fun v7 =>
  bif decide (v6 = 0) then none else
  spec_l01Base k v4 v5 fun v8 v9 =>
  spec_l01Det k v2 v3 v8 v9 fun v10 =>
  spec_l01Rest k (w64 (Int.tdiv v7 v6)) v10 fun v11 =>
  r v6 v11 (w64 (Int.tdiv v7 v6))

def shI (k : Nat) (a b c d e f p0 p1 q0 q1 s0 s1 : Int) (r : Int → Int → Int → Option α) : Option α :=
  impl_Point_less k q0 q1 p0 p1 fun v v1 =>
  impl_Point_less k s0 s1 p0 p1 fun v2 v3 =>
  impl_Point_length k v v1 fun v4 =>
  impl_Triangle_area k a b c d e f fun v5 =>
  bif decide (v4 = 0) then none else
  impl_Point_primitive k v v1 fun v6 v7 =>
  impl_Point_mate k v6 v7 fun v8 v9 =>
  impl_det k v2 v3 v8 v9 fun v10 =>
  impl_mod k v10 (w64 (Int.tdiv v5 v4)) fun v11 =>
  r v4 v11 (w64 (Int.tdiv v5 v4))

theorem shS01 (k : Nat) (a b c d e f : Int) (r : Int → Int → Int → Option α) : spec_l04Shape k a b c d e f 0 1 r = shS k a b c d e f a b c d e f r := by rfl

theorem shS02 (k : Nat) (a b c d e f : Int) (r : Int → Int → Int → Option α) : spec_l04Shape k a b c d e f 0 2 r = shS k a b c d e f a b e f c d r := by rfl

theorem shS10 (k : Nat) (a b c d e f : Int) (r : Int → Int → Int → Option α) : spec_l04Shape k a b c d e f 1 0 r = shS k a b c d e f c d a b e f r := by rfl

theorem shS12 (k : Nat) (a b c d e f : Int) (r : Int → Int → Int → Option α) : spec_l04Shape k a b c d e f 1 2 r = shS k a b c d e f c d e f a b r := by rfl

theorem shS20 (k : Nat) (a b c d e f : Int) (r : Int → Int → Int → Option α) : spec_l04Shape k a b c d e f 2 0 r = shS k a b c d e f e f a b c d r := by rfl

theorem shS21 (k : Nat) (a b c d e f : Int) (r : Int → Int → Int → Option α) : spec_l04Shape k a b c d e f 2 1 r = shS k a b c d e f e f c d a b r := by rfl

theorem shI01 (k : Nat) (a b c d e f : Int) (r : Int → Int → Int → Option α) : impl_Triangle_shape k a b c d e f 0 1 r = shI k a b c d e f a b c d e f r := by rfl

theorem shI02 (k : Nat) (a b c d e f : Int) (r : Int → Int → Int → Option α) : impl_Triangle_shape k a b c d e f 0 2 r = shI k a b c d e f a b e f c d r := by rfl

theorem shI10 (k : Nat) (a b c d e f : Int) (r : Int → Int → Int → Option α) : impl_Triangle_shape k a b c d e f 1 0 r = shI k a b c d e f c d a b e f r := by rfl

theorem shI12 (k : Nat) (a b c d e f : Int) (r : Int → Int → Int → Option α) : impl_Triangle_shape k a b c d e f 1 2 r = shI k a b c d e f c d e f a b r := by rfl

theorem shI20 (k : Nat) (a b c d e f : Int) (r : Int → Int → Int → Option α) : impl_Triangle_shape k a b c d e f 2 0 r = shI k a b c d e f e f a b c d r := by rfl

theorem shI21 (k : Nat) (a b c d e f : Int) (r : Int → Int → Int → Option α) : impl_Triangle_shape k a b c d e f 2 1 r = shI k a b c d e f e f c d a b r := by rfl

theorem gcd_prim {a b : Int} (h : a ≠ 0 ∨ b ≠ 0) : gcdI (prim a b).1 (prim a b).2 = 1 := by
  have hp := gcdI_pos h
  unfold prim gcdI at *
  simp only
  have d1 := Int.gcd_dvd_left a b
  have d2 := Int.gcd_dvd_right a b
  rw [Int.tdiv_eq_ediv_of_dvd d1, Int.tdiv_eq_ediv_of_dvd d2, Int.gcd_ediv d1 d2]
  rw [Int.natAbs_natCast, Nat.div_self (by omega)]
  rfl

theorem prim_le {a b B : Int} (ha : -B ≤ a ∧ a ≤ B) (hb : -B ≤ b ∧ b ≤ B) : (-B ≤ (prim a b).1 ∧ (prim a b).1 ≤ B) ∧ -B ≤ (prim a b).2 ∧ (prim a b).2 ≤ B := by
  have h1 := tdiv_abs a (gcdI a b)
  have h2 := tdiv_abs b (gcdI a b)
  unfold prim
  simp only
  omega

theorem prim_mul (a b : Int) : (prim a b).1 * gcdI a b = a ∧ (prim a b).2 * gcdI a b = b := by
  unfold prim gcdI
  exact ⟨Int.tdiv_mul_cancel (Int.gcd_dvd_left a b), Int.tdiv_mul_cancel (Int.gcd_dvd_right a b)⟩

theorem exists_mate {a b : Int} (ha : -1000000 ≤ a ∧ a ≤ 1000000) (hb : -1000000 ≤ b ∧ b ≤ 1000000) (hg : gcdI a b = 1) : ∃ m : Int × Int, IsMate a b m.1 m.2 := by
  obtain ⟨p, q, h, _⟩ := mate_ok (α := Int) 1000000001 (by omega) ha.1 ha.2 hb.1 hb.2 hg
  exact ⟨(p, q), h⟩

theorem mateI_ok {a b : Int} (ha : -1000000 ≤ a ∧ a ≤ 1000000) (hb : -1000000 ≤ b ∧ b ≤ 1000000) (hg : gcdI a b = 1) : IsMate a b (mateI a b).1 (mateI a b).2 := by
  obtain ⟨m, h⟩ := exists_mate ha hb hg
  rw [mateI_is h]
  exact h

theorem mateI_eq (k : Nat) (hk : 1000000000 < k) {a b : Int} (ha : -1000000 ≤ a ∧ a ≤ 1000000) (hb : -1000000 ≤ b ∧ b ≤ 1000000) (hg : gcdI a b = 1) :
    (∀ r : Int → Int → Option α, spec_l01Base k a b r = r (mateI a b).1 (mateI a b).2) ∧ (∀ r : Int → Int → Option α, impl_Point_mate k a b r = r (mateI a b).1 (mateI a b).2) := by
  obtain ⟨p, q, h, h1, h2⟩ := mate_ok (α := α) k hk ha.1 ha.2 hb.1 hb.2 hg
  rw [mateI_is h]
  exact ⟨h1, h2⟩

def detS (p0 p1 q0 q1 s0 s1 : Int) : Int := (q0 - p0) * (s1 - p1) - (q1 - p1) * (s0 - p0)

def absI (x : Int) : Int := max x (-x)

def shapeI (p0 p1 q0 q1 s0 s1 : Int) : Int × Int × Int :=
  (gcdI (q0 - p0) (q1 - p1),
   ((s0 - p0) * (mateI (prim (q0 - p0) (q1 - p1)).1 (prim (q0 - p0) (q1 - p1)).2).2 - (s1 - p1) * (mateI (prim (q0 - p0) (q1 - p1)).1 (prim (q0 - p0) (q1 - p1)).2).1) % (absI (detS p0 p1 q0 q1 s0 s1) / gcdI (q0 - p0) (q1 - p1)),
   absI (detS p0 p1 q0 q1 s0 s1) / gcdI (q0 - p0) (q1 - p1))

theorem shape_facts {p0 p1 q0 q1 s0 s1 : Int} (hp0 : inT p0) (hp1 : inT p1) (hq0 : inT q0) (hq1 : inT q1) (hs0 : inT s0) (hs1 : inT s1) (hne : detS p0 p1 q0 q1 s0 s1 ≠ 0) :
    (q0 - p0 ≠ 0 ∨ q1 - p1 ≠ 0) ∧ 1 ≤ gcdI (q0 - p0) (q1 - p1) ∧ gcdI (q0 - p0) (q1 - p1) ≤ 2000 ∧ gcdI (q0 - p0) (q1 - p1) ∣ absI (detS p0 p1 q0 q1 s0 s1) ∧ 1 ≤ absI (detS p0 p1 q0 q1 s0 s1) ∧ absI (detS p0 p1 q0 q1 s0 s1) ≤ 8000000 ∧ 1 ≤ absI (detS p0 p1 q0 q1 s0 s1) / gcdI (q0 - p0) (q1 - p1) ∧ absI (detS p0 p1 q0 q1 s0 s1) / gcdI (q0 - p0) (q1 - p1) ≤ 8000000 := by
  have h1 := hq0.sub2 hp0
  have h2 := hq1.sub2 hp1
  have h3 := hs0.sub2 hp0
  have h4 := hs1.sub2 hp1
  have m1 := mul_bound h1.1 h1.2 h4.1 h4.2
  have m2 := mul_bound h2.1 h2.2 h3.1 h3.2
  have hz : q0 - p0 ≠ 0 ∨ q1 - p1 ≠ 0 := by
    rcases Classical.em (q0 - p0 = 0) with e1 | e1
    · rcases Classical.em (q1 - p1 = 0) with e2 | e2
      · exact absurd (by unfold detS; rw [e1, e2]; simp) hne
      · exact .inr e2
    · exact .inl e1
  have hg := gcdI_pos hz
  have hgl := gcdI_le h1.1 h1.2 h2.1 h2.2
  have hd : gcdI (q0 - p0) (q1 - p1) ∣ detS p0 p1 q0 q1 s0 s1 := by
    unfold detS gcdI
    exact Int.dvd_sub (Int.dvd_trans (Int.gcd_dvd_left _ _) (Int.dvd_mul_right _ _)) (Int.dvd_trans (Int.gcd_dvd_right _ _) (Int.dvd_mul_right _ _))
  have hda : gcdI (q0 - p0) (q1 - p1) ∣ absI (detS p0 p1 q0 q1 s0 s1) := by
    unfold absI
    rcases (show max (detS p0 p1 q0 q1 s0 s1) (-detS p0 p1 q0 q1 s0 s1) = detS p0 p1 q0 q1 s0 s1 ∨ max (detS p0 p1 q0 q1 s0 s1) (-detS p0 p1 q0 q1 s0 s1) = -detS p0 p1 q0 q1 s0 s1 by omega) with e | e
    · rw [e]; exact hd
    · rw [e]; exact (Int.dvd_neg).2 hd
  have ha : 1 ≤ absI (detS p0 p1 q0 q1 s0 s1) ∧ absI (detS p0 p1 q0 q1 s0 s1) ≤ 8000000 := by
    unfold absI
    unfold detS at *
    omega
  refine ⟨hz, hg, by omega, hda, ha.1, ha.2, ?_, ?_⟩
  · have := Int.le_of_dvd (by omega) hda
    rw [Int.le_ediv_iff_mul_le hg]
    omega
  · have := Int.ediv_le_self (gcdI (q0 - p0) (q1 - p1)) (show 0 ≤ absI (detS p0 p1 q0 q1 s0 s1) by omega)
    omega

theorem shape_both (k : Nat) (hk : 1000000000 < k) {a b c d e f p0 p1 q0 q1 s0 s1 : Int} (h : InT6 a b c d e f) (hp0 : inT p0) (hp1 : inT p1) (hq0 : inT q0) (hq1 : inT q1) (hs0 : inT s0) (hs1 : inT s1) (hne : detS p0 p1 q0 q1 s0 s1 ≠ 0) (hA : absI (detS a b c d e f) = absI (detS p0 p1 q0 q1 s0 s1)) :
    (∀ r : Int → Int → Int → Option α, shS k a b c d e f p0 p1 q0 q1 s0 s1 r = r (shapeI p0 p1 q0 q1 s0 s1).1 (shapeI p0 p1 q0 q1 s0 s1).2.1 (shapeI p0 p1 q0 q1 s0 s1).2.2) ∧
    (∀ r : Int → Int → Int → Option α, shI k a b c d e f p0 p1 q0 q1 s0 s1 r = r (shapeI p0 p1 q0 q1 s0 s1).1 (shapeI p0 p1 q0 q1 s0 s1).2.1 (shapeI p0 p1 q0 q1 s0 s1).2.2) := by
  obtain ⟨hz, g1, g2, gd, a1, a2, z1, z2⟩ := shape_facts hp0 hp1 hq0 hq1 hs0 hs1 hne
  have h1 := hq0.sub2 hp0
  have h2 := hq1.sub2 hp1
  have h3 := hs0.sub2 hp0
  have h4 := hs1.sub2 hp1
  have hpl := prim_le h1 h2
  have hm := mateI_ok (a := (prim (q0 - p0) (q1 - p1)).1) (b := (prim (q0 - p0) (q1 - p1)).2) (by omega) (by omega) (gcd_prim hz)
  have he := mateI_eq (α := α) k hk (a := (prim (q0 - p0) (q1 - p1)).1) (b := (prim (q0 - p0) (q1 - p1)).2) (by omega) (by omega) (gcd_prim hz)
  have hpb := hm.pb
  have hqb := hm.qb
  have hA1 : max ((c - a) * (f - b) - (d - b) * (e - a)) (-((c - a) * (f - b) - (d - b) * (e - a))) = absI (detS p0 p1 q0 q1 s0 s1) := hA
  have htd : Int.tdiv (absI (detS p0 p1 q0 q1 s0 s1)) (gcdI (q0 - p0) (q1 - p1)) = absI (detS p0 p1 q0 q1 s0 s1) / gcdI (q0 - p0) (q1 - p1) := Int.tdiv_eq_ediv_of_nonneg (by omega)
  have hsh : shapeI p0 p1 q0 q1 s0 s1 = (gcdI (q0 - p0) (q1 - p1), ((s0 - p0) * (mateI (prim (q0 - p0) (q1 - p1)).1 (prim (q0 - p0) (q1 - p1)).2).2 - (s1 - p1) * (mateI (prim (q0 - p0) (q1 - p1)).1 (prim (q0 - p0) (q1 - p1)).2).1) % (absI (detS p0 p1 q0 q1 s0 s1) / gcdI (q0 - p0) (q1 - p1)), absI (detS p0 p1 q0 q1 s0 s1) / gcdI (q0 - p0) (q1 - p1)) := rfl
  rw [hsh]
  simp only
  have hp1' := fun r => spec_l01Part_eq (α := α) k (q0 - p0) (q1 - p1) r (by omega) (by omega) (by omega) (by omega) hk hz
  have hp2' := fun r => impl_primitive_eq (α := α) k (q0 - p0) (q1 - p1) r (by omega) (by omega) (by omega) (by omega) hk hz
  generalize (prim (q0 - p0) (q1 - p1)).1 = u at *
  generalize (prim (q0 - p0) (q1 - p1)).2 = v at *
  generalize (mateI u v).1 = x at *
  generalize (mateI u v).2 = y at *
  generalize absI (detS p0 p1 q0 q1 s0 s1) = A at *
  generalize A / gcdI (q0 - p0) (q1 - p1) = H at *
  have m1 := mul_bound h3.1 h3.2 hqb.1 hqb.2
  have m2 := mul_bound h4.1 h4.2 hpb.1 hpb.2
  have g0 : decide (gcdI (q0 - p0) (q1 - p1) = 0) = false := decide_eq_false (by omega)
  constructor
  · intro r
    unfold shS
    rw [spec_less_eq k _ _ _ _ _ hq0.wide hq1.wide hp0.wide hp1.wide, spec_less_eq k _ _ _ _ _ hs0.wide hs1.wide hp0.wide hp1.wide, hp1', spec_length_eq k hk hp0 hp1 hq0 hq1]
    have ea : ∀ r0 : Int → Option α, spec_l04Area k a b c d e f r0 = spec_l01Area k a b c d e f r0 := fun _ => rfl
    rw [ea, spec_area_eq k h.a h.b h.c h.d h.e h.f, hA1, g0, cond_false, he.1, htd, w64_of (n := H) (by omega) (by omega)]
    simp only [spec_l01Det]
    rw [w64_of (n := (s0 - p0) * y) (by omega) (by omega), w64_of (n := (s1 - p1) * x) (by omega) (by omega), w64_of (by omega) (by omega), spec_l01Rest_eq k H _ _ (by omega) (by omega)]
  · intro r
    unfold shI
    rw [impl_less_eq k _ _ _ _ _ hq0.wide hq1.wide hp0.wide hp1.wide, impl_less_eq k _ _ _ _ _ hs0.wide hs1.wide hp0.wide hp1.wide, impl_length_eq k hk h1 h2]
    have ea : ∀ r0 : Int → Option α, impl_Triangle_area k a b c d e f r0 = impl_area k a b c d e f r0 := fun _ => rfl
    rw [ea, impl_area_eq k h.a h.b h.c h.d h.e h.f, hA1, g0, cond_false, hp2', he.2, htd, w64_of (n := H) (by omega) (by omega)]
    simp only [impl_det]
    rw [w64_of (n := (s0 - p0) * y) (by omega) (by omega), w64_of (n := (s1 - p1) * x) (by omega) (by omega), w64_of (by omega) (by omega), impl_mod_eq k _ H _ (by omega) (by omega) (by omega) (by omega)]

/-- The points of a triangle in the order i, j, and the third. -/
def shapeT (a b c d e f : Int) : Int → Int → Int × Int × Int
  | 0, 1 => shapeI a b c d e f
  | 0, 2 => shapeI a b e f c d
  | 1, 0 => shapeI c d a b e f
  | 1, 2 => shapeI c d e f a b
  | 2, 0 => shapeI e f a b c d
  | 2, 1 => shapeI e f c d a b
  | _, _ => (0, 0, 0)

theorem shapes_eq (k : Nat) (hk : 1000000000 < k) {a b c d e f : Int} (h : IsT a b c d e f) {i j : Int} (hi : 0 ≤ i ∧ i ≤ 2) (hj : 0 ≤ j ∧ j ≤ 2) (hij : i ≠ j) :
    (∀ r : Int → Int → Int → Option α, spec_l04Shape k a b c d e f i j r = r (shapeT a b c d e f i j).1 (shapeT a b c d e f i j).2.1 (shapeT a b c d e f i j).2.2) ∧
    (∀ r : Int → Int → Int → Option α, impl_Triangle_shape k a b c d e f i j r = r (shapeT a b c d e f i j).1 (shapeT a b c d e f i j).2.1 (shapeT a b c d e f i j).2.2) := by
  have h6 : InT6 a b c d e f := ⟨h.a, h.b, h.c, h.d, h.e, h.f⟩
  have hne : detS a b c d e f ≠ 0 := h.ne
  have e02 : detS a b e f c d = -detS a b c d e f := by unfold detS; grind
  have e10 : detS c d a b e f = -detS a b c d e f := by unfold detS; grind
  have e12 : detS c d e f a b = detS a b c d e f := by unfold detS; grind
  have e20 : detS e f a b c d = detS a b c d e f := by unfold detS; grind
  have e21 : detS e f c d a b = -detS a b c d e f := by unfold detS; grind
  have ea : absI (-detS a b c d e f) = absI (detS a b c d e f) := by unfold absI; omega
  have t01 := shape_both (α := α) k hk h6 h.a h.b h.c h.d h.e h.f hne rfl
  have t02 := shape_both (α := α) k hk h6 h.a h.b h.e h.f h.c h.d (by omega) (by rw [e02, ea])
  have t10 := shape_both (α := α) k hk h6 h.c h.d h.a h.b h.e h.f (by omega) (by rw [e10, ea])
  have t12 := shape_both (α := α) k hk h6 h.c h.d h.e h.f h.a h.b (by omega) (by rw [e12])
  have t20 := shape_both (α := α) k hk h6 h.e h.f h.a h.b h.c h.d (by omega) (by rw [e20])
  have t21 := shape_both (α := α) k hk h6 h.e h.f h.c h.d h.a h.b (by omega) (by rw [e21, ea])
  rcases (show (i = 0 ∧ j = 1) ∨ (i = 0 ∧ j = 2) ∨ (i = 1 ∧ j = 0) ∨ (i = 1 ∧ j = 2) ∨ (i = 2 ∧ j = 0) ∨ (i = 2 ∧ j = 1) by omega) with ⟨rfl, rfl⟩ | ⟨rfl, rfl⟩ | ⟨rfl, rfl⟩ | ⟨rfl, rfl⟩ | ⟨rfl, rfl⟩ | ⟨rfl, rfl⟩
  · exact ⟨fun r => (shS01 k a b c d e f r).trans (t01.1 r), fun r => (shI01 k a b c d e f r).trans (t01.2 r)⟩
  · exact ⟨fun r => (shS02 k a b c d e f r).trans (t02.1 r), fun r => (shI02 k a b c d e f r).trans (t02.2 r)⟩
  · exact ⟨fun r => (shS10 k a b c d e f r).trans (t10.1 r), fun r => (shI10 k a b c d e f r).trans (t10.2 r)⟩
  · exact ⟨fun r => (shS12 k a b c d e f r).trans (t12.1 r), fun r => (shI12 k a b c d e f r).trans (t12.2 r)⟩
  · exact ⟨fun r => (shS20 k a b c d e f r).trans (t20.1 r), fun r => (shI20 k a b c d e f r).trans (t20.2 r)⟩
  · exact ⟨fun r => (shS21 k a b c d e f r).trans (t21.1 r), fun r => (shI21 k a b c d e f r).trans (t21.2 r)⟩

def cmpI (x y : Int) : Int := if x < y then -1 else if y < x then 1 else 0

theorem cmp_Compare_eq (k : Nat) (x y : Int) (r : Int → Option α) : cmp_Compare_int64 k x y r = r (cmpI x y) := by
  simp only [cmp_Compare_int64, cmp_isNaN_int64, decide_true, Bool.not_true, cond_false]
  unfold cmpI
  by_cases h : x < y
  · simp [h]
  · by_cases h2 : y < x <;> simp [h, h2]

def or3 (a b c : Int) : Int := if a ≠ 0 then a else if b ≠ 0 then b else c

theorem cmp_Or3 (k : Nat) (hk : 4 ≤ k) (a b c : Int) (r : Int → Option α) : cmp_Or_int k [a, b, c] r = r (or3 a b c) := by
  obtain ⟨k, rfl⟩ : ∃ k', k = k' + 4 := ⟨k - 4, by omega⟩
  have w1 : w64 (0 + 1) = 1 := by decide
  have w2 : w64 (1 + 1) = 2 := by decide
  have w3 : w64 (2 + 1) = 3 := by decide
  unfold cmp_Or_int or3
  rw [cmp_Or_int_l3]
  simp only [List.length_cons, List.length_nil, w1]
  by_cases ha : a = 0
  · rw [cmp_Or_int_l3]
    simp only [List.length_cons, List.length_nil, w2]
    by_cases hb : b = 0
    · rw [cmp_Or_int_l3]
      simp only [List.length_cons, List.length_nil, w3]
      by_cases hc : c = 0
      · rw [cmp_Or_int_l3]
        simp [ha, hb, hc]
      · simp [ha, hb, hc]
    · simp [ha, hb]
  · simp [ha]

/-- Which shape comes ahead. -/
def bef (x y : Int × Int × Int) : Bool := bif !decide (x.1 = y.1) then decide (x.1 < y.1) else bif !decide (x.2.1 = y.2.1) then decide (x.2.1 < y.2.1) else decide (x.2.2 < y.2.2)

theorem spec_before_eq (k : Nat) (x1 x2 x3 y1 y2 y3 : Int) (r : Bool → Option α) : spec_l04Before k x1 x2 x3 y1 y2 y3 r = r (bef (x1, x2, x3) (y1, y2, y3)) := by
  simp only [spec_l04Before, bef]
  by_cases h1 : x1 = y1
  · by_cases h2 : x2 = y2 <;> simp [h1, h2]
  · simp [h1]

def ordS (x y : Int × Int × Int) : Int := or3 (cmpI x.1 y.1) (cmpI x.2.1 y.2.1) (cmpI x.2.2 y.2.2)

theorem impl_order_eq (k : Nat) (hk : 4 ≤ k) (x1 x2 x3 y1 y2 y3 : Int) (r : Int → Option α) : impl_shapeOrder k x1 x2 x3 y1 y2 y3 r = r (ordS (x1, x2, x3) (y1, y2, y3)) := by
  simp only [impl_shapeOrder, cmp_Compare_eq]
  rw [cmp_Or3 k hk]
  rfl

theorem ordS_bef (x y : Int × Int × Int) : decide (ordS x y < 0) = bef x y := by
  unfold ordS or3 cmpI bef
  by_cases h1 : x.1 < y.1
  · have : x.1 ≠ y.1 := by omega
    simp [h1, this]
  · by_cases h2 : y.1 < x.1
    · have : x.1 ≠ y.1 := by omega
      simp [h1, h2, this]
    · have e1 : x.1 = y.1 := by omega
      by_cases h3 : x.2.1 < y.2.1
      · have : x.2.1 ≠ y.2.1 := by omega
        simp [e1, h3, this]
      · by_cases h4 : y.2.1 < x.2.1
        · have : x.2.1 ≠ y.2.1 := by omega
          simp [e1, h3, h4, this]
        · have e2 : x.2.1 = y.2.1 := by omega
          by_cases h5 : x.2.2 < y.2.2
          · simp [e1, e2, h5]
          · by_cases h6 : y.2.2 < x.2.2 <;> simp [e1, e2, h5, h6]

def lessS (x out : Int × Int × Int) : Int × Int × Int := bif bef x out then x else out

/-- The normal shape of a triangle. -/
def normS (a b c d e f : Int) : Int × Int × Int :=
  lessS (shapeT a b c d e f 2 1) (lessS (shapeT a b c d e f 2 0) (lessS (shapeT a b c d e f 1 2) (lessS (shapeT a b c d e f 1 0) (lessS (shapeT a b c d e f 0 2) (lessS (shapeT a b c d e f 0 1) (shapeT a b c d e f 0 1))))))

theorem spec_round0 (k : Nat) (hk : 1000000000 < k) {a b c d e f : Int} (h : IsT a b c d e f) (x x1 x2 o1 o2 o3 : Int) (b0) (r0 : Int → Int → Int → Option α) :
    spec_l04Normal_l3 (k + 1) 0 a b c d e f x x1 x2 o1 o2 o3 b0 r0 = spec_l04Normal_l3 k 1 a b c d e f x x1 x2 (lessS (shapeT a b c d e f 0 2) (lessS (shapeT a b c d e f 0 1) (o1, o2, o3))).1 (lessS (shapeT a b c d e f 0 2) (lessS (shapeT a b c d e f 0 1) (o1, o2, o3))).2.1 (lessS (shapeT a b c d e f 0 2) (lessS (shapeT a b c d e f 0 1) (o1, o2, o3))).2.2 b0 r0 := by
  have w : w64 (0 + 1) = 1 := by decide
  have ta := (shapes_eq (α := α) k hk h (i := 0) (j := 1) (by omega) (by omega) (by omega)).1
  have tb := (shapes_eq (α := α) k hk h (i := 0) (j := 2) (by omega) (by omega) (by omega)).1
  rw [spec_l04Normal_l3]
  simp only [show decide ((0 : Int) < 3) = true from rfl, show decide ((0 : Int) = 0) = true from rfl, show decide ((0 : Int) = 1) = false from rfl, show decide ((0 : Int) = 2) = false from rfl, Bool.not_true, Bool.not_false, cond_true, cond_false, ta, tb, w, spec_before_eq]
  generalize shapeT a b c d e f 0 1 = za
  generalize shapeT a b c d e f 0 2 = zb
  unfold lessS
  cases h1 : bef za (o1, o2, o3) with
  | true => cases h2 : bef zb za <;> simp [h1, h2]
  | false => cases h2 : bef zb (o1, o2, o3) <;> simp [h1, h2]

theorem spec_round1 (k : Nat) (hk : 1000000000 < k) {a b c d e f : Int} (h : IsT a b c d e f) (x x1 x2 o1 o2 o3 : Int) (b0) (r0 : Int → Int → Int → Option α) :
    spec_l04Normal_l3 (k + 1) 1 a b c d e f x x1 x2 o1 o2 o3 b0 r0 = spec_l04Normal_l3 k 2 a b c d e f x x1 x2 (lessS (shapeT a b c d e f 1 2) (lessS (shapeT a b c d e f 1 0) (o1, o2, o3))).1 (lessS (shapeT a b c d e f 1 2) (lessS (shapeT a b c d e f 1 0) (o1, o2, o3))).2.1 (lessS (shapeT a b c d e f 1 2) (lessS (shapeT a b c d e f 1 0) (o1, o2, o3))).2.2 b0 r0 := by
  have w : w64 (1 + 1) = 2 := by decide
  have ta := (shapes_eq (α := α) k hk h (i := 1) (j := 0) (by omega) (by omega) (by omega)).1
  have tb := (shapes_eq (α := α) k hk h (i := 1) (j := 2) (by omega) (by omega) (by omega)).1
  rw [spec_l04Normal_l3]
  simp only [show decide ((1 : Int) < 3) = true from rfl, show decide ((1 : Int) = 0) = false from rfl, show decide ((1 : Int) = 1) = true from rfl, show decide ((1 : Int) = 2) = false from rfl, Bool.not_true, Bool.not_false, cond_true, cond_false, ta, tb, w, spec_before_eq]
  generalize shapeT a b c d e f 1 0 = za
  generalize shapeT a b c d e f 1 2 = zb
  unfold lessS
  cases h1 : bef za (o1, o2, o3) with
  | true => cases h2 : bef zb za <;> simp [h1, h2]
  | false => cases h2 : bef zb (o1, o2, o3) <;> simp [h1, h2]

theorem spec_round2 (k : Nat) (hk : 1000000000 < k) {a b c d e f : Int} (h : IsT a b c d e f) (x x1 x2 o1 o2 o3 : Int) (b0) (r0 : Int → Int → Int → Option α) :
    spec_l04Normal_l3 (k + 1) 2 a b c d e f x x1 x2 o1 o2 o3 b0 r0 = spec_l04Normal_l3 k 3 a b c d e f x x1 x2 (lessS (shapeT a b c d e f 2 1) (lessS (shapeT a b c d e f 2 0) (o1, o2, o3))).1 (lessS (shapeT a b c d e f 2 1) (lessS (shapeT a b c d e f 2 0) (o1, o2, o3))).2.1 (lessS (shapeT a b c d e f 2 1) (lessS (shapeT a b c d e f 2 0) (o1, o2, o3))).2.2 b0 r0 := by
  have w : w64 (2 + 1) = 3 := by decide
  have ta := (shapes_eq (α := α) k hk h (i := 2) (j := 0) (by omega) (by omega) (by omega)).1
  have tb := (shapes_eq (α := α) k hk h (i := 2) (j := 1) (by omega) (by omega) (by omega)).1
  rw [spec_l04Normal_l3]
  simp only [show decide ((2 : Int) < 3) = true from rfl, show decide ((2 : Int) = 0) = false from rfl, show decide ((2 : Int) = 1) = false from rfl, show decide ((2 : Int) = 2) = true from rfl, Bool.not_true, Bool.not_false, cond_true, cond_false, ta, tb, w, spec_before_eq]
  generalize shapeT a b c d e f 2 0 = za
  generalize shapeT a b c d e f 2 1 = zb
  unfold lessS
  cases h1 : bef za (o1, o2, o3) with
  | true => cases h2 : bef zb za <;> simp [h1, h2]
  | false => cases h2 : bef zb (o1, o2, o3) <;> simp [h1, h2]

theorem impl_round0 (k : Nat) (hk : 1000000000 < k) {a b c d e f : Int} (h : IsT a b c d e f) (x x1 x2 o1 o2 o3 : Int) (b0) (r0 : Int → Int → Int → Option α) :
    impl_Triangle_normal_l3 (k + 1) 0 a b c d e f x x1 x2 o1 o2 o3 b0 r0 = impl_Triangle_normal_l3 k 1 a b c d e f x x1 x2 (lessS (shapeT a b c d e f 0 2) (lessS (shapeT a b c d e f 0 1) (o1, o2, o3))).1 (lessS (shapeT a b c d e f 0 2) (lessS (shapeT a b c d e f 0 1) (o1, o2, o3))).2.1 (lessS (shapeT a b c d e f 0 2) (lessS (shapeT a b c d e f 0 1) (o1, o2, o3))).2.2 b0 r0 := by
  have w : w64 (0 + 1) = 1 := by decide
  have ta := (shapes_eq (α := α) k hk h (i := 0) (j := 1) (by omega) (by omega) (by omega)).2
  have tb := (shapes_eq (α := α) k hk h (i := 0) (j := 2) (by omega) (by omega) (by omega)).2
  rw [impl_Triangle_normal_l3]
  simp only [show decide ((0 : Int) < 3) = true from rfl, show decide ((0 : Int) = 0) = true from rfl, show decide ((0 : Int) = 1) = false from rfl, show decide ((0 : Int) = 2) = false from rfl, Bool.not_true, Bool.not_false, cond_true, cond_false, ta, tb, w, impl_order_eq k (by omega), ordS_bef]
  generalize shapeT a b c d e f 0 1 = za
  generalize shapeT a b c d e f 0 2 = zb
  unfold lessS
  cases h1 : bef za (o1, o2, o3) with
  | true => cases h2 : bef zb za <;> simp [h1, h2]
  | false => cases h2 : bef zb (o1, o2, o3) <;> simp [h1, h2]

theorem impl_round1 (k : Nat) (hk : 1000000000 < k) {a b c d e f : Int} (h : IsT a b c d e f) (x x1 x2 o1 o2 o3 : Int) (b0) (r0 : Int → Int → Int → Option α) :
    impl_Triangle_normal_l3 (k + 1) 1 a b c d e f x x1 x2 o1 o2 o3 b0 r0 = impl_Triangle_normal_l3 k 2 a b c d e f x x1 x2 (lessS (shapeT a b c d e f 1 2) (lessS (shapeT a b c d e f 1 0) (o1, o2, o3))).1 (lessS (shapeT a b c d e f 1 2) (lessS (shapeT a b c d e f 1 0) (o1, o2, o3))).2.1 (lessS (shapeT a b c d e f 1 2) (lessS (shapeT a b c d e f 1 0) (o1, o2, o3))).2.2 b0 r0 := by
  have w : w64 (1 + 1) = 2 := by decide
  have ta := (shapes_eq (α := α) k hk h (i := 1) (j := 0) (by omega) (by omega) (by omega)).2
  have tb := (shapes_eq (α := α) k hk h (i := 1) (j := 2) (by omega) (by omega) (by omega)).2
  rw [impl_Triangle_normal_l3]
  simp only [show decide ((1 : Int) < 3) = true from rfl, show decide ((1 : Int) = 0) = false from rfl, show decide ((1 : Int) = 1) = true from rfl, show decide ((1 : Int) = 2) = false from rfl, Bool.not_true, Bool.not_false, cond_true, cond_false, ta, tb, w, impl_order_eq k (by omega), ordS_bef]
  generalize shapeT a b c d e f 1 0 = za
  generalize shapeT a b c d e f 1 2 = zb
  unfold lessS
  cases h1 : bef za (o1, o2, o3) with
  | true => cases h2 : bef zb za <;> simp [h1, h2]
  | false => cases h2 : bef zb (o1, o2, o3) <;> simp [h1, h2]

theorem impl_round2 (k : Nat) (hk : 1000000000 < k) {a b c d e f : Int} (h : IsT a b c d e f) (x x1 x2 o1 o2 o3 : Int) (b0) (r0 : Int → Int → Int → Option α) :
    impl_Triangle_normal_l3 (k + 1) 2 a b c d e f x x1 x2 o1 o2 o3 b0 r0 = impl_Triangle_normal_l3 k 3 a b c d e f x x1 x2 (lessS (shapeT a b c d e f 2 1) (lessS (shapeT a b c d e f 2 0) (o1, o2, o3))).1 (lessS (shapeT a b c d e f 2 1) (lessS (shapeT a b c d e f 2 0) (o1, o2, o3))).2.1 (lessS (shapeT a b c d e f 2 1) (lessS (shapeT a b c d e f 2 0) (o1, o2, o3))).2.2 b0 r0 := by
  have w : w64 (2 + 1) = 3 := by decide
  have ta := (shapes_eq (α := α) k hk h (i := 2) (j := 0) (by omega) (by omega) (by omega)).2
  have tb := (shapes_eq (α := α) k hk h (i := 2) (j := 1) (by omega) (by omega) (by omega)).2
  rw [impl_Triangle_normal_l3]
  simp only [show decide ((2 : Int) < 3) = true from rfl, show decide ((2 : Int) = 0) = false from rfl, show decide ((2 : Int) = 1) = false from rfl, show decide ((2 : Int) = 2) = true from rfl, Bool.not_true, Bool.not_false, cond_true, cond_false, ta, tb, w, impl_order_eq k (by omega), ordS_bef]
  generalize shapeT a b c d e f 2 0 = za
  generalize shapeT a b c d e f 2 1 = zb
  unfold lessS
  cases h1 : bef za (o1, o2, o3) with
  | true => cases h2 : bef zb za <;> simp [h1, h2]
  | false => cases h2 : bef zb (o1, o2, o3) <;> simp [h1, h2]

theorem normal_eq (k : Nat) (hk : 1000000100 < k) {a b c d e f : Int} (h : IsT a b c d e f) :
    (∀ r : Int → Int → Int → Option α, spec_l04Normal k a b c d e f r = r (normS a b c d e f).1 (normS a b c d e f).2.1 (normS a b c d e f).2.2) ∧
    (∀ r : Int → Int → Int → Option α, impl_Triangle_normal k a b c d e f r = r (normS a b c d e f).1 (normS a b c d e f).2.1 (normS a b c d e f).2.2) := by
  obtain ⟨k, rfl⟩ : ∃ k', k = k' + 1 + 1 + 1 + 1 := ⟨k - 4, by omega⟩
  have t := shapes_eq (α := α) (k + 1 + 1 + 1 + 1) (by omega) h (i := 0) (j := 1) (by omega) (by omega) (by omega)
  constructor
  · intro r
    unfold spec_l04Normal
    rw [t.1, spec_round0 (k + 1 + 1 + 1) (by omega) h, spec_round1 (k + 1 + 1) (by omega) h, spec_round2 (k + 1) (by omega) h, spec_l04Normal_l3]
    rfl
  · intro r
    unfold impl_Triangle_normal
    rw [t.2, impl_round0 (k + 1 + 1 + 1) (by omega) h, impl_round1 (k + 1 + 1) (by omega) h, impl_round2 (k + 1) (by omega) h, impl_Triangle_normal_l3]
    rfl

/-- A code. -/
structure IsCode (l : List Int) : Prop where
  len : l.length ≤ 4096
  byte : ∀ x ∈ l, 0 ≤ x ∧ x ≤ 255

/-- How far a code is read. -/
def AtC (l : List Int) (a : Int) : Prop := 0 ≤ a ∧ a ≤ l.length

theorem mask_b (h : Int) : 0 ≤ w64 (IntKind.wrap .u64 ((BitVec.ofInt 64 h &&& BitVec.ofInt 64 1073741823).toNat : Nat)) ∧ w64 (IntKind.wrap .u64 ((BitVec.ofInt 64 h &&& BitVec.ofInt 64 1073741823).toNat : Nat)) ≤ 1073741823 := by
  have h1 : (BitVec.ofInt 64 h &&& BitVec.ofInt 64 1073741823).toNat ≤ 1073741823 := by
    rw [BitVec.toNat_and]
    exact Nat.le_trans Nat.and_le_right (by decide)
  rw [IntWalk.u64_in _ (by omega), w64_of (by omega) (by omega)]
  omega

/-- The next hash, and the number that it tells. -/
def lcg (h : Int) : Int := IntKind.wrap .u64 ((IntKind.wrap .u64 (h * 6364136223846793005)) + 1442695040888963407)

def lcgX (h : Int) : Int := w64 (IntKind.wrap .u64 ((BitVec.ofInt 64 (Int.fdiv (lcg h) (2 ^ 31)) &&& BitVec.ofInt 64 1073741823).toNat : Nat))

theorem lcgX_b (h : Int) : 0 ≤ lcgX h ∧ lcgX h ≤ 1073741823 := mask_b _

theorem next_eq (l : List Int) (a : Int) (k : Nat) (h n : Int) (r : Int → Int → Int → Option α) : spec_l01Next k l a h n r = bif decide (n < 1) then r 0 a h else bif decide (a < (l.length : Nat)) then (bif decide (0 ≤ a) && decide (a < (l.length : Nat)) then (l[a.toNat]?).bind fun e => bif decide (n = 0) then none else r (Int.tmod (w64 (lcgX h + w64 e)) n) (w64 (a + 1)) (lcg h) else none) else bif decide (n = 0) then none else r (Int.tmod (lcgX h) n) a (lcg h) := rfl

theorem next_ok {l : List Int} (hl : IsCode l) {a : Int} (ha : AtC l a) (k : Nat) (h n : Int) : ∃ v a' h', AtC l a' ∧ 0 ≤ v ∧ (v < n ∨ (n < 1 ∧ v = 0)) ∧ ∀ r : Int → Int → Int → Option α, spec_l01Next k l a h n r = r v a' h' := by
  have hlen := hl.len
  unfold AtC at ha
  by_cases h1 : n < 1
  · exact ⟨0, a, h, ha, by omega, .inr ⟨h1, rfl⟩, fun r => by rw [next_eq, dec_lt_t h1, cond_true]⟩
  · have hz : decide (n = 0) = false := decide_eq_false (by omega)
    have h1' : decide (n < 1) = false := decide_eq_false h1
    obtain ⟨m1, m2⟩ := lcgX_b h
    by_cases h2 : a < l.length
    · have hlt : a.toNat < l.length := by omega
      have hb := hl.byte l[a.toNat] (List.getElem_mem hlt)
      refine ⟨Int.tmod (lcgX h + l[a.toNat]) n, a + 1, lcg h, by unfold AtC; omega, Int.tmod_nonneg _ (by omega), .inl (Int.tmod_lt_of_pos _ (by omega)), fun r => ?_⟩
      rw [next_eq, h1', cond_false, dec_lt_t h2, cond_true, dec_le_t ha.1, Bool.and_true, cond_true, List.getElem?_eq_getElem hlt, Option.bind_some, hz, cond_false, w64_of (n := a + 1) (by omega) (by omega), w64_of (n := l[a.toNat]) (by omega) (by omega), w64_of (n := lcgX h + l[a.toNat]) (by omega) (by omega)]
    · refine ⟨Int.tmod (lcgX h) n, a, lcg h, ha, Int.tmod_nonneg _ (by omega), .inl (Int.tmod_lt_of_pos _ (by omega)), fun r => ?_⟩
      rw [next_eq, h1', cond_false, dec_lt_f (by omega), cond_false, hz, cond_false]

theorem from_l3 {l : List Int} (hl : IsCode l) : ∀ (m k i : Nat) (s h : Int) (r : Int → Int → Option α), i + m = l.length → m < k → ∃ h', ∀ (r : Int → Int → Option α), spec_l01From_l3 k i l s h (fun _ _ s1 s2 => r s1 s2) r = r s h'
  | 0, k + 1, i, s, h, r, hi, _ => ⟨h, fun r => by
    rw [spec_l01From_l3, dec_lt_f (by omega), cond_false]⟩
  | m + 1, k + 1, i, s, h, r, hi, hk => by
    have hlen := hl.len
    have en : w64 ((i : Int) + 1) = ((i + 1 : Nat) : Int) := by rw [w64_of (by omega) (by omega)]; omega
    have hlt : i < l.length := by omega
    obtain ⟨h', ih⟩ := from_l3 hl m k (i + 1) s (IntKind.wrap .u64 ((IntKind.wrap .u64 ((IntKind.wrap .u64 (h * 1099511628211)) + (IntKind.wrap .u64 l[i]))) + 107)) r (by omega) (by omega)
    refine ⟨h', fun r => ?_⟩
    rw [spec_l01From_l3, dec_lt_t (by omega), cond_true, dec_lt_t (by omega), cond_true, dec_le_t (by omega), Bool.and_true, cond_true, Int.toNat_natCast, List.getElem?_eq_getElem hlt, Option.bind_some, en]
    exact ih r
  | _, 0, _, _, _, _, _, hk => by omega

theorem from_ok {l : List Int} (hl : IsCode l) (k : Nat) (hk : 4096 < k) : ∃ h, AtC l 0 ∧ ∀ r : Int → Int → Option α, spec_l01From k l r = r 0 h := by
  have hlen := hl.len
  obtain ⟨h', e⟩ := from_l3 (α := α) hl l.length k 0 0 (IntKind.wrap .u64 (12971 + (IntKind.wrap .u64 (((List.length l) : Nat) : Int)))) (fun _ _ => none) (by omega) (by omega)
  exact ⟨h', ⟨by omega, by omega⟩, fun r => e r⟩

theorem pick_ok {l : List Int} (hl : IsCode l) {a : Int} (ha : AtC l a) (k : Nat) (h : Int) {list : List Int} (h0 : 0 < list.length) (h1 : list.length ≤ 1000) : ∃ v a' h', AtC l a' ∧ v ∈ list ∧ ∀ r : Int → Int → Int → Option α, spec_l01Pick k l a h list r = r v a' h' := by
  obtain ⟨v, a', h', i1, i2, i3, i4⟩ := next_ok (α := α) hl ha k h (list.length : Int)
  have hv : v < list.length := by omega
  have hlt : v.toNat < list.length := by omega
  refine ⟨list[v.toNat], a', h', i1, List.getElem_mem hlt, fun r => ?_⟩
  unfold spec_l01Pick
  rw [i4, dec_le_t i2, dec_lt_t hv, Bool.and_true, cond_true, List.getElem?_eq_getElem hlt, Option.bind_some]

theorem near_ok {l : List Int} (hl : IsCode l) {a : Int} (ha : AtC l a) (k : Nat) (h : Int) {most : Int} (h0 : 0 ≤ most) (h1 : most ≤ 1000000000) : ∃ v a' h', AtC l a' ∧ -4611686018427387904 ≤ v ∧ v ≤ 1099511627776 ∧ ∀ r : Int → Int → Int → Option α, spec_l01Near k l a h most r = r v a' h' := by
  have w : w64 (most + 1) = most + 1 := w64_of (by omega) (by omega)
  obtain ⟨v, a1, h1', i1, i2, i3, i4⟩ := next_ok (α := α) hl ha k h 14
  by_cases hv : v = 0
  · obtain ⟨u, a2, h2, j1, j2, j3⟩ := pick_ok (α := α) hl i1 k h1' (list := [(-1), (w64 (most + 1)), 1099511627776, (-4611686018427387904)]) (by simp) (by simp)
    refine ⟨u, a2, h2, j1, ?_, ?_, fun r => ?_⟩
    · simp only [List.mem_cons, List.not_mem_nil, or_false] at j2; omega
    · simp only [List.mem_cons, List.not_mem_nil, or_false] at j2; omega
    · unfold spec_l01Near
      rw [i4, decide_eq_true hv, cond_true, j3]
  · obtain ⟨u, a2, h2, j1, j2, j3, j4⟩ := next_ok (α := α) hl i1 k h1' (w64 (most + 1))
    refine ⟨u, a2, h2, j1, by omega, by omega, fun r => ?_⟩
    unfold spec_l01Near
    rw [i4, decide_eq_false hv, cond_false, j4]

theorem point_ok {l : List Int} (hl : IsCode l) {a : Int} (ha : AtC l a) (k : Nat) (h : Int) {most : Int} (h0 : 0 ≤ most) (h1 : most ≤ 1000000000) : ∃ x y a' h', AtC l a' ∧ (-most ≤ x ∧ x ≤ most) ∧ (-most ≤ y ∧ y ≤ most) ∧ ∀ r : Int → Int → Int → Int → Option α, spec_l01DrawPoint k l a h most r = r x y a' h' := by
  have w : w64 ((w64 (2 * most)) + 1) = 2 * most + 1 := by rw [w64_of (n := 2 * most) (by omega) (by omega), w64_of (by omega) (by omega)]
  obtain ⟨v, a1, h1', i1, i2, i3, i4⟩ := next_ok (α := α) hl ha k h (w64 ((w64 (2 * most)) + 1))
  obtain ⟨u, a2, h2', j1, j2, j3, j4⟩ := next_ok (α := α) hl i1 k h1' (w64 ((w64 (2 * most)) + 1))
  refine ⟨v - most, u - most, a2, h2', j1, by omega, by omega, fun r => ?_⟩
  unfold spec_l01DrawPoint
  rw [i4, j4, w64_of (n := v - most) (by omega) (by omega), w64_of (n := u - most) (by omega) (by omega)]

theorem unit_l3 {l : List Int} (hl : IsCode l) (x x1 x2 x3 : Int) : ∀ (m k : Nat) (n a h o0 o1 o2 o3 : Int), AtC l a → n ≤ m → m ≤ 1000 → m < k → ∃ p q u v a' h', AtC l a' ∧ ∀ r : Int → Int → Int → Int → Int → Int → Option α,
    spec_l01DrawUnit_l3 k n a h x x1 x2 x3 o0 o1 o2 o3 l (fun _ s5 s6 _ _ _ _ q0 q1 q2 q3 _ => r q0 q1 q2 q3 s5 s6) r = r p q u v a' h'
  | 0, k + 1, n, a, h, o0, o1, o2, o3, ha, hn, _, _ => ⟨o0, o1, o2, o3, a, h, ha, fun r => by
    rw [spec_l01DrawUnit_l3, dec_lt_f (by omega), cond_false]⟩
  | m + 1, k + 1, n, a, h, o0, o1, o2, o3, ha, hn, hm, hk => by
    by_cases hpos : 0 < n
    · obtain ⟨v, a1, h1, i1, v1, v2, e1⟩ := next_ok (α := α) hl ha k h 7
      obtain ⟨u, a2, h2, i2, u1, u2, e2⟩ := next_ok (α := α) hl i1 k h1 3
      have hw : w64 (n - 1) = n - 1 := w64_of (by omega) (by omega)
      by_cases hu : u = 0
      · obtain ⟨p, q, s, t, a', h', i', e'⟩ := unit_l3 hl x x1 x2 x3 m k (n - 1) a2 h2 (w64 ((w64 (o0 * 1)) + (w64 (o1 * 0)))) (w64 ((w64 (o0 * (w64 (v - 3)))) + (w64 (o1 * 1)))) (w64 ((w64 (o2 * 1)) + (w64 (o3 * 0)))) (w64 ((w64 (o2 * (w64 (v - 3)))) + (w64 (o3 * 1)))) i2 (by omega) (by omega) (by omega)
        refine ⟨p, q, s, t, a', h', i', fun r => ?_⟩
        rw [spec_l01DrawUnit_l3, dec_lt_t hpos, cond_true, e1, e2, decide_eq_true hu, cond_true, hw]
        exact e' r
      · by_cases hu1 : u = 1
        · obtain ⟨p, q, s, t, a', h', i', e'⟩ := unit_l3 hl x x1 x2 x3 m k (n - 1) a2 h2 (w64 ((w64 (o0 * 1)) + (w64 (o1 * (w64 (v - 3)))))) (w64 ((w64 (o0 * 0)) + (w64 (o1 * 1)))) (w64 ((w64 (o2 * 1)) + (w64 (o3 * (w64 (v - 3)))))) (w64 ((w64 (o2 * 0)) + (w64 (o3 * 1)))) i2 (by omega) (by omega) (by omega)
          refine ⟨p, q, s, t, a', h', i', fun r => ?_⟩
          rw [spec_l01DrawUnit_l3, dec_lt_t hpos, cond_true, e1, e2, decide_eq_false hu, cond_false, decide_eq_true hu1, cond_true, hw]
          exact e' r
        · obtain ⟨p, q, s, t, a', h', i', e'⟩ := unit_l3 hl x x1 x2 x3 m k (n - 1) a2 h2 (w64 ((w64 (o0 * 0)) + (w64 (o1 * 1)))) (w64 ((w64 (o0 * 1)) + (w64 (o1 * 0)))) (w64 ((w64 (o2 * 0)) + (w64 (o3 * 1)))) (w64 ((w64 (o2 * 1)) + (w64 (o3 * 0)))) i2 (by omega) (by omega) (by omega)
          refine ⟨p, q, s, t, a', h', i', fun r => ?_⟩
          rw [spec_l01DrawUnit_l3, dec_lt_t hpos, cond_true, e1, e2, decide_eq_false hu, cond_false, decide_eq_false hu1, cond_false, hw]
          exact e' r
    · exact ⟨o0, o1, o2, o3, a, h, ha, fun r => by rw [spec_l01DrawUnit_l3, dec_lt_f (by omega), cond_false]⟩
  | _, 0, _, _, _, _, _, _, _, _, _, _, hk => by omega

theorem unitM_ok {l : List Int} (hl : IsCode l) {a : Int} (ha : AtC l a) (k : Nat) (hk : 5 < k) (h : Int) : ∃ p q u v a' h', AtC l a' ∧ ∀ r : Int → Int → Int → Int → Int → Int → Option α, spec_l01DrawUnit k l a h r = r p q u v a' h' := by
  obtain ⟨n, a1, h1, i1, n1, n2, e1⟩ := next_ok (α := α) hl ha k h 5
  obtain ⟨p, q, u, v, a', h', i', e'⟩ := unit_l3 (α := α) hl 0 0 0 0 5 k n a1 h1 1 0 0 1 i1 (by omega) (by omega) hk
  refine ⟨p, q, u, v, a', h', i', fun r => ?_⟩
  unfold spec_l01DrawUnit
  rw [e1]
  exact e' r

theorem laws_big_eq (k : Nat) (l : List Int) (r : Bool → Option α) : laws_big k l r = r (decide (4096 < (((List.length l) : Nat) : Int))) := rfl

theorem gcdI_neg2 (a b : Int) : gcdI (-a) (-b) = gcdI a b := by unfold gcdI; rw [Int.gcd_neg, Int.neg_gcd]

theorem isT_eq (k : Nat) {a b c d e f : Int} (h : IsT a b c d e f) : (∀ r : Bool → Option α, spec_l04Is k a b c d e f r = r true) ∧ ∀ r : Bool → Option α, impl_IsTriangle k a b c d e f r = r true := by
  have hne := h.ne
  have h2 : max ((c - a) * (f - b) - (d - b) * (e - a)) (-((c - a) * (f - b) - (d - b) * (e - a))) ≠ 0 := by omega
  simp only [spec_l04Is, impl_IsTriangle, spec_l01In_eq, impl_small, impl_in_eq, inB_T.2 h.a, inB_T.2 h.b, inB_T.2 h.c, inB_T.2 h.d, inB_T.2 h.e, inB_T.2 h.f, Bool.not_true, cond_false, cond_true, spec_area_eq k h.a h.b h.c h.d h.e h.f, impl_area_eq k h.a h.b h.c h.d h.e h.f]
  exact ⟨fun r => by simp [h2], fun r => by simp [h2]⟩

def bndT (a b c d e f : Int) : Int := gcdI (c - a) (d - b) + gcdI (e - c) (f - d) + gcdI (a - e) (b - f)

theorem IsT.six {a b c d e f : Int} (h : IsT a b c d e f) : InT6 a b c d e f := ⟨h.a, h.b, h.c, h.d, h.e, h.f⟩

theorem bndT_b {a b c d e f : Int} (h : IsT a b c d e f) : 0 ≤ bndT a b c d e f ∧ bndT a b c d e f ≤ 6000 ∧ w64 (w64 (gcdI (c - a) (d - b) + gcdI (e - c) (f - d)) + gcdI (a - e) (b - f)) = bndT a b c d e f := by
  have g1 := gcdI_le (h.c.sub2 h.a).1 (h.c.sub2 h.a).2 (h.d.sub2 h.b).1 (h.d.sub2 h.b).2
  have g2 := gcdI_le (h.e.sub2 h.c).1 (h.e.sub2 h.c).2 (h.f.sub2 h.d).1 (h.f.sub2 h.d).2
  have g3 := gcdI_le (h.a.sub2 h.e).1 (h.a.sub2 h.e).2 (h.b.sub2 h.f).1 (h.b.sub2 h.f).2
  rw [w64_of (n := gcdI (c - a) (d - b) + gcdI (e - c) (f - d)) (by omega) (by omega), w64_of (by omega) (by omega)]
  unfold bndT
  omega

theorem impl_areaTri (k : Nat) {a b c d e f : Int} (h : IsT a b c d e f) (r : Int → Int → Option α) : impl_AreaOfTriangle k a b c d e f r = r (areaT a b c d e f) 0 := by
  simp only [impl_AreaOfTriangle, impl_ofTriangle_1F_impl_Triangle_area, (isT_eq k h).2, Bool.not_true, cond_false, impl_Triangle_area, impl_area_eq k h.a h.b h.c h.d h.e h.f]
  rfl

theorem area_some (k : Nat) (a b c d e f : Int) : ∃ v, ∀ r : Int → Option α, spec_l01Area k a b c d e f r = r v := ⟨_, fun _ => rfl⟩

theorem plus_some (k : Nat) (a b c d n : Int) : ∃ x y, ∀ r : Int → Int → Option α, spec_l01Plus k a b c d n r = r x y := ⟨_, _, fun _ => rfl⟩

theorem set6 {i j : Int} (hi : i = 0 ∨ i = 1 ∨ i = 2) (hj : j = 0 ∨ j = 1) (x y z w u v c : Int) : ∃ x' y' z' w' u' v', ∀ K : Int → Int → Int → Int → Int → Int → Option α,
    (([x, y, z, w, u, v][(moved (i.toNat * 2) j.toNat 1)]?).bind fun _ =>
      ((List.set [x, y, z, w, u, v] (moved (i.toNat * 2) j.toNat 1) c)[0]?).bind fun e_ =>
      ((List.set [x, y, z, w, u, v] (moved (i.toNat * 2) j.toNat 1) c)[1]?).bind fun e_1 =>
      ((List.set [x, y, z, w, u, v] (moved (i.toNat * 2) j.toNat 1) c)[2]?).bind fun e_2 =>
      ((List.set [x, y, z, w, u, v] (moved (i.toNat * 2) j.toNat 1) c)[3]?).bind fun e_3 =>
      ((List.set [x, y, z, w, u, v] (moved (i.toNat * 2) j.toNat 1) c)[4]?).bind fun e_4 =>
      ((List.set [x, y, z, w, u, v] (moved (i.toNat * 2) j.toNat 1) c)[5]?).bind fun e_5 => K e_ e_1 e_2 e_3 e_4 e_5) = K x' y' z' w' u' v' := by
  rcases hi with rfl | rfl | rfl <;> rcases hj with rfl | rfl
  · exact ⟨c, y, z, w, u, v, fun K => rfl⟩
  · exact ⟨x, c, z, w, u, v, fun K => rfl⟩
  · exact ⟨x, y, c, w, u, v, fun K => rfl⟩
  · exact ⟨x, y, z, c, u, v, fun K => rfl⟩
  · exact ⟨x, y, z, w, c, v, fun K => rfl⟩
  · exact ⟨x, y, z, w, u, c, fun K => rfl⟩

theorem draw4_ok {l : List Int} (hl : IsCode l) {s : Int} (hs : AtC l s) (k : Nat) (h : Int) : ∃ a b c d e f s' h', AtC l s' ∧ ∀ r : Int → Int → Int → Int → Int → Int → Int → Int → Option α, spec_l04Draw k l s h r = r a b c d e f s' h' := by
  obtain ⟨m, s1, h1, i1, i2, i3⟩ := pick_ok (α := α) hl hs k h (list := [2, 4, 4, 8, 20, 1000]) (by simp) (by simp)
  have hm : 0 ≤ m ∧ m ≤ 1000 := by simp only [List.mem_cons, List.not_mem_nil, or_false] at i2; omega
  obtain ⟨a, b, s2, h2, j1, _, _, j2⟩ := point_ok (α := α) hl i1 k h1 (most := m) hm.1 (by omega)
  obtain ⟨c, d, s3, h3, k1, _, _, k2⟩ := point_ok (α := α) hl j1 k h2 (most := m) hm.1 (by omega)
  obtain ⟨e, f, s4, h4, l1, _, _, l2⟩ := point_ok (α := α) hl k1 k h3 (most := m) hm.1 (by omega)
  obtain ⟨v, hv⟩ := area_some (α := α) k a b c d e f
  by_cases h0 : v = 0
  · obtain ⟨x, s5, h5, m1, _, m2⟩ := pick_ok (α := α) hl l1 k h4 (list := [1, (-1)]) (by simp) (by simp)
    obtain ⟨y, s6, h6, n1, _, n2⟩ := pick_ok (α := α) hl m1 k h5 (list := [1, (-1), 2]) (by simp) (by simp)
    obtain ⟨p, q, e1⟩ := plus_some (α := α) k a b 1 0 x
    obtain ⟨u, w, e2⟩ := plus_some (α := α) k a b 0 1 y
    refine ⟨a, b, p, q, u, w, s6, h6, n1, fun r => ?_⟩
    unfold spec_l04Draw
    rw [i3, j2, k2, l2, hv, decide_eq_true h0, cond_true, m2, e1, n2, e2]
  · refine ⟨a, b, c, d, e, f, s4, h4, l1, fun r => ?_⟩
    unfold spec_l04Draw
    rw [i3, j2, k2, l2, hv, decide_eq_false h0, cond_false]

theorem spoil4_ok {l : List Int} (hl : IsCode l) {s : Int} (hs : AtC l s) (k : Nat) (h : Int) : ∃ a b c d e f s' h', AtC l s' ∧ ∀ r : Int → Int → Int → Int → Int → Int → Int → Int → Option α, spec_l04Spoil k l s h r = r a b c d e f s' h' := by
  obtain ⟨a, b, c, d, e, f, s1, h1, i1, i2⟩ := draw4_ok (α := α) hl hs k h
  obtain ⟨v, s2, h2, j1, j2, j3, j4⟩ := next_ok (α := α) hl i1 k h1 40
  by_cases g0 : v = 0
  · obtain ⟨w, s3, h3, k1, k2, k3, k4⟩ := next_ok (α := α) hl j1 k h2 2
    rcases (show w = 0 ∨ w = 1 by omega) with rfl | rfl
    · refine ⟨a, b, c, d, a, b, s3, h3, k1, fun r => ?_⟩
      unfold spec_l04Spoil
      rw [i2, j4, decide_eq_true g0, cond_true, k4]
      rfl
    · refine ⟨a, b, c, d, c, d, s3, h3, k1, fun r => ?_⟩
      unfold spec_l04Spoil
      rw [i2, j4, decide_eq_true g0, cond_true, k4]
      rfl
  · by_cases g1 : v = 1
    · obtain ⟨x, s3, h3, k1, k2, k3, k4⟩ := next_ok (α := α) hl j1 k h2 3
      obtain ⟨y, s4, h4, l1, l2, l3, l4⟩ := next_ok (α := α) hl k1 k h3 2
      obtain ⟨z, s5, h5, m1, _, m2⟩ := pick_ok (α := α) hl l1 k h4 (list := [1001, (-1001), 1000]) (by simp) (by simp)
      obtain ⟨a', b', c', d', e', f', hset⟩ := set6 (α := α) (i := x) (j := y) (by omega) (by omega) a b c d e f z
      refine ⟨a', b', c', d', e', f', s5, h5, m1, fun r => ?_⟩
      unfold spec_l04Spoil
      rw [i2, j4, decide_eq_false g0, cond_false, decide_eq_true g1, cond_true, k4, dec_le_t k2, dec_lt_t (by omega), Bool.and_self, cond_true, l4, m2, dec_le_t l2, dec_lt_t (by omega), Bool.and_self, cond_true]
      exact hset fun a b c d e f => r a b c d e f s5 h5
    · refine ⟨a, b, c, d, e, f, s2, h2, j1, fun r => ?_⟩
      unfold spec_l04Spoil
      rw [i2, j4, decide_eq_false g0, cond_false, decide_eq_false g1, cond_false]

theorem small4_ok {l : List Int} (hl : IsCode l) {s : Int} (hs : AtC l s) (k : Nat) (h : Int) : ∃ a b c d e f s' h', AtC l s' ∧ ∀ r : Int → Int → Int → Int → Int → Int → Int → Int → Option α, spec_l04Small k l s h r = r a b c d e f s' h' := by
  obtain ⟨a, b, s2, h2, j1, _, _, j2⟩ := point_ok (α := α) hl hs k h (most := 12) (by omega) (by omega)
  obtain ⟨c, d, s3, h3, k1, _, _, k2⟩ := point_ok (α := α) hl j1 k h2 (most := 12) (by omega) (by omega)
  obtain ⟨e, f, s4, h4, l1, _, _, l2⟩ := point_ok (α := α) hl k1 k h3 (most := 12) (by omega) (by omega)
  obtain ⟨v, hv⟩ := area_some (α := α) k a b c d e f
  by_cases h0 : v = 0
  · obtain ⟨a', b', c', d', e', f', s5, h5, m1, m2⟩ := spoil4_ok (α := α) hl l1 k h4
    refine ⟨a', b', c', d', e', f', s5, h5, m1, fun r => ?_⟩
    unfold spec_l04Small
    rw [j2, k2, l2, hv, decide_eq_true h0, cond_true, m2]
  · obtain ⟨w, s5, h5, m1, m2, m3, m4⟩ := next_ok (α := α) hl l1 k h4 12
    by_cases hw : w = 0
    · obtain ⟨a', b', c', d', e', f', s6, h6, n1, n2⟩ := spoil4_ok (α := α) hl m1 k h5
      refine ⟨a', b', c', d', e', f', s6, h6, n1, fun r => ?_⟩
      unfold spec_l04Small
      rw [j2, k2, l2, hv, decide_eq_false h0, cond_false, m4, decide_eq_true hw, cond_true, n2]
    · refine ⟨a, b, c, d, e, f, s5, h5, m1, fun r => ?_⟩
      unfold spec_l04Small
      rw [j2, k2, l2, hv, decide_eq_false h0, cond_false, m4, decide_eq_false hw, cond_false]

/-- A shape, of a side and the other one. -/
def shV (v1 v2 o1 o2 : Int) : Int × Int × Int :=
  (gcdI v1 v2, (o1 * (mateI (prim v1 v2).1 (prim v1 v2).2).2 - o2 * (mateI (prim v1 v2).1 (prim v1 v2).2).1) % (absI (v1 * o2 - v2 * o1) / gcdI v1 v2), absI (v1 * o2 - v2 * o1) / gcdI v1 v2)

theorem shapeI_V (p0 p1 q0 q1 s0 s1 : Int) : shapeI p0 p1 q0 q1 s0 s1 = shV (q0 - p0) (q1 - p1) (s0 - p0) (s1 - p1) := rfl

theorem gcd_unit {u1 u2 m1 m2 g : Int} (hm : u1 * m2 - u2 * m1 = 1) (hg : 0 ≤ g) : gcdI (u1 * g) (u2 * g) = g := by
  have h1 : Int.gcd u1 u2 = 1 := by
    have d1 := Int.dvd_trans (Int.gcd_dvd_left u1 u2) (Int.dvd_mul_right u1 m2)
    have d2 := Int.dvd_trans (Int.gcd_dvd_right u1 u2) (Int.dvd_mul_right u2 m1)
    have d := Int.dvd_sub d1 d2
    rw [hm] at d
    have := Int.natCast_dvd_natCast.1 (show ((Int.gcd u1 u2 : Nat) : Int) ∣ ((1 : Nat) : Int) from d)
    exact Nat.dvd_one.1 this
  unfold gcdI
  rw [Int.gcd_mul_right, h1]
  omega

theorem absI_mul {a b : Int} (hb : 0 ≤ b) : absI (a * b) = absI a * b := by
  unfold absI
  rcases Int.le_total 0 a with h | h
  · have := Int.mul_nonneg h hb
    rw [Int.max_eq_left (by omega), Int.max_eq_left (by omega)]
  · have := Int.mul_nonneg (show 0 ≤ -a by omega) hb
    rw [Int.max_eq_right (by grind), Int.max_eq_right (by omega)]
    grind

/-- A shape by whichever mate. -/
theorem shV_char {u1 u2 m1 m2 g o1 o2 : Int} (hm : u1 * m2 - u2 * m1 = 1) (hg : 0 < g) (h1 : -1000000 ≤ u1 * g ∧ u1 * g ≤ 1000000) (h2 : -1000000 ≤ u2 * g ∧ u2 * g ≤ 1000000) :
    shV (u1 * g) (u2 * g) o1 o2 = (g, (o1 * m2 - o2 * m1) % absI (u1 * o2 - u2 * o1), absI (u1 * o2 - u2 * o1)) := by
  have hgc := gcd_unit hm (Int.le_of_lt hg)
  have hp := prim_mul (u1 * g) (u2 * g)
  rw [hgc] at hp
  have e1 : (prim (u1 * g) (u2 * g)).1 = u1 := Int.eq_of_mul_eq_mul_right (by omega) hp.1
  have e2 : (prim (u1 * g) (u2 * g)).2 = u2 := Int.eq_of_mul_eq_mul_right (by omega) hp.2
  have hpl := prim_le (B := 1000000) h1 h2
  rw [e1, e2] at hpl
  have hgu : gcdI u1 u2 = 1 := by
    have := gcd_unit hm (show (0 : Int) ≤ 1 by omega)
    rwa [Int.mul_one, Int.mul_one] at this
  have hmt := mateI_ok hpl.1 hpl.2 hgu
  have hH : absI (u1 * g * o2 - u2 * g * o1) / g = absI (u1 * o2 - u2 * o1) := by
    rw [show u1 * g * o2 - u2 * g * o1 = (u1 * o2 - u2 * o1) * g by grind, absI_mul (Int.le_of_lt hg), Int.mul_ediv_cancel _ (by omega)]
  unfold shV
  rw [hgc, e1, e2, hH]
  generalize mateI u1 u2 = mm at *
  obtain ⟨x, y⟩ := mm
  have hd := hmt.det
  simp only at hd ⊢
  have hx : x = (x * m2 - y * m1) * u1 + m1 := by grind
  have hy : y = (x * m2 - y * m1) * u2 + m2 := by grind
  have key : o1 * y - o2 * x = (o1 * m2 - o2 * m1) + -(x * m2 - y * m1) * (u1 * o2 - u2 * o1) := by grind
  rw [key]
  congr 2
  generalize u1 * o2 - u2 * o1 = w
  generalize -(x * m2 - y * m1) = k
  generalize o1 * m2 - o2 * m1 = z
  unfold absI
  rcases Int.le_total 0 w with hw | hw
  · rw [Int.max_eq_left (by omega), Int.add_mul_emod_self_right]
  · rw [Int.max_eq_right (by omega), show z + k * w = z + (-k) * (-w) by grind, Int.add_mul_emod_self_right]

/-- A unimodular map. -/
structure UniM (a b c d : Int) : Prop where
  det : a * d - b * c = 1 ∨ a * d - b * c = -1

theorem shV_map {a b c d v1 v2 o1 o2 : Int} (hM : UniM a b c d) (hv : v1 ≠ 0 ∨ v2 ≠ 0) (h1 : -1000000 ≤ v1 ∧ v1 ≤ 1000000) (h2 : -1000000 ≤ v2 ∧ v2 ≤ 1000000) (h3 : -1000000 ≤ a * v1 + b * v2 ∧ a * v1 + b * v2 ≤ 1000000) (h4 : -1000000 ≤ c * v1 + d * v2 ∧ c * v1 + d * v2 ≤ 1000000) :
    shV (a * v1 + b * v2) (c * v1 + d * v2) (a * o1 + b * o2) (c * o1 + d * o2) = shV v1 v2 o1 o2 := by
  have hg := gcdI_pos hv
  have hp := prim_mul v1 v2
  have hpl := prim_le (B := 1000000) h1 h2
  have hmt := mateI_ok hpl.1 hpl.2 (gcd_prim hv)
  have hdm := hmt.det
  generalize gcdI v1 v2 = g at *
  generalize (prim v1 v2).1 = u1 at *
  generalize (prim v1 v2).2 = u2 at *
  generalize (mateI u1 u2).1 = m1 at *
  generalize (mateI u1 u2).2 = m2 at *
  obtain ⟨rfl, rfl⟩ := hp
  have e1 : a * (u1 * g) + b * (u2 * g) = (a * u1 + b * u2) * g := by grind
  have e2 : c * (u1 * g) + d * (u2 * g) = (c * u1 + d * u2) * g := by grind
  rw [shV_char hdm hg h1 h2]
  rw [e1] at h3 ⊢
  rw [e2] at h4 ⊢
  rcases hM.det with hd | hd
  · rw [shV_char (m1 := a * m1 + b * m2) (m2 := c * m1 + d * m2) (by grind) hg h3 h4]
    rw [show (a * o1 + b * o2) * (c * m1 + d * m2) - (c * o1 + d * o2) * (a * m1 + b * m2) = o1 * m2 - o2 * m1 by grind, show (a * u1 + b * u2) * (c * o1 + d * o2) - (c * u1 + d * u2) * (a * o1 + b * o2) = u1 * o2 - u2 * o1 by grind]
  · rw [shV_char (m1 := -(a * m1 + b * m2)) (m2 := -(c * m1 + d * m2)) (by grind) hg h3 h4]
    rw [show (a * o1 + b * o2) * -(c * m1 + d * m2) - (c * o1 + d * o2) * -(a * m1 + b * m2) = o1 * m2 - o2 * m1 by grind, show (a * u1 + b * u2) * (c * o1 + d * o2) - (c * u1 + d * u2) * (a * o1 + b * o2) = -(u1 * o2 - u2 * o1) by grind]
    have : absI (-(u1 * o2 - u2 * o1)) = absI (u1 * o2 - u2 * o1) := by unfold absI; omega
    rw [this]

/-- A shape's triangle is the triangle, led by a unimodular map. -/
theorem shape_map {v1 v2 o1 o2 : Int} (hv : v1 ≠ 0 ∨ v2 ≠ 0) (h1 : -1000000 ≤ v1 ∧ v1 ≤ 1000000) (h2 : -1000000 ≤ v2 ∧ v2 ≤ 1000000) (hne : v1 * o2 - v2 * o1 ≠ 0) :
    ∃ a b c d, UniM a b c d ∧ a * v1 + b * v2 = (shV v1 v2 o1 o2).1 ∧ c * v1 + d * v2 = 0 ∧ a * o1 + b * o2 = (shV v1 v2 o1 o2).2.1 ∧ c * o1 + d * o2 = (shV v1 v2 o1 o2).2.2 := by
  have hg := gcdI_pos hv
  have hp := prim_mul v1 v2
  have hpl := prim_le (B := 1000000) h1 h2
  have hmt := mateI_ok hpl.1 hpl.2 (gcd_prim hv)
  have hdm := hmt.det
  generalize gcdI v1 v2 = g at *
  generalize (prim v1 v2).1 = u1 at *
  generalize (prim v1 v2).2 = u2 at *
  generalize (mateI u1 u2).1 = m1 at *
  generalize (mateI u1 u2).2 = m2 at *
  obtain ⟨rfl, rfl⟩ := hp
  rw [shV_char hdm hg h1 h2]
  simp only
  have hb : u1 * o2 - u2 * o1 ≠ 0 := by
    intro e
    apply hne
    rw [show u1 * g * o2 - u2 * g * o1 = (u1 * o2 - u2 * o1) * g by grind, e]
    simp
  have hdiv := Int.mul_ediv_add_emod (o1 * m2 - o2 * m1) (absI (u1 * o2 - u2 * o1))
  generalize hz : (o1 * m2 - o2 * m1) / absI (u1 * o2 - u2 * o1) = k at *
  generalize hr : (o1 * m2 - o2 * m1) % absI (u1 * o2 - u2 * o1) = r at *
  rcases Int.lt_or_le 0 (u1 * o2 - u2 * o1) with hw | hw
  · have ha : absI (u1 * o2 - u2 * o1) = u1 * o2 - u2 * o1 := by unfold absI; omega
    rw [ha] at hdiv ⊢
    refine ⟨m2 + k * u2, -m1 - k * u1, -u2, u1, ⟨.inl (by grind)⟩, by grind, by grind, by grind, by grind⟩
  · have ha : absI (u1 * o2 - u2 * o1) = -(u1 * o2 - u2 * o1) := by unfold absI; omega
    rw [ha] at hdiv ⊢
    refine ⟨m2 - k * u2, -m1 + k * u1, u2, -u1, ⟨.inr (by grind)⟩, by grind, by grind, by grind, by grind⟩

theorem bef_iff {x y : Int × Int × Int} : bef x y = true ↔ x.1 < y.1 ∨ (x.1 = y.1 ∧ (x.2.1 < y.2.1 ∨ (x.2.1 = y.2.1 ∧ x.2.2 < y.2.2))) := by
  unfold bef
  by_cases h1 : x.1 = y.1
  · by_cases h2 : x.2.1 = y.2.1
    · simp [h1, h2]
    · simp [h1, h2]
  · simp [h1]

theorem bef_false {x y : Int × Int × Int} : bef x y = false ↔ ¬ (x.1 < y.1 ∨ (x.1 = y.1 ∧ (x.2.1 < y.2.1 ∨ (x.2.1 = y.2.1 ∧ x.2.2 < y.2.2)))) := by
  rw [← bef_iff]
  cases bef x y <;> simp

theorem bef_eq {x y : Int × Int × Int} (h1 : bef x y = false) (h2 : bef y x = false) : x = y := by
  rw [bef_false] at h1 h2
  obtain ⟨x1, x2, x3⟩ := x
  obtain ⟨y1, y2, y3⟩ := y
  simp only at h1 h2
  have e1 : x1 = y1 := by omega
  have e2 : x2 = y2 := by omega
  have e3 : x3 = y3 := by omega
  rw [e1, e2, e3]

theorem bef_nt {x y z : Int × Int × Int} (h1 : bef y x = false) (h2 : bef z y = false) : bef z x = false := by
  rw [bef_false] at *
  omega

theorem bef_irr (x : Int × Int × Int) : bef x x = false := by rw [bef_false]; omega

def minL (l : List (Int × Int × Int)) (o : Int × Int × Int) : Int × Int × Int := l.foldl (fun o x => lessS x o) o

theorem minL_spec : ∀ (l : List (Int × Int × Int)) (o : Int × Int × Int), minL l o ∈ o :: l ∧ ∀ y ∈ o :: l, bef y (minL l o) = false
  | [], o => ⟨by simp [minL], fun y hy => by simp at hy; subst hy; exact bef_irr _⟩
  | x :: l, o => by
    obtain ⟨h1, h2⟩ := minL_spec l (lessS x o)
    have e : minL (x :: l) o = minL l (lessS x o) := rfl
    rw [e]
    have hb := h2 (lessS x o) List.mem_cons_self
    unfold lessS at h1 h2 hb ⊢
    cases hx : bef x o with
    | true =>
      rw [hx, cond_true] at h1 h2 hb
      rw [cond_true]
      refine ⟨List.mem_cons_of_mem _ h1, fun y hy => ?_⟩
      rcases List.mem_cons.1 hy with rfl | hy
      · refine bef_nt hb ?_
        rw [bef_iff] at hx
        rw [bef_false]
        omega
      · exact h2 y hy
    | false =>
      rw [hx, cond_false] at h1 h2 hb
      rw [cond_false]
      refine ⟨?_, fun y hy => ?_⟩
      · rcases List.mem_cons.1 h1 with h1 | h1
        · rw [h1]; exact List.mem_cons_self
        · exact List.mem_cons_of_mem _ (List.mem_cons_of_mem _ h1)
      · rcases List.mem_cons.1 hy with rfl | hy
        · exact hb
        · rcases List.mem_cons.1 hy with rfl | hy
          · exact bef_nt hb hx
          · exact h2 y (List.mem_cons_of_mem _ hy)

def six (a b c d e f : Int) : List (Int × Int × Int) := [shapeI a b c d e f, shapeI a b e f c d, shapeI c d a b e f, shapeI c d e f a b, shapeI e f a b c d, shapeI e f c d a b]

theorem normS_min (a b c d e f : Int) : normS a b c d e f ∈ six a b c d e f ∧ ∀ y ∈ six a b c d e f, bef y (normS a b c d e f) = false := by
  have h := minL_spec (six a b c d e f) (shapeI a b c d e f)
  have e : minL (six a b c d e f) (shapeI a b c d e f) = normS a b c d e f := rfl
  rw [e] at h
  refine ⟨?_, fun y hy => h.2 y (List.mem_cons_of_mem _ hy)⟩
  rcases List.mem_cons.1 h.1 with h1 | h1
  · rw [h1]; exact List.mem_cons_self
  · exact h1

theorem normS_of {a b c d e f a' b' c' d' e' f' : Int} (h : ∀ y, y ∈ six a b c d e f ↔ y ∈ six a' b' c' d' e' f') : normS a b c d e f = normS a' b' c' d' e' f' := by
  obtain ⟨h1, h2⟩ := normS_min a b c d e f
  obtain ⟨h3, h4⟩ := normS_min a' b' c' d' e' f'
  exact bef_eq (h4 _ ((h _).1 h1)) (h2 _ ((h _).2 h3))

/-- The six shapes of a shape's triangle. -/
theorem six_T {p0 p1 q0 q1 s0 s1 : Int} (hp0 : inT p0) (hp1 : inT p1) (hq0 : inT q0) (hq1 : inT q1) (hs0 : inT s0) (hs1 : inT s1) (hne : detS p0 p1 q0 q1 s0 s1 ≠ 0)
    (hL : (shapeI p0 p1 q0 q1 s0 s1).1 ≤ 1000) (hx0 : 0 ≤ (shapeI p0 p1 q0 q1 s0 s1).2.1) (hx : (shapeI p0 p1 q0 q1 s0 s1).2.1 ≤ 1000) (hH : (shapeI p0 p1 q0 q1 s0 s1).2.2 ≤ 1000) (hH0 : 0 ≤ (shapeI p0 p1 q0 q1 s0 s1).2.2) :
    six 0 0 (shapeI p0 p1 q0 q1 s0 s1).1 0 (shapeI p0 p1 q0 q1 s0 s1).2.1 (shapeI p0 p1 q0 q1 s0 s1).2.2 = six p0 p1 q0 q1 s0 s1 := by
  have hf := shape_facts hp0 hp1 hq0 hq1 hs0 hs1 hne
  have v1 := hq0.sub2 hp0
  have v2 := hq1.sub2 hp1
  have o1 := hs0.sub2 hp0
  have o2 := hs1.sub2 hp1
  obtain ⟨a, b, c, d, hM, e1, e2, e3, e4⟩ := shape_map (v1 := q0 - p0) (v2 := q1 - p1) (o1 := s0 - p0) (o2 := s1 - p1) hf.1 (by omega) (by omega) hne
  have hL0 : 0 ≤ (shapeI p0 p1 q0 q1 s0 s1).1 := by
    show 0 ≤ gcdI _ _
    omega
  rw [← shapeI_V] at e1 e3 e4
  generalize hs : shapeI p0 p1 q0 q1 s0 s1 = S at *
  obtain ⟨L, x, H⟩ := S
  simp only at *
  have nv := hf.1
  have no : s0 - p0 ≠ 0 ∨ s1 - p1 ≠ 0 := by
    rcases Classical.em (s0 - p0 = 0) with h1 | h1
    · rcases Classical.em (s1 - p1 = 0) with h2 | h2
      · exact absurd (by unfold detS; rw [h1, h2]; simp) hne
      · exact .inr h2
    · exact .inl h1
  have nd : s0 - q0 ≠ 0 ∨ s1 - q1 ≠ 0 := by
    rcases Classical.em (s0 - q0 = 0) with h1 | h1
    · rcases Classical.em (s1 - q1 = 0) with h2 | h2
      · refine absurd ?_ hne
        unfold detS
        rw [show s0 = q0 by omega, show s1 = q1 by omega]
        grind
      · exact .inr h2
    · exact .inl h1
  have d1 := hs0.sub2 hq0
  have d2 := hs1.sub2 hq1
  have mp := fun (w1 w2 z1 z2 W1 W2 Z1 Z2 : Int) (hw : w1 ≠ 0 ∨ w2 ≠ 0) (hw1 : -2000 ≤ w1 ∧ w1 ≤ 2000) (hw2 : -2000 ≤ w2 ∧ w2 ≤ 2000) (hW1 : -2000 ≤ W1 ∧ W1 ≤ 2000) (hW2 : -2000 ≤ W2 ∧ W2 ≤ 2000) (k1 : a * w1 + b * w2 = W1) (k2 : c * w1 + d * w2 = W2) (k3 : a * z1 + b * z2 = Z1) (k4 : c * z1 + d * z2 = Z2) =>
    (show shV W1 W2 Z1 Z2 = shV w1 w2 z1 z2 by
      have := shV_map (o1 := z1) (o2 := z2) hM hw (by omega) (by omega) (by rw [k1]; omega) (by rw [k2]; omega)
      rw [k1, k2, k3, k4] at this
      exact this)
  unfold six
  simp only [shapeI_V]
  rw [mp (q0 - p0) (q1 - p1) (s0 - p0) (s1 - p1) (L - 0) (0 - 0) (x - 0) (H - 0) nv (by omega) (by omega) (by omega) (by omega) (by omega) (by omega) (by omega) (by omega),
    mp (s0 - p0) (s1 - p1) (q0 - p0) (q1 - p1) (x - 0) (H - 0) (L - 0) (0 - 0) no (by omega) (by omega) (by omega) (by omega) (by omega) (by omega) (by omega) (by omega),
    mp (p0 - q0) (p1 - q1) (s0 - q0) (s1 - q1) (0 - L) (0 - 0) (x - L) (H - 0) (by omega) (by omega) (by omega) (by omega) (by omega) (by grind) (by grind) (by grind) (by grind),
    mp (s0 - q0) (s1 - q1) (p0 - q0) (p1 - q1) (x - L) (H - 0) (0 - L) (0 - 0) nd (by omega) (by omega) (by omega) (by omega) (by grind) (by grind) (by grind) (by grind),
    mp (p0 - s0) (p1 - s1) (q0 - s0) (q1 - s1) (0 - x) (0 - H) (L - x) (0 - H) (by omega) (by omega) (by omega) (by omega) (by omega) (by grind) (by grind) (by grind) (by grind),
    mp (q0 - s0) (q1 - s1) (p0 - s0) (p1 - s1) (L - x) (0 - H) (0 - x) (0 - H) (by omega) (by omega) (by omega) (by omega) (by omega) (by grind) (by grind) (by grind) (by grind)]

theorem six_perm (a b c d e f : Int) :
    (∀ y, y ∈ six a b e f c d ↔ y ∈ six a b c d e f) ∧ (∀ y, y ∈ six c d a b e f ↔ y ∈ six a b c d e f) ∧ (∀ y, y ∈ six c d e f a b ↔ y ∈ six a b c d e f) ∧
    (∀ y, y ∈ six e f a b c d ↔ y ∈ six a b c d e f) ∧ (∀ y, y ∈ six e f c d a b ↔ y ∈ six a b c d e f) := by
  refine ⟨fun y => ?_, fun y => ?_, fun y => ?_, fun y => ?_, fun y => ?_⟩ <;>
  · simp only [six, List.mem_cons, List.not_mem_nil, or_false]
    constructor <;> (rintro (h | h | h | h | h | h) <;> simp [h])

/-- What is known of a shape. -/
def GoodS (n : Int) (s : Int × Int × Int) : Prop := 1 ≤ s.1 ∧ 0 ≤ s.2.1 ∧ s.2.1 < s.2.2 ∧ s.1 * s.2.2 = n

theorem shape_good {p0 p1 q0 q1 s0 s1 : Int} (hp0 : inT p0) (hp1 : inT p1) (hq0 : inT q0) (hq1 : inT q1) (hs0 : inT s0) (hs1 : inT s1) (hne : detS p0 p1 q0 q1 s0 s1 ≠ 0) : GoodS (absI (detS p0 p1 q0 q1 s0 s1)) (shapeI p0 p1 q0 q1 s0 s1) := by
  have hf := shape_facts hp0 hp1 hq0 hq1 hs0 hs1 hne
  obtain ⟨_, h1, _, hd, h2, _, h3, _⟩ := hf
  unfold GoodS shapeI
  simp only
  refine ⟨h1, Int.emod_nonneg _ (by omega), Int.emod_lt_of_pos _ (by omega), ?_⟩
  rw [Int.mul_comm]
  exact Int.ediv_mul_cancel hd

theorem GoodS.le {n : Int} {s : Int × Int × Int} (h : GoodS n s) : s.1 ≤ n ∧ s.2.2 ≤ n ∧ s.2.1 < n := by
  obtain ⟨h1, h2, h3, h4⟩ := h
  have a1 := Int.mul_nonneg (show 0 ≤ s.1 - 1 by omega) (show 0 ≤ s.2.2 by omega)
  have a2 := Int.mul_nonneg (show 0 ≤ s.1 by omega) (show 0 ≤ s.2.2 - 1 by omega)
  rw [Int.sub_mul] at a1
  rw [Int.mul_sub] at a2
  omega

theorem norm_one {p0 p1 q0 q1 s0 s1 : Int} (hp0 : inT p0) (hp1 : inT p1) (hq0 : inT q0) (hq1 : inT q1) (hs0 : inT s0) (hs1 : inT s1) (hne : detS p0 p1 q0 q1 s0 s1 ≠ 0) (hA : absI (detS p0 p1 q0 q1 s0 s1) ≤ 1000) :
    normS 0 0 (shapeI p0 p1 q0 q1 s0 s1).1 0 (shapeI p0 p1 q0 q1 s0 s1).2.1 (shapeI p0 p1 q0 q1 s0 s1).2.2 = normS p0 p1 q0 q1 s0 s1 := by
  have hg := shape_good hp0 hp1 hq0 hq1 hs0 hs1 hne
  have hl := hg.le
  obtain ⟨g1, g2, g3, _⟩ := hg
  exact normS_of fun y => by rw [six_T hp0 hp1 hq0 hq1 hs0 hs1 hne (by omega) (by omega) (by omega) (by omega) (by omega)]

/-- The normal shape of the normal shape's triangle. -/
theorem norm_idem {a b c d e f : Int} (h : IsT a b c d e f) (hA : absI (detS a b c d e f) ≤ 1000) :
    GoodS (absI (detS a b c d e f)) (normS a b c d e f) ∧ normS 0 0 (normS a b c d e f).1 0 (normS a b c d e f).2.1 (normS a b c d e f).2.2 = normS a b c d e f := by
  have hne : detS a b c d e f ≠ 0 := h.ne
  have e02 : detS a b e f c d = -detS a b c d e f := by unfold detS; grind
  have e10 : detS c d a b e f = -detS a b c d e f := by unfold detS; grind
  have e12 : detS c d e f a b = detS a b c d e f := by unfold detS; grind
  have e20 : detS e f a b c d = detS a b c d e f := by unfold detS; grind
  have e21 : detS e f c d a b = -detS a b c d e f := by unfold detS; grind
  have ea : absI (-detS a b c d e f) = absI (detS a b c d e f) := by unfold absI; omega
  obtain ⟨s1, s2, s3, s4, s5⟩ := six_perm a b c d e f
  have key : ∀ {p0 p1 q0 q1 s0 s1 : Int}, inT p0 → inT p1 → inT q0 → inT q1 → inT s0 → inT s1 → detS p0 p1 q0 q1 s0 s1 ≠ 0 → absI (detS p0 p1 q0 q1 s0 s1) = absI (detS a b c d e f) → (∀ y, y ∈ six p0 p1 q0 q1 s0 s1 ↔ y ∈ six a b c d e f) → normS a b c d e f = shapeI p0 p1 q0 q1 s0 s1 →
      GoodS (absI (detS a b c d e f)) (normS a b c d e f) ∧ normS 0 0 (normS a b c d e f).1 0 (normS a b c d e f).2.1 (normS a b c d e f).2.2 = normS a b c d e f := by
    intro p0 p1 q0 q1 s0 s1 h1 h2 h3 h4 h5 h6 hn hab hm hs
    have g := shape_good h1 h2 h3 h4 h5 h6 hn
    have g2 := norm_one h1 h2 h3 h4 h5 h6 hn (by omega)
    rw [normS_of hm] at g2
    rw [hab] at g
    rw [← hs] at g g2
    exact ⟨g, g2⟩
  have hm := (normS_min a b c d e f).1
  simp only [six, List.mem_cons, List.not_mem_nil, or_false] at hm
  rcases hm with hm | hm | hm | hm | hm | hm
  · exact key h.a h.b h.c h.d h.e h.f hne rfl (fun _ => Iff.rfl) hm
  · exact key h.a h.b h.e h.f h.c h.d (by omega) (by rw [e02, ea]) s1 hm
  · exact key h.c h.d h.a h.b h.e h.f (by omega) (by rw [e10, ea]) s2 hm
  · exact key h.c h.d h.e h.f h.a h.b (by omega) (by rw [e12]) s3 hm
  · exact key h.e h.f h.a h.b h.c h.d (by omega) (by rw [e20]) s4 hm
  · exact key h.e h.f h.c h.d h.a h.b (by omega) (by rw [e21, ea]) s5 hm

/-- Each comes ahead of those behind it. -/
def Asc (l : List (Int × Int × Int)) : Prop := l.Pairwise fun x y => bef x y = true

theorem bef_trans {x y z : Int × Int × Int} (h1 : bef x y = true) (h2 : bef y z = true) : bef x z = true := by
  rw [bef_iff] at *
  omega

theorem asc_uniq : ∀ {l m : List (Int × Int × Int)}, Asc l → Asc m → (∀ x, x ∈ l ↔ x ∈ m) → l = m
  | [], [], _, _, _ => rfl
  | [], y :: m, _, _, h => absurd ((h y).2 List.mem_cons_self) (by simp)
  | x :: l, [], _, _, h => absurd ((h x).1 List.mem_cons_self) (by simp)
  | x :: l, y :: m, hl, hm, h => by
    have hl' := List.pairwise_cons.1 hl
    have hm' := List.pairwise_cons.1 hm
    have irr : ∀ {z}, bef z z = true → False := fun {z} hz => by rw [bef_irr] at hz; cases hz
    have hxy : x = y := by
      rcases List.mem_cons.1 ((h x).1 List.mem_cons_self) with e | e
      · exact e
      · rcases List.mem_cons.1 ((h y).2 List.mem_cons_self) with e2 | e2
        · exact e2.symm
        · exact (irr (bef_trans (hl'.1 y e2) (hm'.1 x e))).elim
    subst hxy
    rw [asc_uniq hl'.2 hm'.2 fun z => ?_]
    constructor
    · intro hz
      rcases List.mem_cons.1 ((h z).1 (List.mem_cons_of_mem _ hz)) with e | e
      · subst e; exact (irr (hl'.1 _ hz)).elim
      · exact e
    · intro hz
      rcases List.mem_cons.1 ((h z).2 (List.mem_cons_of_mem _ hz)) with e | e
      · subst e; exact (irr (hm'.1 _ hz)).elim
      · exact e

def ddR : (Int × Int × Int) → List (Int × Int × Int) → List (Int × Int × Int)
  | _, [] => []
  | p, y :: r => if y = p then ddR y r else y :: ddR y r

def ddS : List (Int × Int × Int) → List (Int × Int × Int)
  | [] => []
  | x :: r => x :: ddR x r

theorem ddR_mem : ∀ (p : Int × Int × Int) (l : List (Int × Int × Int)) (z : Int × Int × Int), z = p ∨ z ∈ ddR p l ↔ z = p ∨ z ∈ l
  | p, [], z => by simp [ddR]
  | p, y :: r, z => by
    have ih := ddR_mem y r z
    unfold ddR
    by_cases h : y = p
    · rw [if_pos h]
      subst h
      rw [ih]
      simp
    · rw [if_neg h]
      simp only [List.mem_cons]
      constructor
      · rintro (h | h | h)
        · exact .inl h
        · exact .inr (.inl h)
        · rcases ih.1 (.inr h) with h | h
          · exact .inr (.inl h)
          · exact .inr (.inr h)
      · rintro (h | h | h)
        · exact .inl h
        · exact .inr (.inl h)
        · rcases ih.2 (.inr h) with h | h
          · exact .inr (.inl h)
          · exact .inr (.inr h)

theorem ddS_mem (l : List (Int × Int × Int)) (z : Int × Int × Int) : z ∈ ddS l ↔ z ∈ l := by
  cases l with
  | nil => simp [ddS]
  | cons x r =>
    unfold ddS
    simp only [List.mem_cons]
    exact ddR_mem x r z

theorem ddR_asc : ∀ (p : Int × Int × Int) (l : List (Int × Int × Int)), (p :: l).Pairwise (fun x y => bef y x = false) → (p :: ddR p l).Pairwise fun x y => bef x y = true
  | p, [], _ => by simp [ddR]
  | p, y :: r, h => by
    have h1 := List.pairwise_cons.1 h
    have h2 := List.pairwise_cons.1 h1.2
    have ih := ddR_asc y r h1.2
    unfold ddR
    by_cases e : y = p
    · rw [if_pos e]
      subst e
      exact ih
    · rw [if_neg e]
      refine List.pairwise_cons.2 ⟨fun z hz => ?_, ih⟩
      have hyp : bef p y = true := by
        cases hb : bef p y with
        | true => rfl
        | false => exact absurd (bef_eq (h1.1 y List.mem_cons_self) hb) e
      rcases List.mem_cons.1 hz with rfl | hz
      · exact hyp
      · exact bef_trans hyp ((List.pairwise_cons.1 ih).1 z hz)

theorem ddS_asc {l : List (Int × Int × Int)} (h : l.Pairwise fun x y => bef y x = false) : Asc (ddS l) := by
  cases l with
  | nil => exact List.Pairwise.nil
  | cons x r => exact ddR_asc x r h

def colA (L H : Int) : Nat → Int → List (Int × Int × Int)
  | 0, _ => []
  | m + 1, x => (L, x, H) :: colA L H m (x + 1)

def allA (n : Int) : Nat → Int → List (Int × Int × Int)
  | 0, _ => []
  | m + 1, L => (if n % L = 0 then colA L (n / L) (n / L).toNat 0 else []) ++ allA n m (L + 1)

theorem colA_mem {L H : Int} : ∀ {m : Nat} {x : Int} {s : Int × Int × Int}, s ∈ colA L H m x ↔ s.1 = L ∧ x ≤ s.2.1 ∧ s.2.1 < x + m ∧ s.2.2 = H
  | 0, x, s => by simp [colA]; omega
  | m + 1, x, s => by
    unfold colA
    rw [List.mem_cons, colA_mem]
    obtain ⟨a, b, c⟩ := s
    simp only [Prod.mk.injEq]
    constructor
    · rintro (⟨rfl, rfl, rfl⟩ | ⟨rfl, h1, h2, rfl⟩)
      · refine ⟨rfl, ?_, ?_, rfl⟩ <;> omega
      · refine ⟨rfl, ?_, ?_, rfl⟩ <;> omega
    · rintro ⟨rfl, h1, h2, rfl⟩
      by_cases h : b = x
      · exact .inl ⟨rfl, h, rfl⟩
      · exact .inr ⟨rfl, by omega, by omega, rfl⟩

theorem colA_asc {L H : Int} : ∀ (m : Nat) (x : Int), Asc (colA L H m x)
  | 0, x => List.Pairwise.nil
  | m + 1, x => by
    unfold colA
    refine List.pairwise_cons.2 ⟨fun s hs => ?_, colA_asc m (x + 1)⟩
    obtain ⟨h1, h2, h3, h4⟩ := colA_mem.1 hs
    rw [bef_iff]
    simp only
    omega

theorem colA_len {L H : Int} : ∀ (m : Nat) (x : Int), (colA L H m x).length = m
  | 0, x => rfl
  | m + 1, x => by unfold colA; rw [List.length_cons, colA_len]

theorem allA_mem {n : Int} : ∀ {m : Nat} {L : Int} {s : Int × Int × Int}, 1 ≤ L → 0 ≤ n → (s ∈ allA n m L ↔ L ≤ s.1 ∧ s.1 < L + m ∧ n % s.1 = 0 ∧ 0 ≤ s.2.1 ∧ s.2.1 < n / s.1 ∧ s.2.2 = n / s.1)
  | 0, L, s, h, hn => by simp [allA]; omega
  | m + 1, L, s, h, hn => by
    unfold allA
    rw [List.mem_append, allA_mem (by omega) hn]
    have hq : 0 ≤ n / L := Int.ediv_nonneg hn (by omega)
    constructor
    · rintro (h1 | ⟨h1, h2, h3, h4, h5, h6⟩)
      · by_cases hd : n % L = 0
        · rw [if_pos hd, colA_mem] at h1
          obtain ⟨e1, e2, e3, e4⟩ := h1
          rw [e1]
          exact ⟨by omega, by omega, hd, e2, by omega, e4⟩
        · rw [if_neg hd] at h1
          cases h1
      · exact ⟨by omega, by omega, h3, h4, h5, h6⟩
    · rintro ⟨h1, h2, h3, h4, h5, h6⟩
      by_cases e : s.1 = L
      · rw [e] at h3 h5 h6
        refine .inl ?_
        rw [if_pos h3, colA_mem]
        exact ⟨e, h4, by omega, h6⟩
      · exact .inr ⟨by omega, by omega, h3, h4, h5, h6⟩

theorem allA_asc {n : Int} (hn : 0 ≤ n) : ∀ (m : Nat) (L : Int), 1 ≤ L → Asc (allA n m L)
  | 0, L, _ => List.Pairwise.nil
  | m + 1, L, h => by
    unfold allA
    refine List.pairwise_append.2 ⟨?_, allA_asc hn m (L + 1) (by omega), fun x hx y hy => ?_⟩
    · split
      · exact colA_asc _ _
      · exact List.Pairwise.nil
    · have h1 : x.1 = L := by
        split at hx
        · exact (colA_mem.1 hx).1
        · cases hx
      have h2 := ((allA_mem (by omega) hn).1 hy).1
      rw [bef_iff]
      omega

theorem allA_good {n : Int} (hn : 1 ≤ n) {s : Int × Int × Int} : s ∈ allA n n.toNat 1 ↔ GoodS n s := by
  rw [allA_mem (by omega) (by omega)]
  unfold GoodS
  constructor
  · rintro ⟨h1, h2, h3, h4, h5, h6⟩
    refine ⟨h1, h4, by omega, ?_⟩
    rw [h6]
    exact Int.mul_ediv_cancel' (Int.dvd_of_emod_eq_zero h3)
  · rintro ⟨h1, h2, h3, h4⟩
    have hl := GoodS.le (n := n) (s := s) ⟨h1, h2, h3, h4⟩
    have hd : s.1 ∣ n := ⟨s.2.2, h4.symm⟩
    have he : n / s.1 = s.2.2 := by rw [← h4, Int.mul_ediv_cancel_left _ (by omega)]
    refine ⟨h1, by omega, Int.emod_eq_zero_of_dvd hd, h2, by omega, he.symm⟩

theorem allA_len {n : Int} (hn : 0 ≤ n) (hn2 : n ≤ 200) : ∀ (m : Nat) (L : Int), 1 ≤ L → (allA n m L).length ≤ 200 * m
  | 0, L, _ => by simp [allA]
  | m + 1, L, h => by
    unfold allA
    rw [List.length_append]
    have ih := allA_len hn hn2 m (L + 1) (by omega)
    have : (if n % L = 0 then colA L (n / L) (n / L).toNat 0 else []).length ≤ 200 := by
      split
      · rw [colA_len]
        have := Int.ediv_le_self L hn
        omega
      · simp
    omega

/-- The normal shape of a shape's triangle. -/
def normT (s : Int × Int × Int) : Int × Int × Int := normS 0 0 s.1 0 s.2.1 s.2.2

theorem isT_of_good {n : Int} {s : Int × Int × Int} (hn : n ≤ 200) (h : GoodS n s) : IsT 0 0 s.1 0 s.2.1 s.2.2 ∧ absI (detS 0 0 s.1 0 s.2.1 s.2.2) = n := by
  have hl := h.le
  obtain ⟨h1, h2, h3, h4⟩ := h
  have hn0 : 0 < n := by rw [← h4]; exact Int.mul_pos (by omega) (by omega)
  have e : (s.1 - 0) * (s.2.2 - 0) - (0 - 0) * (s.2.1 - 0) = n := by
    rw [Int.sub_zero, Int.sub_zero, h4]
    omega
  refine ⟨⟨by rw [e]; omega, ?_, ?_, ?_, ?_, ?_, ?_⟩, ?_⟩
  all_goals first | (unfold inT; omega) | skip
  unfold absI detS
  rw [e]
  omega

theorem normT_good {n : Int} {s : Int × Int × Int} (hn : n ≤ 200) (h : GoodS n s) : GoodS n (normT s) ∧ normT (normT s) = normT s := by
  obtain ⟨h1, h2⟩ := isT_of_good hn h
  have := norm_idem h1 (by omega)
  rw [h2] at this
  exact this

/-- Both lists are one. -/
theorem area_lists {n : Int} (h1 : 1 ≤ n) (hn : n ≤ 200) {srt : List (Int × Int × Int)} (hs : srt.Pairwise fun x y => bef y x = false) (hm : ∀ z, z ∈ srt ↔ z ∈ (allA n n.toNat 1).map normT) :
    ddS srt = (allA n n.toNat 1).filter fun s => decide (normT s = s) := by
  refine asc_uniq (ddS_asc hs) ((allA_asc (by omega) _ _ (by omega)).filter _) fun z => ?_
  rw [ddS_mem, hm, List.mem_map, List.mem_filter, allA_good h1]
  constructor
  · rintro ⟨s, hs, rfl⟩
    obtain ⟨g1, g2⟩ := normT_good hn ((allA_good h1).1 hs)
    exact ⟨g1, by simp [g2]⟩
  · rintro ⟨hg, he⟩
    exact ⟨z, (allA_good h1).2 hg, by simpa using he⟩

theorem cpt_l9 (l : List (Int × Int × Int)) (hl : l.length ≤ 1000000) : ∀ (rest : List (Int × Int × Int)) (k w k0 p : Nat) (cur : List (Int × Int × Int)) (prev : Int × Int × Int), l.drop p = rest → 1 ≤ k0 → k0 < p → p ≤ l.length → w + 1 ≤ p → cur.length = l.length → cur.drop w = l.drop w → l[p - 1]? = some prev → rest.length < k →
    ∃ w' cur' k2, cur'.length = l.length ∧ w' ≤ l.length ∧ cur'.take w' = cur.take w ++ ddR prev rest ∧ ∀ (b : Int → Nat → Nat → Int → List (Int × Int × Int) → Option α) (r : List (Int × Int × Int) → Option α),
      slices_Compact_impl_Shape_impl_Shape_l9 k (w : Int) k0 (l.length - k0) ((p - k0 : Nat) : Int) cur b r = b (w' : Nat) k0 (l.length - k0) k2 cur'
  | [], k + 1, w, k0, p, cur, prev, hd, h1, hp, hpl, hw, hc, hs, hprev, _ => by
    have hlp : p = l.length := by have := drop_nil hd; omega
    refine ⟨w, cur, ((p - k0 : Nat) : Int), hc, by omega, by simp [ddR], fun b r => ?_⟩
    rw [slices_Compact_impl_Shape_impl_Shape_l9, dec_lt_f (by omega)]
    rfl
  | y :: rest, k + 1, w, k0, p, cur, prev, hd, h1, hp, hpl, hw, hc, hs, hprev, hk => by
    obtain ⟨g1, g2, g3⟩ := drop_cons hd
    have en : w64 (((p - k0 : Nat) : Int) + 1) = ((p + 1 - k0 : Nat) : Int) := by rw [w64_of (by omega) (by omega)]; omega
    have em : w64 (((p - k0 : Nat) : Int) - 1) = ((p - 1 - k0 : Nat) : Int) := by rw [w64_of (by omega) (by omega)]; omega
    have ew : w64 ((w : Int) + 1) = ((w + 1 : Nat) : Int) := by rw [w64_of (by omega) (by omega)]; omega
    have m1 : ∀ q : Nat, k0 ≤ q → moved k0 (q - k0) 1 = q := fun q hq => by
      unfold moved
      have : Nat.beq k0 0 = false := by cases hb : Nat.beq k0 0 with | false => rfl | true => have := Nat.eq_of_beq_eq_true hb; omega
      rw [this, cond_false]
      omega
    have at_ : ∀ q, w ≤ q → cur[q]? = l[q]? := fun q hq => by
      have e1 : (cur.drop w)[q - w]? = (l.drop w)[q - w]? := by rw [hs]
      rw [List.getElem?_drop, List.getElem?_drop, show w + (q - w) = q by omega] at e1
      exact e1
    have hy : cur[p]? = some y := by rw [at_ p (by omega)]; exact g1
    have hp1 : cur[p - 1]? = some prev := by rw [at_ (p - 1) (by omega)]; exact hprev
    have hnext : l[p + 1 - 1]? = some y := by rw [Nat.add_sub_cancel]; exact g1
    have hwc : w < cur.length := by omega
    obtain ⟨cw, hcw⟩ : ∃ c, cur[w]? = some c := ⟨cur[w], List.getElem?_eq_getElem hwc⟩
    have hstep : (decide (y.1 = prev.1) && (decide (y.2.1 = prev.2.1) && decide (y.2.2 = prev.2.2))) = decide (y = prev) := by
      rw [Bool.eq_iff_iff]
      simp [Prod.ext_iff]
    by_cases e : y = prev
    · obtain ⟨w', cur', k2, i1, i2, i3, i4⟩ := cpt_l9 l hl rest k w k0 (p + 1) cur y g2 h1 (by omega) (by omega) (by omega) hc hs hnext (by simp at hk; omega)
      refine ⟨w', cur', k2, i1, i2, ?_, fun b r => ?_⟩
      · rw [i3]
        congr 1
        conv => rhs; unfold ddR
        rw [if_pos e]
      · rw [slices_Compact_impl_Shape_impl_Shape_l9, dec_lt_t (by omega), dec_le_t (by omega), cond_true, Bool.and_self, cond_true, Int.toNat_natCast, m1 p (by omega), hy, Option.bind_some, em, dec_le_t (by omega), dec_lt_t (by omega), Bool.and_self, cond_true, Int.toNat_natCast, m1 (p - 1) (by omega), hp1, Option.bind_some, hstep, decide_eq_true e, Bool.not_true, cond_false, en]
        exact i4 b r
    · have hset : (cur.set w (y.1, y.2.1, y.2.2)).length = l.length := by rw [List.length_set]; exact hc
      have hdrop : (cur.set w (y.1, y.2.1, y.2.2)).drop (w + 1) = l.drop (w + 1) := by
        have e1 : (cur.drop w).drop 1 = (l.drop w).drop 1 := by rw [hs]
        rw [List.drop_drop, List.drop_drop] at e1
        rw [List.drop_set, if_pos (by omega)]
        exact e1
      obtain ⟨w', cur', k2, i1, i2, i3, i4⟩ := cpt_l9 l hl rest k (w + 1) k0 (p + 1) (cur.set w (y.1, y.2.1, y.2.2)) y g2 h1 (by omega) (by omega) (by omega) hset hdrop hnext (by simp at hk; omega)
      refine ⟨w', cur', k2, i1, i2, ?_, fun b r => ?_⟩
      · have ht : (cur.set w (y.1, y.2.1, y.2.2)).take (w + 1) = cur.take w ++ [y] := by
          have hlw : (cur.take w).length = w := by rw [List.length_take]; omega
          rw [List.take_set, List.take_add_one, hcw, List.set_append_right _ _ (by omega), hlw, Nat.sub_self]
          rfl
        rw [i3, ht, List.append_assoc]
        congr 1
        conv => rhs; unfold ddR
        rw [if_neg e]
        rfl
      · rw [slices_Compact_impl_Shape_impl_Shape_l9, dec_lt_t (by omega), dec_le_t (by omega), cond_true, Bool.and_self, cond_true, Int.toNat_natCast, m1 p (by omega), hy, Option.bind_some, em, dec_le_t (by omega), dec_lt_t (by omega), Bool.and_self, cond_true, Int.toNat_natCast, m1 (p - 1) (by omega), hp1, Option.bind_some, hstep, decide_eq_false e, Bool.not_false, cond_true, cond_true, Option.bind_some, Int.toNat_natCast, dec_le_t (by omega), dec_lt_t (by omega), Bool.and_self, cond_true, hcw, Option.bind_some, en, ew]
        exact i4 b r
  | _, 0, _, _, _, _, _, _, _, _, _, _, _, _, _, hk => by omega

theorem cpt_l4 (l : List (Int × Int × Int)) (hl : l.length ≤ 1000000) (r : List (Int × Int × Int) → Option α) : ∀ (rest : List (Int × Int × Int)) (k p : Nat) (prev : Int × Int × Int), l.drop p = rest → 1 ≤ p → p ≤ l.length → l[p - 1]? = some prev → 2 * rest.length + 2 < k →
    slices_Compact_impl_Shape_impl_Shape_l4 k (p : Int) l (fun _ s => r s) r = r (l.take p ++ ddR prev rest)
  | [], k + 1, p, prev, hd, h1, hpl, hprev, _ => by
    have hlp : p = l.length := by have := drop_nil hd; omega
    rw [slices_Compact_impl_Shape_impl_Shape_l4, dec_lt_f (by omega), cond_false]
    simp [ddR, hlp]
  | y :: rest, k + 1, p, prev, hd, h1, hpl, hprev, hk => by
    obtain ⟨g1, g2, g3⟩ := drop_cons hd
    have en : w64 ((p : Int) + 1) = ((p + 1 : Nat) : Int) := by rw [w64_of (by omega) (by omega)]; omega
    have em : w64 ((p : Int) - 1) = ((p - 1 : Nat) : Int) := by rw [w64_of (by omega) (by omega)]; omega
    have hnext : l[p + 1 - 1]? = some y := by rw [Nat.add_sub_cancel]; exact g1
    have hstep : (decide (y.1 = prev.1) && (decide (y.2.1 = prev.2.1) && decide (y.2.2 = prev.2.2))) = decide (y = prev) := by
      rw [Bool.eq_iff_iff]
      simp [Prod.ext_iff]
    have ht : l.take (p + 1) = l.take p ++ [y] := by
      rw [List.take_add_one, g1]
      rfl
    rw [slices_Compact_impl_Shape_impl_Shape_l4, dec_lt_t (by omega), dec_le_t (by omega), cond_true, Bool.and_self, cond_true, Int.toNat_natCast, g1, Option.bind_some, em, dec_le_t (by omega), dec_lt_t (by omega), Bool.and_self, cond_true, Int.toNat_natCast, hprev, Option.bind_some, hstep]
    by_cases e : y = prev
    · rw [decide_eq_true e, cond_true, dec_le_t (show ((p : Nat) : Int) ≤ (l.length : Nat) by omega), Bool.and_self, cond_true]
      obtain ⟨w', cur', k2, i1, i2, i3, i4⟩ := cpt_l9 (α := α) l hl rest k p p (p + 1) l y g2 h1 (by omega) (by omega) (by omega) rfl rfl hnext (by simp at hk; omega)
      have i5 := fun b r => i4 b r
      rw [show ((p + 1 - p : Nat) : Int) = 1 by omega] at i5
      rw [i5, dec_le_t (by omega), dec_le_t (by omega), Bool.and_self, cond_true, Int.toNat_natCast]
      have hlen : ((cur'.take w' ++ List.replicate (cur'.length - w') ((0 : Int), (0 : Int), (0 : Int))) ++ cur'.drop (w' + (cur'.length - w'))).length = cur'.length := by simp; omega
      rw [hlen, dec_le_t (by omega), Bool.and_self, cond_true]
      have htk : ((cur'.take w' ++ List.replicate (cur'.length - w') ((0 : Int), (0 : Int), (0 : Int))) ++ cur'.drop (w' + (cur'.length - w'))).take (w' - 0) = cur'.take w' := by
        rw [Nat.sub_zero, List.append_assoc, List.take_append_of_le_length (by simp; omega), List.take_take, Nat.min_self]
      rw [htk, i3]
      congr 2
      conv => rhs; unfold ddR
      rw [if_pos e]
    · rw [decide_eq_false e, cond_false, en, cpt_l4 l hl r rest k (p + 1) y g2 (by omega) (by omega) hnext (by simp at hk; omega), ht, List.append_assoc]
      congr 2
      conv => rhs; unfold ddR
      rw [if_neg e]
      rfl
  | _, 0, _, _, _, _, _, _, hk => by omega

theorem compact_eq (k : Nat) {l : List (Int × Int × Int)} (hl : l.length ≤ 1000000) (hk : 2000010 < k) (r : List (Int × Int × Int) → Option α) : slices_Compact_impl_Shape_impl_Shape k l r = r (ddS l) := by
  unfold slices_Compact_impl_Shape_impl_Shape
  match l with
  | [] => rfl
  | [x] => rfl
  | x :: y :: t =>
    rw [dec_lt_f (by simp; omega), cond_false]
    have := cpt_l4 (α := α) (x :: y :: t) hl r (y :: t) k 1 x rfl (by omega) (by simp) rfl (by simp only [List.length_cons] at hl ⊢; omega)
    simpa [ddS] using this

theorem tdiv_w {n L : Int} (h1 : 1 ≤ n) (h2 : n ≤ 200) (hL : 1 ≤ L) : w64 (Int.tdiv n L) = n / L ∧ 0 ≤ n / L ∧ n / L ≤ 200 := by
  have e : Int.tdiv n L = n / L := Int.tdiv_eq_ediv_of_nonneg (by omega)
  have a := Int.ediv_nonneg (show 0 ≤ n by omega) (show 0 ≤ L by omega)
  have b := Int.ediv_le_self L (show 0 ≤ n by omega)
  rw [e, w64_of (by omega) (by omega)]
  exact ⟨rfl, a, by omega⟩

theorem tmod_d {n L : Int} (h1 : 1 ≤ n) : decide (Int.tmod n L = 0) = decide (n % L = 0) := by
  rw [Int.tmod_eq_emod_of_nonneg (by omega)]

theorem trip_dec (x y z : Int) (s : Int × Int × Int) : (decide (s.1 = x) && (decide (s.2.1 = y) && decide (s.2.2 = z))) = decide (s = (x, y, z)) := by
  rw [Bool.eq_iff_iff]
  simp [Prod.ext_iff]

theorem sp_l9 {n L : Int} (h1 : 1 ≤ n) (h2 : n ≤ 200) (hL : 1 ≤ L) (hd : n % L = 0) : ∀ (m k : Nat) (x : Int) (out : List (Int × Int × Int)) (b : Int → Int → Int → List (Int × Int × Int) → Option α) (r0 : Int → Option α) (r1 : List (Int × Int × Int) → Int → Option α), x + m = n / L → 0 ≤ x → out.length + m ≤ 1000000 → m + 1000000200 < k →
    spec_TrianglesOfArea_l9 k n L x out b r0 r1 = b n L (n / L) (out ++ (colA L (n / L) m x).filter fun s => decide (normT s = s))
  | 0, k + 1, x, out, b, r0, r1, hx, h0, hl, hk => by
    have hw := tdiv_w h1 h2 hL
    rw [spec_TrianglesOfArea_l9, dec_eq_f (show L ≠ 0 by omega), cond_false, hw.1, dec_lt_f (by omega), cond_false, show x = n / L by omega]
    simp [colA]
  | m + 1, k + 1, x, out, b, r0, r1, hx, h0, hl, hk => by
    have hw := tdiv_w h1 h2 hL
    have hg : GoodS n (L, x, n / L) := ⟨hL, h0, by simp only; omega, Int.mul_ediv_cancel' (Int.dvd_of_emod_eq_zero hd)⟩
    have hT := (isT_of_good h2 hg).1
    have ne := (normal_eq (α := α) k (by omega) hT).1
    have en : w64 (x + 1) = x + 1 := w64_of (by omega) (by omega)
    have hb : decide (out.length + 1 ≤ big) = true := decide_eq_true (by rw [big_val]; omega)
    rw [spec_TrianglesOfArea_l9, dec_eq_f (show L ≠ 0 by omega), cond_false, hw.1, dec_lt_t (by omega), cond_true, cond_false]
    simp only [spec_l04Of, ne, en, hb, cond_true]
    have e : (decide ((normS 0 0 L 0 x (n / L)).1 = L) && (decide ((normS 0 0 L 0 x (n / L)).2.1 = x) && decide ((normS 0 0 L 0 x (n / L)).2.2 = n / L))) = decide (normT (L, x, n / L) = (L, x, n / L)) := trip_dec L x (n / L) _
    rw [e]
    have hc : colA L (n / L) (m + 1) x = (L, x, n / L) :: colA L (n / L) m (x + 1) := rfl
    rw [hc]
    by_cases hn : normT (L, x, n / L) = (L, x, n / L)
    · rw [decide_eq_true hn, cond_true, sp_l9 h1 h2 hL hd m k (x + 1) _ b r0 r1 (by omega) (by omega) (by simp; omega) (by omega), List.filter_cons, if_pos (by simpa using hn), List.append_assoc]
      rfl
    · rw [decide_eq_false hn, cond_false, sp_l9 h1 h2 hL hd m k (x + 1) _ b r0 r1 (by omega) (by omega) (by omega) (by omega), List.filter_cons, if_neg (by simpa using hn)]
  | _, 0, _, _, _, _, _, _, _, _, hk => by omega

theorem sp_l5 {n : Int} (h1 : 1 ≤ n) (h2 : n ≤ 200) : ∀ (m k : Nat) (L : Int) (out : List (Int × Int × Int)) (b : Int → Int → List (Int × Int × Int) → Option α) (r0 : Int → Option α) (r1 : List (Int × Int × Int) → Int → Option α), L + m = n + 1 → 1 ≤ L → out.length + 200 * m ≤ 900000 → m + 1000000500 < k →
    spec_TrianglesOfArea_l5 k n L out b r0 r1 = b n (n + 1) (out ++ (allA n m L).filter fun s => decide (normT s = s))
  | 0, k + 1, L, out, b, r0, r1, hx, h0, hl, hk => by
    rw [spec_TrianglesOfArea_l5, dec_le_f (by omega), cond_false, show L = n + 1 by omega]
    simp [allA]
  | m + 1, k + 1, L, out, b, r0, r1, hx, h0, hl, hk => by
    have hw := tdiv_w h1 h2 h0
    have en : w64 (L + 1) = L + 1 := w64_of (by omega) (by omega)
    rw [spec_TrianglesOfArea_l5, dec_le_t (by omega), cond_true, dec_eq_f (show L ≠ 0 by omega), cond_false, tmod_d h1]
    have hc : allA n (m + 1) L = (if n % L = 0 then colA L (n / L) (n / L).toNat 0 else []) ++ allA n m (L + 1) := rfl
    rw [hc]
    by_cases hd : n % L = 0
    · have hlen : ((colA L (n / L) (n / L).toNat 0).filter fun s => decide (normT s = s)).length ≤ 200 := by
        have a := List.length_filter_le (fun s => decide (normT s = s)) (colA L (n / L) (n / L).toNat 0)
        rw [colA_len] at a
        omega
      rw [decide_eq_true hd, Bool.not_true, cond_false, if_pos hd, sp_l9 h1 h2 h0 hd (n / L).toNat k 0 out _ r0 r1 (by omega) (by omega) (by omega) (by omega), en, sp_l5 h1 h2 m k (L + 1) _ b r0 r1 (by omega) (by omega) (by rw [List.length_append]; omega) (by omega), List.filter_append, List.append_assoc]
    · rw [decide_eq_false hd, Bool.not_false, cond_true, if_neg hd, en, sp_l5 h1 h2 m k (L + 1) _ b r0 r1 (by omega) (by omega) (by omega) (by omega)]
      rfl
  | _, 0, _, _, _, _, _, _, _, _, hk => by omega

theorem im_l9 {n L : Int} (h1 : 1 ≤ n) (h2 : n ≤ 200) (hL : 1 ≤ L) (hd : n % L = 0) : ∀ (m k : Nat) (x : Int) (out : List (Int × Int × Int)) (b : Int → Int → Int → Int → List (Int × Int × Int) → Option α) (r0 : Int → Option α) (r1 : List (Int × Int × Int) → Int → Option α), x + m = n / L → 0 ≤ x → out.length + m ≤ 1000000 → m + 1000000200 < k →
    impl_TrianglesOfArea_l9 k n L (n / L) x out b r0 r1 = b n L (n / L) (n / L) (out ++ (colA L (n / L) m x).map normT)
  | 0, k + 1, x, out, b, r0, r1, hx, h0, hl, hk => by
    rw [impl_TrianglesOfArea_l9, dec_lt_f (by omega), cond_false, show x = n / L by omega]
    simp [colA]
  | m + 1, k + 1, x, out, b, r0, r1, hx, h0, hl, hk => by
    have hw := tdiv_w h1 h2 hL
    have hg : GoodS n (L, x, n / L) := ⟨hL, h0, by simp only; omega, Int.mul_ediv_cancel' (Int.dvd_of_emod_eq_zero hd)⟩
    have hT := (isT_of_good h2 hg).1
    have ne := (normal_eq (α := α) k (by omega) hT).2
    have en : w64 (x + 1) = x + 1 := w64_of (by omega) (by omega)
    have hb : decide (out.length + 1 ≤ big) = true := decide_eq_true (by rw [big_val]; omega)
    rw [impl_TrianglesOfArea_l9, dec_lt_t (by omega), cond_true, dec_eq_f (show L ≠ 0 by omega), cond_false, hw.1]
    simp only [impl_Shape_triangle, ne, en, hb, cond_true]
    have hc : colA L (n / L) (m + 1) x = (L, x, n / L) :: colA L (n / L) m (x + 1) := rfl
    rw [hc, im_l9 h1 h2 hL hd m k (x + 1) _ b r0 r1 (by omega) (by omega) (by simp; omega) (by omega), List.map_cons, List.append_assoc]
    rfl
  | _, 0, _, _, _, _, _, _, _, _, hk => by omega

theorem im_l5 {n : Int} (h1 : 1 ≤ n) (h2 : n ≤ 200) : ∀ (m k : Nat) (L : Int) (out : List (Int × Int × Int)) (b : Int → Int → List (Int × Int × Int) → Option α) (r0 : Int → Option α) (r1 : List (Int × Int × Int) → Int → Option α), L + m = n + 1 → 1 ≤ L → out.length + 200 * m ≤ 900000 → m + 1000000500 < k →
    impl_TrianglesOfArea_l5 k n L out b r0 r1 = b n (n + 1) (out ++ (allA n m L).map normT)
  | 0, k + 1, L, out, b, r0, r1, hx, h0, hl, hk => by
    rw [impl_TrianglesOfArea_l5, dec_le_f (by omega), cond_false, show L = n + 1 by omega]
    simp [allA]
  | m + 1, k + 1, L, out, b, r0, r1, hx, h0, hl, hk => by
    have hw := tdiv_w h1 h2 h0
    have en : w64 (L + 1) = L + 1 := w64_of (by omega) (by omega)
    rw [impl_TrianglesOfArea_l5, dec_le_t (by omega), cond_true, dec_eq_f (show L ≠ 0 by omega), cond_false, tmod_d h1]
    have hc : allA n (m + 1) L = (if n % L = 0 then colA L (n / L) (n / L).toNat 0 else []) ++ allA n m (L + 1) := rfl
    rw [hc]
    by_cases hd : n % L = 0
    · have hlen : ((colA L (n / L) (n / L).toNat 0).map normT).length ≤ 200 := by
        rw [List.length_map, colA_len]
        omega
      rw [decide_eq_true hd, Bool.not_true, cond_false, cond_false, if_pos hd, hw.1, im_l9 h1 h2 h0 hd (n / L).toNat k 0 out _ r0 r1 (by omega) (by omega) (by omega) (by omega), en, im_l5 h1 h2 m k (L + 1) _ b r0 r1 (by omega) (by omega) (by rw [List.length_append]; omega) (by omega), List.map_append, List.append_assoc]
    · rw [decide_eq_false hd, Bool.not_false, cond_true, if_neg hd, en, im_l5 h1 h2 m k (L + 1) _ b r0 r1 (by omega) (by omega) (by omega) (by omega)]
      rfl
  | _, 0, _, _, _, _, _, _, _, _, hk => by omega

theorem shapes_ok (k : Nat) (hk : 4 ≤ k) : SortOK (fun (p q : Int × Int × Int) => impl_shapeOrder (α := Int) k p.1 p.2.1 p.2.2 q.1 q.2.1 q.2.2) ∧ ∀ x y, Go.Proofs.ltOf (cfOf fun (p q : Int × Int × Int) => impl_shapeOrder (α := Int) k p.1 p.2.1 p.2.2 q.1 q.2.1 q.2.2) x y = bef x y := by
  have hc : ∀ x y, cfOf (fun (p q : Int × Int × Int) => impl_shapeOrder (α := Int) k p.1 p.2.1 p.2.2 q.1 q.2.1 q.2.2) x y = ordS x y := fun x y => by
    show (impl_shapeOrder (α := Int) k x.1 x.2.1 x.2.2 y.1 y.2.1 y.2.2 some).getD 0 = ordS x y
    rw [impl_order_eq k hk]
    rfl
  have hb : ∀ x y, Go.Proofs.ltOf (cfOf fun (p q : Int × Int × Int) => impl_shapeOrder (α := Int) k p.1 p.2.1 p.2.2 q.1 q.2.1 q.2.2) x y = bef x y := fun x y => by
    unfold Go.Proofs.ltOf
    rw [hc, ordS_bef]
  refine ⟨⟨fun x y => ⟨ordS x y, impl_order_eq k hk _ _ _ _ _ _ _⟩, ⟨fun x => by rw [hb]; exact bef_irr x, fun x y z h1 h2 => ?_, fun x y z h1 h2 => ?_⟩, fun x y h1 h2 => ?_⟩, hb⟩
  · rw [hb] at *
    exact bef_trans h1 h2
  · rw [hb] at *
    exact bef_nt h2 h1
  · rw [hb] at h1 h2
    exact bef_eq h1 h2

theorem sortShapes (k : Nat) (hk : 4 ≤ k) {l : List (Int × Int × Int)} (hl : l.length ≤ 1000000) : ∃ s : List (Int × Int × Int), s.length = l.length ∧ s.Pairwise (fun x y => bef y x = false) ∧ (∀ z, z ∈ s ↔ z ∈ l) ∧ ∀ r : List (Int × Int × Int) → Option α, slices_SortFunc_impl_Shape_impl_Shape_1F_impl_shapeOrder k l r = r s := by
  obtain ⟨h1, h2⟩ := shapes_ok k hk
  refine ⟨sortBy (cfOf fun (p q : Int × Int × Int) => impl_shapeOrder k p.1 p.2.1 p.2.2 q.1 q.2.1 q.2.2) l, List.length_mergeSort _, ?_, fun z => (List.mergeSort_perm _ _).mem_iff, fun r => ?_⟩
  · have := List.pairwise_mergeSort (le := fun x y => !(bef y x)) (fun a b c h1 h2 => by
      simp only [Bool.not_eq_true'] at *
      exact bef_nt h1 h2) (fun a b => by
      cases h1 : bef b a with
      | false => rfl
      | true =>
        have : bef a b = false := by
          rw [bef_iff] at h1
          rw [bef_false]
          omega
        simp [this]) l
    unfold sortBy
    have e : (fun x y => !(Go.Proofs.ltOf (cfOf fun (p q : Int × Int × Int) => impl_shapeOrder (α := Int) k p.1 p.2.1 p.2.2 q.1 q.2.1 q.2.2)) y x) = fun x y => !(bef y x) := by
      funext x y
      rw [h2]
    rw [e]
    exact this.imp fun h => by simpa using h
  · unfold slices_SortFunc_impl_Shape_impl_Shape_1F_impl_shapeOrder sortK
    rw [if_pos ⟨h1, by omega⟩]

theorem gcd_dvd_map (a b c d v1 v2 : Int) : gcdI v1 v2 ∣ gcdI (a * v1 + b * v2) (c * v1 + d * v2) := by
  have h1 : ((Int.gcd v1 v2 : Nat) : Int) ∣ a * v1 + b * v2 := Int.dvd_add (Int.dvd_trans (Int.gcd_dvd_left _ _) (Int.dvd_mul_left _ _)) (Int.dvd_trans (Int.gcd_dvd_right _ _) (Int.dvd_mul_left _ _))
  have h2 : ((Int.gcd v1 v2 : Nat) : Int) ∣ c * v1 + d * v2 := Int.dvd_add (Int.dvd_trans (Int.gcd_dvd_left _ _) (Int.dvd_mul_left _ _)) (Int.dvd_trans (Int.gcd_dvd_right _ _) (Int.dvd_mul_left _ _))
  unfold gcdI
  exact Int.dvd_coe_gcd h1 h2

theorem gcd_map {a b c d : Int} (hM : UniM a b c d) (v1 v2 : Int) : gcdI (a * v1 + b * v2) (c * v1 + d * v2) = gcdI v1 v2 := by
  have h1 := gcd_dvd_map a b c d v1 v2
  have h2 : gcdI (a * v1 + b * v2) (c * v1 + d * v2) ∣ gcdI v1 v2 := by
    rcases hM.det with hd | hd
    · have := gcd_dvd_map d (-b) (-c) a (a * v1 + b * v2) (c * v1 + d * v2)
      rw [show d * (a * v1 + b * v2) + -b * (c * v1 + d * v2) = v1 by grind, show -c * (a * v1 + b * v2) + a * (c * v1 + d * v2) = v2 by grind] at this
      exact this
    · have := gcd_dvd_map (-d) b c (-a) (a * v1 + b * v2) (c * v1 + d * v2)
      rw [show -d * (a * v1 + b * v2) + b * (c * v1 + d * v2) = v1 by grind, show c * (a * v1 + b * v2) + -a * (c * v1 + d * v2) = v2 by grind] at this
      exact this
  unfold gcdI at *
  have e1 := Int.natCast_dvd_natCast.1 h1
  have e2 := Int.natCast_dvd_natCast.1 h2
  rw [Nat.dvd_antisymm e2 e1]

/-- The number of boundary points, by a shape. -/
def bndS (s : Int × Int × Int) : Int := s.1 + gcdI s.2.1 s.2.2 + gcdI (s.2.1 - s.1) s.2.2

theorem bnd_shape {p0 p1 q0 q1 s0 s1 : Int} (hp0 : inT p0) (hp1 : inT p1) (hq0 : inT q0) (hq1 : inT q1) (hs0 : inT s0) (hs1 : inT s1) (hne : detS p0 p1 q0 q1 s0 s1 ≠ 0) : bndT p0 p1 q0 q1 s0 s1 = bndS (shapeI p0 p1 q0 q1 s0 s1) := by
  have hf := shape_facts hp0 hp1 hq0 hq1 hs0 hs1 hne
  have v1 := hq0.sub2 hp0
  have v2 := hq1.sub2 hp1
  obtain ⟨a, b, c, d, hM, e1, e2, e3, e4⟩ := shape_map (v1 := q0 - p0) (v2 := q1 - p1) (o1 := s0 - p0) (o2 := s1 - p1) hf.1 (by omega) (by omega) hne
  rw [← shapeI_V] at e1 e3 e4
  have hL : (shapeI p0 p1 q0 q1 s0 s1).1 = gcdI (q0 - p0) (q1 - p1) := rfl
  generalize hs : shapeI p0 p1 q0 q1 s0 s1 = S at *
  obtain ⟨L, x, H⟩ := S
  simp only at *
  have g1 := gcd_map hM (s0 - p0) (s1 - p1)
  rw [e3, e4] at g1
  have g2 := gcd_map hM (s0 - q0) (s1 - q1)
  rw [show a * (s0 - q0) + b * (s1 - q1) = x - L by grind, show c * (s0 - q0) + d * (s1 - q1) = H by grind] at g2
  unfold bndT bndS
  simp only
  rw [g1, g2, hL, ← gcdI_neg2 (p0 - s0) (p1 - s1), show -(p0 - s0) = s0 - p0 by omega, show -(p1 - s1) = s1 - p1 by omega]
  omega

theorem bndT_perm (a b c d e f : Int) : bndT a b e f c d = bndT a b c d e f ∧ bndT c d a b e f = bndT a b c d e f ∧ bndT c d e f a b = bndT a b c d e f ∧ bndT e f a b c d = bndT a b c d e f ∧ bndT e f c d a b = bndT a b c d e f := by
  have n1 : gcdI (a - c) (b - d) = gcdI (c - a) (d - b) := by rw [← gcdI_neg2 (a - c), show -(a - c) = c - a by omega, show -(b - d) = d - b by omega]
  have n2 : gcdI (c - e) (d - f) = gcdI (e - c) (f - d) := by rw [← gcdI_neg2 (c - e), show -(c - e) = e - c by omega, show -(d - f) = f - d by omega]
  have n3 : gcdI (e - a) (f - b) = gcdI (a - e) (b - f) := by rw [← gcdI_neg2 (e - a), show -(e - a) = a - e by omega, show -(f - b) = b - f by omega]
  unfold bndT
  rw [n1, n2, n3]
  omega

/-- What a normal shape tells of its triangle. -/
theorem norm_tells {a b c d e f : Int} (h : IsT a b c d e f) : GoodS (absI (detS a b c d e f)) (normS a b c d e f) ∧ bndT a b c d e f = bndS (normS a b c d e f) ∧
    ((normS a b c d e f).1 ≤ 1000 → (normS a b c d e f).2.2 ≤ 1000 → normS 0 0 (normS a b c d e f).1 0 (normS a b c d e f).2.1 (normS a b c d e f).2.2 = normS a b c d e f) := by
  have hne : detS a b c d e f ≠ 0 := h.ne
  have e02 : detS a b e f c d = -detS a b c d e f := by unfold detS; grind
  have e10 : detS c d a b e f = -detS a b c d e f := by unfold detS; grind
  have e12 : detS c d e f a b = detS a b c d e f := by unfold detS; grind
  have e20 : detS e f a b c d = detS a b c d e f := by unfold detS; grind
  have e21 : detS e f c d a b = -detS a b c d e f := by unfold detS; grind
  have ea : absI (-detS a b c d e f) = absI (detS a b c d e f) := by unfold absI; omega
  obtain ⟨s1, s2, s3, s4, s5⟩ := six_perm a b c d e f
  obtain ⟨b1, b2, b3, b4, b5⟩ := bndT_perm a b c d e f
  have key : ∀ {p0 p1 q0 q1 s0 s1 : Int}, inT p0 → inT p1 → inT q0 → inT q1 → inT s0 → inT s1 → detS p0 p1 q0 q1 s0 s1 ≠ 0 → absI (detS p0 p1 q0 q1 s0 s1) = absI (detS a b c d e f) → (∀ y, y ∈ six p0 p1 q0 q1 s0 s1 ↔ y ∈ six a b c d e f) → bndT p0 p1 q0 q1 s0 s1 = bndT a b c d e f → normS a b c d e f = shapeI p0 p1 q0 q1 s0 s1 →
      GoodS (absI (detS a b c d e f)) (normS a b c d e f) ∧ bndT a b c d e f = bndS (normS a b c d e f) ∧
      ((normS a b c d e f).1 ≤ 1000 → (normS a b c d e f).2.2 ≤ 1000 → normS 0 0 (normS a b c d e f).1 0 (normS a b c d e f).2.1 (normS a b c d e f).2.2 = normS a b c d e f) := by
    intro p0 p1 q0 q1 s0 s1 h1 h2 h3 h4 h5 h6 hn hab hm hbn hs
    have g := shape_good h1 h2 h3 h4 h5 h6 hn
    have gb := bnd_shape h1 h2 h3 h4 h5 h6 hn
    rw [hab] at g
    refine ⟨by rw [hs]; exact g, by rw [← hbn, gb, hs], fun hL hH => ?_⟩
    obtain ⟨g1, g2, g3, _⟩ := g
    rw [hs] at hL hH
    have e : normS 0 0 (shapeI p0 p1 q0 q1 s0 s1).1 0 (shapeI p0 p1 q0 q1 s0 s1).2.1 (shapeI p0 p1 q0 q1 s0 s1).2.2 = normS p0 p1 q0 q1 s0 s1 := normS_of fun y => by rw [six_T h1 h2 h3 h4 h5 h6 hn hL g2 (by omega) hH (by omega)]
    rw [normS_of hm] at e
    rw [← hs] at e
    exact e
  have hm := (normS_min a b c d e f).1
  simp only [six, List.mem_cons, List.not_mem_nil, or_false] at hm
  rcases hm with hm | hm | hm | hm | hm | hm
  · exact key h.a h.b h.c h.d h.e h.f hne rfl (fun _ => Iff.rfl) rfl hm
  · exact key h.a h.b h.e h.f h.c h.d (by omega) (by rw [e02, ea]) s1 b1 hm
  · exact key h.c h.d h.a h.b h.e h.f (by omega) (by rw [e10, ea]) s2 b2 hm
  · exact key h.c h.d h.e h.f h.a h.b (by omega) (by rw [e12]) s3 b3 hm
  · exact key h.e h.f h.a h.b h.c h.d (by omega) (by rw [e20]) s4 b4 hm
  · exact key h.e h.f h.c h.d h.a h.b (by omega) (by rw [e21, ea]) s5 b5 hm

/-- A shape's triangle has it. -/
theorem shape_of_T {L x H : Int} (hL : 1 ≤ L) (hL2 : L ≤ 1000) (hx : 0 ≤ x) (hxH : x < H) : shapeI 0 0 L 0 x H = (L, x, H) := by
  have h := shV_char (u1 := 1) (u2 := 0) (m1 := 0) (m2 := 1) (g := L) (o1 := x) (o2 := H) (by omega) (by omega) (by omega) (by omega)
  rw [Int.one_mul, Int.zero_mul] at h
  rw [shapeI_V, Int.sub_zero, Int.sub_zero, Int.sub_zero, Int.sub_zero, h]
  have ha : absI (1 * H - 0 * x) = H := by unfold absI; omega
  rw [ha, show x * 1 - H * 0 = x by omega, Int.emod_eq_of_lt hx hxH]

/-- The first shape of an area. -/
theorem normT_first {n : Int} (h1 : 1 ≤ n) (h2 : n ≤ 200) : normT (1, 0, n) = (1, 0, n) := by
  have hg : GoodS n (1, 0, n) := ⟨by simp, by simp, by simp only; omega, by simp⟩
  obtain ⟨g, _⟩ := normT_good h2 hg
  have hs := shape_of_T (L := 1) (x := 0) (H := n) (by omega) (by omega) (by omega) (by omega)
  have hm := (normS_min 0 0 1 0 0 n).2 (1, 0, n) (by rw [← hs]; unfold six; exact List.mem_cons_self)
  change bef (1, 0, n) (normT (1, 0, n)) = false at hm
  rw [bef_false] at hm
  obtain ⟨g1, g2, g3, g4⟩ := g
  simp only at hm
  generalize normT (1, 0, n) = s at *
  obtain ⟨L, x, H⟩ := s
  simp only at *
  have e1 : L = 1 := by omega
  subst e1
  have e2 : x = 0 := by omega
  have e3 : H = n := by omega
  rw [e2, e3]

theorem normShape_both (k : Nat) (hk : 1000000100 < k) (a b c d e f : Int) : ∃ s z, (z ≠ 0 → s = (0, 0, 0)) ∧ (z = 0 → IsT a b c d e f ∧ s = normS a b c d e f) ∧
    (∀ r : Int → Int → Int → Int → Option α, impl_NormalShape k a b c d e f r = r s.1 s.2.1 s.2.2 z) ∧ ∀ r : Int → Int → Int → Int → Option α, spec_NormalShape k a b c d e f r = r s.1 s.2.1 s.2.2 z := by
  simp only [impl_NormalShape, spec_NormalShape]
  rcases tri_cases (α := α) k a b c d e f with ⟨h1, h2⟩ | ⟨h, h1, h2⟩
  · exact ⟨(0, 0, 0), 1, fun _ => rfl, fun h => absurd h (by decide), fun r => by simp [h2], fun r => by simp [h1]⟩
  · have en := normal_eq (α := α) k hk h
    exact ⟨normS a b c d e f, 0, fun h => absurd rfl h, fun _ => ⟨h, rfl⟩, fun r => by simp [h2, en.2], fun r => by simp [h1, en.1]⟩

theorem impl_normShape (k : Nat) (hk : 1000000100 < k) {a b c d e f : Int} (h : IsT a b c d e f) (r : Int → Int → Int → Int → Option α) : impl_NormalShape k a b c d e f r = r (normS a b c d e f).1 (normS a b c d e f).2.1 (normS a b c d e f).2.2 0 := by
  simp only [impl_NormalShape, (isT_eq k h).2, (normal_eq (α := α) k hk h).2, Bool.not_true, cond_false]

theorem shapeOf_both (k : Nat) (hk : 1000000000 < k) (a b c d e f i j : Int) : ∃ p q s z, (∀ r : Int → Int → Int → Int → Option α, impl_ShapeOf k a b c d e f i j r = r p q s z) ∧ ∀ r : Int → Int → Int → Int → Option α, spec_ShapeOf k a b c d e f i j r = r p q s z := by
  simp only [impl_ShapeOf, spec_ShapeOf, spec_l01In_eq, impl_in_eq]
  rcases tri_cases (α := α) k a b c d e f with ⟨h1, h2⟩ | ⟨h, h1, h2⟩
  · exact ⟨0, 0, 0, 1, fun r => by simp [h2], fun r => by simp [h1]⟩
  · cases hi : inB i 0 2 with
    | false => exact ⟨0, 0, 0, 2, fun r => by simp [h2], fun r => by simp [h1]⟩
    | true =>
      cases hj : inB j 0 2 with
      | false => exact ⟨0, 0, 0, 2, fun r => by simp [h2], fun r => by simp [h1]⟩
      | true =>
        by_cases hij : i = j
        · exact ⟨0, 0, 0, 2, fun r => by simp [h2, hij], fun r => by simp [h1, hij]⟩
        · have en := shapes_eq (α := α) k hk h (inB_iff.1 hi) (inB_iff.1 hj) hij
          exact ⟨_, _, _, 0, fun r => by simp only [h2, hij, en.2, Bool.not_true, cond_false, decide_false]; rfl, fun r => by simp only [h1, hij, en.1, Bool.not_true, cond_false, decide_false]⟩

/-- A shape that has a triangle. -/
def OkS (x y z : Int) : Prop := 1 ≤ x ∧ x ≤ 1000 ∧ 0 ≤ y ∧ y < z ∧ z ≤ 1000

theorem okS_T {x y z : Int} (h : OkS x y z) : IsT 0 0 x 0 y z := by
  obtain ⟨h1, h2, h3, h4, h5⟩ := h
  have hp := Int.mul_pos (show 0 < x by omega) (show 0 < z by omega)
  refine ⟨?_, ?_, ?_, ?_, ?_, ?_, ?_⟩
  · rw [Int.sub_zero, Int.sub_zero]
    omega
  all_goals (unfold inT; omega)

theorem triangleOf_both (k : Nat) (x y z : Int) : ∃ a b c d e f w, (w = 0 → OkS x y z ∧ a = 0 ∧ b = 0 ∧ c = x ∧ d = 0 ∧ e = y ∧ f = z) ∧
    (∀ r : Int → Int → Int → Int → Int → Int → Int → Option α, impl_TriangleOf k x y z r = r a b c d e f w) ∧ ∀ r : Int → Int → Int → Int → Int → Int → Int → Option α, spec_TriangleOf k x y z r = r a b c d e f w := by
  simp only [impl_TriangleOf, spec_TriangleOf, spec_l01In_eq, impl_in_eq, spec_l04Of, impl_Shape_triangle]
  cases hx : inB x 1 1000 with
  | false => exact ⟨0, 0, 0, 0, 0, 0, 2, fun h => absurd h (by decide), fun r => by simp, fun r => by simp⟩
  | true =>
    cases hz : inB z 1 1000 with
    | false => exact ⟨0, 0, 0, 0, 0, 0, 2, fun h => absurd h (by decide), fun r => by simp, fun r => by simp⟩
    | true =>
      have hx' := inB_iff.1 hx
      have hz' := inB_iff.1 hz
      have ew : w64 (z - 1) = z - 1 := w64_of (by omega) (by omega)
      rw [ew]
      cases hy : inB y 0 (z - 1) with
      | false => exact ⟨0, 0, 0, 0, 0, 0, 2, fun h => absurd h (by decide), fun r => by simp, fun r => by simp⟩
      | true =>
        have hy' := inB_iff.1 hy
        exact ⟨0, 0, x, 0, y, z, 0, fun _ => ⟨⟨hx'.1, hx'.2, hy'.1, by omega, hz'.2⟩, rfl, rfl, rfl, rfl, rfl, rfl⟩, fun r => by simp, fun r => by simp⟩

theorem impl_triangleOf (k : Nat) {x y z : Int} (h : OkS x y z) (r : Int → Int → Int → Int → Int → Int → Int → Option α) : impl_TriangleOf k x y z r = r 0 0 x 0 y z 0 := by
  obtain ⟨h1, h2, h3, h4, h5⟩ := h
  have ew : w64 (z - 1) = z - 1 := w64_of (by omega) (by omega)
  simp only [impl_TriangleOf, impl_in_eq, impl_Shape_triangle, ew, inB_iff.2 ⟨h1, h2⟩, inB_iff.2 (show 1 ≤ z ∧ z ≤ 1000 by omega), inB_iff.2 (show 0 ≤ y ∧ y ≤ z - 1 by omega), Bool.not_true, cond_false]

theorem impl_shapeOf_T (k : Nat) (hk : 1000000000 < k) {x y z : Int} (h : OkS x y z) (r : Int → Int → Int → Int → Option α) : impl_ShapeOf k 0 0 x 0 y z 0 1 r = r x y z 0 := by
  have hT := okS_T h
  obtain ⟨h1, h2, h3, h4, h5⟩ := h
  have e := shapes_eq (α := α) k hk hT (i := 0) (j := 1) (by omega) (by omega) (by omega)
  have hs : shapeT 0 0 x 0 y z 0 1 = (x, y, z) := shape_of_T h1 h2 h3 h4
  simp only [impl_ShapeOf, impl_in_eq, (isT_eq k hT).2, inB_iff.2 (show (0 : Int) ≤ 0 ∧ (0 : Int) ≤ 2 by omega), inB_iff.2 (show (0 : Int) ≤ 1 ∧ (1 : Int) ≤ 2 by omega), Bool.not_true, cond_false, e.2, hs]
  rfl

theorem areEqual_both (k : Nat) (hk : 1000000100 < k) (a b c d e f u v w x y z : Int) : ∃ q t, (t = 0 → q = true → IsT a b c d e f ∧ IsT u v w x y z ∧ normS a b c d e f = normS u v w x y z) ∧
    (∀ r : Bool → Int → Option α, impl_AreEqualTriangles k a b c d e f u v w x y z r = r q t) ∧ ∀ r : Bool → Int → Option α, spec_AreEqualTriangles k a b c d e f u v w x y z r = r q t := by
  simp only [impl_AreEqualTriangles, spec_AreEqualTriangles]
  rcases tri_cases (α := α) k a b c d e f with ⟨h1, h2⟩ | ⟨h, h1, h2⟩
  · exact ⟨false, 1, fun h => absurd h (by decide), fun r => by simp [h2], fun r => by simp [h1]⟩
  · rcases tri_cases (α := α) k u v w x y z with ⟨g1, g2⟩ | ⟨g, g1, g2⟩
    · exact ⟨false, 1, fun h => absurd h (by decide), fun r => by simp [h2, g2], fun r => by simp [h1, g1]⟩
    · have e1 := normal_eq (α := α) k hk h
      have e2 := normal_eq (α := α) k hk g
      refine ⟨decide (normS a b c d e f = normS u v w x y z), 0, fun _ hq => ⟨h, g, of_decide_eq_true hq⟩, fun r => ?_, fun r => ?_⟩
      · simp only [h2, g2, e1.2, e2.2, Bool.not_true, cond_false]
        rw [trip_dec]
      · simp only [h1, g1, e1.1, e2.1, Bool.not_true, cond_false]
        rw [trip_dec]

theorem impl_areEqual (k : Nat) (hk : 1000000100 < k) {a b c d e f u v w x y z : Int} (h : IsT a b c d e f) (g : IsT u v w x y z) (he : normS a b c d e f = normS u v w x y z) (r : Bool → Int → Option α) : impl_AreEqualTriangles k a b c d e f u v w x y z r = r true 0 := by
  simp only [impl_AreEqualTriangles, (isT_eq k h).2, (isT_eq k g).2, (normal_eq (α := α) k hk h).2, (normal_eq (α := α) k hk g).2, Bool.not_true, cond_false, he]
  simp

/-- The list of an area. -/
theorem areas_K (k : Nat) (hk : 1003000000 < k) (n : Int) : ∃ z l, l.length ≤ 40000 ∧ (z = 0 → 1 ≤ n ∧ n ≤ 200 ∧ (∃ t, l = (1, 0, n) :: t) ∧ ∀ s ∈ l, GoodS n s) ∧
    (∀ K : Int → List (Int × Int × Int) → Option α, impl_TrianglesOfArea k n (fun v => K v []) (fun l v => K v l) = K z l) ∧ ∀ K : Int → List (Int × Int × Int) → Option α, spec_TrianglesOfArea k n (fun v => K v []) (fun l v => K v l) = K z l := by
  simp only [spec_TrianglesOfArea, impl_TrianglesOfArea, spec_l01In_eq, impl_in_eq]
  cases hi : inB n 1 200 with
  | false => exact ⟨2, [], by simp, fun h => absurd h (by decide), fun K => by simp, fun K => by simp⟩
  | true =>
    obtain ⟨h1, h2⟩ := inB_iff.1 hi
    have hlen := allA_len (n := n) (by omega) h2 n.toNat 1 (by omega)
    obtain ⟨s, q1, q2, q3, q4⟩ := sortShapes (α := α) k (by omega) (l := (allA n n.toNat 1).map normT) (by rw [List.length_map]; omega)
    rw [List.length_map] at q1
    have hL := area_lists h1 h2 q2 q3
    refine ⟨0, (allA n n.toNat 1).filter fun s => decide (normT s = s), ?_, fun _ => ⟨h1, h2, ?_, fun s hs => (allA_good h1).1 (List.mem_filter.1 hs).1⟩, fun K => ?_, fun K => ?_⟩
    · have := List.length_filter_le (fun s => decide (normT s = s)) (allA n n.toNat 1)
      omega
    · obtain ⟨m, hm⟩ : ∃ m, n.toNat = m + 1 := ⟨n.toNat - 1, by omega⟩
      have e1 : allA n n.toNat 1 = (1, 0, n) :: (colA 1 n m 1 ++ allA n m 2) := by
        rw [hm]
        show (if n % 1 = 0 then colA 1 (n / 1) (n / 1).toNat 0 else []) ++ allA n m 2 = _
        rw [Int.emod_one, if_pos rfl, Int.ediv_one, hm]
        rfl
      rw [e1, List.filter_cons, if_pos (by simpa using normT_first h1 h2)]
      exact ⟨_, rfl⟩
    · rw [Bool.not_true, cond_false, im_l5 h1 h2 n.toNat k 1 [] _ _ _ (by omega) (by omega) (by simp; omega) (by omega), List.nil_append, q4, compact_eq k (by omega) (by omega), hL]
    · rw [Bool.not_true, cond_false, sp_l5 h1 h2 n.toNat k 1 [] _ _ _ (by omega) (by omega) (by simp; omega) (by omega)]
      rfl

theorem dNormal_ok {l : List Int} (hl : IsCode l) (k : Nat) (hk : 4096 < k) : ∃ a b c d e f, ∀ r : Int → Int → Int → Int → Int → Int → Option α, spec_DrawNormalShape k l r = r a b c d e f := by
  obtain ⟨h, i1, i2⟩ := from_ok (α := α) hl k hk
  obtain ⟨a, b, c, d, e, f, s1, h1, j1, j2⟩ := spoil4_ok (α := α) hl i1 k h
  exact ⟨a, b, c, d, e, f, fun r => by unfold spec_DrawNormalShape; rw [i2, j2]⟩

theorem dShapeOf_ok {l : List Int} (hl : IsCode l) (k : Nat) (hk : 4096 < k) : ∃ a b c d e f i j, ∀ r : Int → Int → Int → Int → Int → Int → Int → Int → Option α, spec_DrawShapeOf k l r = r a b c d e f i j := by
  obtain ⟨h, i1, i2⟩ := from_ok (α := α) hl k hk
  obtain ⟨u, s2, h2, k1, _, _, k2⟩ := next_ok (α := α) hl i1 k h 3
  obtain ⟨a, b, c, d, e, f, s1, h1, j1, j2⟩ := spoil4_ok (α := α) hl k1 k h2
  obtain ⟨v, s3, h3, l1, _, _, l2⟩ := next_ok (α := α) hl j1 k h1 2
  obtain ⟨w, s4, h4, m1, _, _, m2⟩ := next_ok (α := α) hl l1 k h3 16
  exact ⟨a, b, c, d, e, f, u, (Int.tmod (w64 ((w64 ((w64 (u + 1)) + v)) + (w64 (Int.tdiv w 15)))) 4), fun r => by unfold spec_DrawShapeOf; rw [i2, k2, j2, l2, m2]⟩

theorem dTriangleOf_ok {l : List Int} (hl : IsCode l) (k : Nat) (hk : 4096 < k) : ∃ a b c, ∀ r : Int → Int → Int → Option α, spec_DrawTriangleOf k l r = r a b c := by
  obtain ⟨h, i1, i2⟩ := from_ok (α := α) hl k hk
  obtain ⟨u, s1, h1, j1, _, _, j2⟩ := next_ok (α := α) hl i1 k h 6
  obtain ⟨v, s2, h2, k1, _, _, k2⟩ := next_ok (α := α) hl j1 k h1 9
  obtain ⟨w, s3, h3, l1, _, _, l2⟩ := near_ok (α := α) hl k1 k h2 (most := 1000) (by omega) (by omega)
  obtain ⟨x, s4, h4, m1, _, m2⟩ := pick_ok (α := α) hl l1 k h3 (list := [(w64 (1 + v)), w]) (by simp) (by simp)
  obtain ⟨y, s5, h5, n1, _, _, n2⟩ := next_ok (α := α) hl m1 k h4 12
  obtain ⟨z, s6, h6, o1, _, _, o2⟩ := next_ok (α := α) hl n1 k h5 (w64 ((max x 1) + (w64 (Int.tdiv y 11))))
  obtain ⟨t, s7, h7, p1, _, _, p2⟩ := next_ok (α := α) hl o1 k h6 24
  by_cases ht : t = 0
  · obtain ⟨q, s8, h8, q1, _, q2⟩ := pick_ok (α := α) hl p1 k h7 (list := [0, 1000, 1001]) (by simp) (by simp)
    exact ⟨q, z, x, fun r => by unfold spec_DrawTriangleOf; rw [i2, j2, k2, l2, m2, n2, o2, p2, decide_eq_true ht, cond_true, q2]⟩
  · exact ⟨w64 (1 + u), z, x, fun r => by unfold spec_DrawTriangleOf; rw [i2, j2, k2, l2, m2, n2, o2, p2, decide_eq_false ht, cond_false]⟩

theorem dArea_n_ok {l : List Int} (hl : IsCode l) (k : Nat) (hk : 4096 < k) : ∃ n, ∀ r : Int → Option α, spec_DrawTrianglesOfArea k l r = r n := by
  obtain ⟨h, i1, i2⟩ := from_ok (α := α) hl k hk
  obtain ⟨u, s1, h1, j1, _, _, j2⟩ := next_ok (α := α) hl i1 k h 20
  obtain ⟨v, s2, h2, k1, _, _, k2⟩ := next_ok (α := α) hl j1 k h1 60
  obtain ⟨w, s3, h3, l1, _, _, l2⟩ := near_ok (α := α) hl k1 k h2 (most := 200) (by omega) (by omega)
  obtain ⟨x, s4, h4, m1, _, m2⟩ := pick_ok (α := α) hl l1 k h3 (list := [(w64 (1 + u)), v, w]) (by simp) (by simp)
  exact ⟨x, fun r => by unfold spec_DrawTrianglesOfArea; rw [i2, j2, k2, l2, m2]⟩

theorem apply_some (k : Nat) (a b c d x y : Int) : ∃ p q, ∀ r : Int → Int → Option α, spec_l01Apply k a b c d x y r = r p q := ⟨_, _, fun _ => rfl⟩

theorem dEqual_ok {l : List Int} (hl : IsCode l) (k : Nat) (hk : 4096 < k) : ∃ a b c d e f u v w x y z, ∀ r : Int → Int → Int → Int → Int → Int → Int → Int → Int → Int → Int → Int → Option α, spec_DrawAreEqualTriangles k l r = r a b c d e f u v w x y z := by
  obtain ⟨h, i1, i2⟩ := from_ok (α := α) hl k hk
  obtain ⟨a, b, c, d, e, f, s1, h1, j1, j2⟩ := small4_ok (α := α) hl i1 k h
  obtain ⟨m1, m2, m3, m4, s2, h2, k1, k2⟩ := unitM_ok (α := α) hl j1 k (by omega) h1
  obtain ⟨p, q, s3, h3, l1, _, _, l2⟩ := point_ok (α := α) hl k1 k h2 (most := 5) (by omega) (by omega)
  obtain ⟨a1, b1, e1⟩ := apply_some (α := α) k m1 m2 m3 m4 a b
  obtain ⟨a2, b2, e2⟩ := plus_some (α := α) k a1 b1 p q 1
  obtain ⟨c1, d1, e3⟩ := apply_some (α := α) k m1 m2 m3 m4 c d
  obtain ⟨c2, d2, e4⟩ := plus_some (α := α) k c1 d1 p q 1
  obtain ⟨g1, g2, e5⟩ := apply_some (α := α) k m1 m2 m3 m4 e f
  obtain ⟨g3, g4, e6⟩ := plus_some (α := α) k g1 g2 p q 1
  obtain ⟨t, et⟩ : ∃ t, ∀ r : Bool → Option α, spec_l04Is k g3 g4 a2 b2 c2 d2 r = r t := by
    rcases tri_cases (α := α) k g3 g4 a2 b2 c2 d2 with ⟨h1, _⟩ | ⟨_, h1, _⟩
    · exact ⟨false, h1⟩
    · exact ⟨true, h1⟩
  cases t with
  | false =>
    obtain ⟨u, v, w, x, y, z, s4, h4, o1, o2⟩ := small4_ok (α := α) hl l1 k h3
    exact ⟨a, b, c, d, e, f, u, v, w, x, y, z, fun r => by unfold spec_DrawAreEqualTriangles; rw [i2, j2, k2, l2, e1, e2, e3, e4, e5, e6, et, Bool.not_false, cond_true, o2]⟩
  | true =>
    obtain ⟨n, s4, h4, o1, _, _, o2⟩ := next_ok (α := α) hl l1 k h3 3
    by_cases hn : n = 0
    · obtain ⟨u, v, w, x, y, z, s5, h5, q1, q2⟩ := small4_ok (α := α) hl o1 k h4
      exact ⟨a, b, c, d, e, f, u, v, w, x, y, z, fun r => by unfold spec_DrawAreEqualTriangles; rw [i2, j2, k2, l2, e1, e2, e3, e4, e5, e6, et, Bool.not_true, cond_false, o2, decide_eq_true hn, cond_true, q2]⟩
    · exact ⟨a, b, c, d, e, f, g3, g4, a2, b2, c2, d2, fun r => by unfold spec_DrawAreEqualTriangles; rw [i2, j2, k2, l2, e1, e2, e3, e4, e5, e6, et, Bool.not_true, cond_false, o2, decide_eq_false hn, cond_false]⟩

theorem impl_bndTri (k : Nat) (hk : 1000000000 < k) {a b c d e f : Int} (h : IsT a b c d e f) (r : Int → Int → Option α) : impl_BoundaryOf k a b c d e f r = r (bndT a b c d e f) 0 := by
  have hb := bndT_b h
  simp only [impl_BoundaryOf, impl_ofTriangle_1F_impl_Triangle_boundary, (isT_eq k h).2, Bool.not_true, cond_false, impl_Triangle_boundary, impl_side01, impl_side12, impl_side20, impl_less_eq k _ _ _ _ _ h.c.wide h.d.wide h.a.wide h.b.wide, impl_less_eq k _ _ _ _ _ h.e.wide h.f.wide h.c.wide h.d.wide, impl_less_eq k _ _ _ _ _ h.a.wide h.b.wide h.e.wide h.f.wide,
    impl_length_eq k hk (h.c.sub2 h.a) (h.d.sub2 h.b), impl_length_eq k hk (h.e.sub2 h.c) (h.f.sub2 h.d), impl_length_eq k hk (h.a.sub2 h.e) (h.b.sub2 h.f), hb.2.2]

theorem fs49_15 (k : Nat) (hk : 1000000100 < k) {a b c d e f : Int} (h : IsT a b c d e f) (h1 : (normS a b c d e f).1 ≤ 1000) (h2 : (normS a b c d e f).2.2 ≤ 1000) (r : Bool → Option α) :
    laws_FnShapes_B15 k a b c d e f (normS a b c d e f).1 (normS a b c d e f).2.1 (normS a b c d e f).2.2 r = r true := by
  obtain ⟨g1, _, g3⟩ := norm_tells h
  have g3 := g3 h1 h2
  obtain ⟨q1, q2, q3, _⟩ := g1
  have ho : OkS (normS a b c d e f).1 (normS a b c d e f).2.1 (normS a b c d e f).2.2 := ⟨q1, h1, q2, q3, h2⟩
  have hT := okS_T ho
  simp only [laws_FnShapes_B15, laws_FnShapes_b15, impl_triangleOf k ho]
  rw [impl_normShape k hk hT, impl_areEqual k hk h hT g3.symm, g3]
  simp

theorem fs49_b12 (F5 : Nat → Int → Int → Int → Int → Int → Int → Int → Int → (Int → Int → Int → Int → Option α) → Option α) (k : Nat) {z w x y v a b c d e f n1 n2 n3 p q t u o m : Int} {κ51 κ55 : Option α} {κ56 : Int → Int → Int → Int → Int → Int → Int → Int → Int → Option α} {r : Bool → Option α}
    (hF : w = 0 → ∀ r : Int → Int → Int → Int → Option α, F5 k p q t u o m 0 1 r = r x y v 0)
    (ht : (bif (!decide (z = 0)) then r (decide (n1 = 0) && (decide (n2 = 0) && decide (n3 = 0))) else bif decide (1000 < n1) then κ55 else bif decide (1000 < n3) then κ55 else κ56 a b c d e f n1 n2 n3) = r true) :
    laws_FnShapes_b12 F5 k z w a b c d e f n1 n2 n3 x y v p q t u o m κ51 κ55 κ56 r = r true := by
  unfold laws_FnShapes_b12
  by_cases hw0 : w = 0
  · rw [decide_eq_true hw0, cond_true, hF hw0]
    simp only [decide_true, Bool.and_self, Bool.not_true, cond_false]
    exact ht
  · rw [decide_eq_false hw0, cond_false]
    exact ht

theorem fs49_12 (k : Nat) (hk : 1000000100 < k) {z a b c d e f : Int} {s : Int × Int × Int} (h0 : z ≠ 0 → s = (0, 0, 0)) (h1 : z = 0 → IsT a b c d e f ∧ s = normS a b c d e f)
    {w x y v p q t u o m : Int} (hw : w = 0 → OkS x y v ∧ p = 0 ∧ q = 0 ∧ t = x ∧ u = 0 ∧ o = y ∧ m = v) (r : Bool → Option α) :
    laws_FnShapes_B12 k z w a b c d e f s.1 s.2.1 s.2.2 x y v p q t u o m r = r true := by
  have hB14 : laws_FnShapes_B14 k r = r true := by simp only [laws_FnShapes_B14, laws_FnShapes_b14]
  have hz0 : z ≠ 0 → r (decide (s.1 = 0) && (decide (s.2.1 = 0) && decide (s.2.2 = 0))) = r true := fun hz => by
    rw [h0 hz]
    simp
  have h15 : z = 0 → s.1 ≤ 1000 → s.2.2 ≤ 1000 → laws_FnShapes_B15 k a b c d e f s.1 s.2.1 s.2.2 r = r true := fun hz g1 g2 => by
    obtain ⟨hT, hs⟩ := h1 hz
    rw [hs] at g1 g2 ⊢
    exact fs49_15 k hk hT g1 g2 r
  clear h0 h1
  obtain ⟨n1, n2, n3⟩ := s
  simp only at hz0 h15 ⊢
  have tail : (bif (!decide (z = 0)) then r (decide (n1 = 0) && (decide (n2 = 0) && decide (n3 = 0))) else bif decide (1000 < n1) then laws_FnShapes_B14 k r else bif decide (1000 < n3) then laws_FnShapes_B14 k r else laws_FnShapes_B15 k a b c d e f n1 n2 n3 r) = r true := by
    by_cases hz : z = 0
    · rw [decide_eq_true hz, Bool.not_true, cond_false]
      by_cases g1 : 1000 < n1
      · rw [decide_eq_true g1, cond_true, hB14]
      · rw [decide_eq_false g1, cond_false]
        by_cases g2 : 1000 < n3
        · rw [decide_eq_true g2, cond_true, hB14]
        · rw [decide_eq_false g2, cond_false]
          exact h15 hz (by omega) (by omega)
    · rw [decide_eq_false hz, Bool.not_false, cond_true, hz0 hz]
  unfold laws_FnShapes_B12
  refine fs49_b12 impl_ShapeOf k (fun hw0 r => ?_) tail
  obtain ⟨ho, rfl, rfl, rfl, rfl, rfl, rfl⟩ := hw hw0
  exact impl_shapeOf_T k (by omega) ho r

theorem fs49_10 (k : Nat) (hk : 1000000100 < k) {z a b c d e f : Int} {s : Int × Int × Int} (h0 : z ≠ 0 → s = (0, 0, 0)) (h1 : z = 0 → IsT a b c d e f ∧ s = normS a b c d e f)
    {w x y v p q t u o m : Int} (hw : w = 0 → OkS x y v ∧ p = 0 ∧ q = 0 ∧ t = x ∧ u = 0 ∧ o = y ∧ m = v)
    {eq : Bool} {four a1 b1 c1 d1 e1 f1 a2 b2 c2 d2 e2 f2 : Int} (he : four = 0 → eq = true → IsT a1 b1 c1 d1 e1 f1 ∧ IsT a2 b2 c2 d2 e2 f2 ∧ normS a1 b1 c1 d1 e1 f1 = normS a2 b2 c2 d2 e2 f2) (r : Bool → Option α) :
    laws_FnShapes_B10 k z w eq four a b c d e f s.1 s.2.1 s.2.2 x y v p q t u o m a1 b1 c1 d1 e1 f1 a2 b2 c2 d2 e2 f2 r = r true := by
  have h12 := fs49_12 (α := α) k hk h0 h1 hw r
  simp only [laws_FnShapes_B10, laws_FnShapes_b10, h12]
  by_cases hf : four = 0
  · rw [decide_eq_true hf, cond_true]
    cases eq with
    | false => rfl
    | true =>
      obtain ⟨t1, t2, hn⟩ := he hf rfl
      obtain ⟨g1, g2, _⟩ := norm_tells t1
      obtain ⟨g3, g4, _⟩ := norm_tells t2
      have hA : areaT a1 b1 c1 d1 e1 f1 = areaT a2 b2 c2 d2 e2 f2 := by
        have q1 := g1.2.2.2
        have q2 := g3.2.2.2
        rw [hn] at q1
        exact q1.symm.trans q2
      have hB : bndT a1 b1 c1 d1 e1 f1 = bndT a2 b2 c2 d2 e2 f2 := by rw [g2, g4, hn]
      rw [cond_true, impl_areaTri k t1, impl_areaTri k t2, impl_bndTri k (by omega) t1, impl_bndTri k (by omega) t2, hA, hB]
      simp
  · rw [decide_eq_false hf, cond_false]

theorem fs49_l29 (K : List (Int × Int × Int) → Option α) (r : Bool → Option α) {one three : Int} {eq : Bool} {four n five t t1 t2 t3 t4 t5 s1 s2 s3 x x1 x2 o o1 o2 o3 o4 o5 v v1 v2 v3 v4 v5 w w1 w2 w3 w4 w5 : Int} {l : List (Int × Int × Int)} (hl : l.length ≤ 1000000)
    {b0 : Int → Int → Bool → Int → Int → Int → Int → Int → Int → Int → Int → Int → Int → Int → Int → Int → Int → Int → Int → Int → Int → Int → Int → Int → Int → Int → Int → Int → Int → Int → Int → Int → Int → Int → Int → Int → Int → List (Int × Int × Int) → List (Int × Int × Int) → Option α}
    (hb : ∀ j, b0 one three eq four n five j t t1 t2 t3 t4 t5 s1 s2 s3 x x1 x2 o o1 o2 o3 o4 o5 v v1 v2 v3 v4 v5 w w1 w2 w3 w4 w5 l l = K l) : ∀ (rest : List (Int × Int × Int)) (k i : Nat), l.drop i = rest → i ≤ l.length → rest.length < k →
    laws_FnShapes_l29 k one three eq four n five (i : Int) t t1 t2 t3 t4 t5 s1 s2 s3 x x1 x2 o o1 o2 o3 o4 o5 v v1 v2 v3 v4 v5 w w1 w2 w3 w4 w5 l l b0 r = K l
  | [], k + 1, i, hd, hi, _ => by
    have := drop_nil hd
    rw [laws_FnShapes_l29, dec_lt_f (by omega), cond_false, hb]
  | y :: rest, k + 1, i, hd, hi, hk => by
    obtain ⟨h1, h2, h3⟩ := drop_cons hd
    have en : w64 ((i : Int) + 1) = ((i + 1 : Nat) : Int) := by rw [w64_of (by omega) (by omega)]; omega
    rw [laws_FnShapes_l29, dec_lt_t (by omega), dec_le_t (by omega), cond_true, Bool.and_self, cond_true, Int.toNat_natCast, h1, Option.bind_some, Option.bind_some, decide_eq_true rfl, decide_eq_true rfl, decide_eq_true rfl, en]
    exact fs49_l29 K r hl hb rest k (i + 1) h2 (by omega) (by simp at hk; omega)
  | _, 0, _, _, _, hk => by omega

theorem law_FnShapes (k : Nat) (hk : 1003000000 < k) (l : List Int) (r : Bool → Option α) (hb : ∀ x ∈ l, 0 ≤ x ∧ x ≤ 255) : laws_FnShapes k l r = r true := by
  unfold laws_FnShapes
  cases hbig : decide (4096 < (((List.length l) : Nat) : Int)) with
  | true => simp only [laws_FnShapes_B0, laws_FnShapes_b0, laws_big_eq, hbig, cond_true]
  | false =>
    have hl : IsCode l := ⟨by have := of_decide_eq_false hbig; omega, hb⟩
    obtain ⟨a, b, c, d, e, f, e0⟩ := dNormal_ok (α := α) hl k (by omega)
    obtain ⟨s, z, p0, p1, e1, e2⟩ := normShape_both (α := α) k (by omega) a b c d e f
    obtain ⟨u, u1, u2, u3, u4, u5, i, j, e3⟩ := dShapeOf_ok (α := α) hl k (by omega)
    obtain ⟨g1, g2, g3, g4, e4, e5⟩ := shapeOf_both (α := α) k (by omega) u u1 u2 u3 u4 u5 i j
    obtain ⟨x, x1, x2, e6⟩ := dTriangleOf_ok (α := α) hl k (by omega)
    obtain ⟨o, o1, o2, o3, o4, o5, w0, ho, e7, e8⟩ := triangleOf_both (α := α) k x x1 x2
    obtain ⟨v, v1, v2, v3, v4, v5, w, w1, w2, w3, w4, w5, e9⟩ := dEqual_ok (α := α) hl k (by omega)
    obtain ⟨eq, four, he, e10, e11⟩ := areEqual_both (α := α) k (by omega) v v1 v2 v3 v4 v5 w w1 w2 w3 w4 w5
    obtain ⟨n, e12⟩ := dArea_n_ok (α := α) hl k (by omega)
    obtain ⟨five, list, hlen, hlist, e13, e14⟩ := areas_K (α := α) k hk n
    have h10 := fs49_10 (α := α) k (by omega) p0 p1 ho he r
    simp only [laws_FnShapes_B0, laws_FnShapes_b0, laws_big_eq, hbig, cond_false, e0, e1, e2, decide_true, Bool.not_true, Bool.and_self, e3, e4, e5, e6, e7, e8, e9, laws_FnShapes_B2, laws_FnShapes_b2, e10, e11, beq_self_eq_true, e12]
    have f2 := e13 fun z5 l5 => spec_TrianglesOfArea k n (fun v77 => laws_FnShapes_B4 k z w0 eq four n z5 v77 a b c d e f s.1 s.2.1 s.2.2 x x1 x2 o o1 o2 o3 o4 o5 v v1 v2 v3 v4 v5 w w1 w2 w3 w4 w5 l5 [] r) fun v78 v79 => laws_FnShapes_B4 k z w0 eq four n z5 v79 a b c d e f s.1 s.2.1 s.2.2 x x1 x2 o o1 o2 o3 o4 o5 v v1 v2 v3 v4 v5 w w1 w2 w3 w4 w5 l5 v78 r
    have f3 := e14 fun v79 v78 => laws_FnShapes_B4 k z w0 eq four n five v79 a b c d e f s.1 s.2.1 s.2.2 x x1 x2 o o1 o2 o3 o4 o5 v v1 v2 v3 v4 v5 w w1 w2 w3 w4 w5 list v78 r
    refine (f2.trans f3).trans ?_
    simp only [laws_FnShapes_B4, laws_FnShapes_b4, decide_true, Bool.not_true, cond_false, laws_FnShapes_B6, laws_FnShapes_b6]
    refine (fs49_l29 (fun l => laws_FnShapes_B7 k z w0 eq four n five a b c d e f s.1 s.2.1 s.2.2 x x1 x2 o o1 o2 o3 o4 o5 v v1 v2 v3 v4 v5 w w1 w2 w3 w4 w5 l r) r (show list.length ≤ 1000000 by omega) (fun _ => rfl) list k 0 rfl (by omega) (by omega)).trans ?_
    simp only [laws_FnShapes_B7, laws_FnShapes_b7, h10]
    by_cases h5 : five = 0
    · obtain ⟨n1, n2, ⟨t, rfl⟩, hg⟩ := hlist h5
      have hw : ∀ s ∈ (((1 : Int), (0 : Int), n) :: t), w64 (s.1 * s.2.2) = n := fun s hs => by rw [(hg s hs).2.2.2]; exact w64_of (by omega) (by omega)
      have hw1 := hw (1, 0, n) List.mem_cons_self
      have hw1 : w64 n = n := w64_of (by omega) (by omega)
      rw [decide_eq_true h5, cond_true]
      match t, hw with
      | [], _ => simp [laws_FnShapes_B9, laws_FnShapes_b9, h10, hw1]
      | [y], hw =>
        have hw2 := hw y (by simp)
        simp [laws_FnShapes_B9, laws_FnShapes_b9, h10, hw1, hw2]
      | y :: z :: t, hw =>
        have hw2 := hw y (by simp)
        have hw3 := hw z (by simp)
        have q0 : decide (((t.length : Nat) : Int) + 1 + 1 + 1 = 0) = false := decide_eq_false (by omega)
        have q1 : decide ((0 : Int) < ((t.length : Nat) : Int) + 1 + 1 + 1) = true := decide_eq_true (by omega)
        have q2 : decide ((1 : Int) < ((t.length : Nat) : Int) + 1 + 1 + 1) = true := decide_eq_true (by omega)
        have q3 : decide ((2 : Int) < ((t.length : Nat) : Int) + 1 + 1 + 1) = true := decide_eq_true (by omega)
        simp [laws_FnShapes_B9, laws_FnShapes_b9, h10, hw1, hw2, hw3, q0, q1, q2, q3]
    · rw [decide_eq_false h5, cond_false]

end Go.Sh
