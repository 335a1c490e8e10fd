/- Plain laws: what the shallow functions answer. -/
import Derived.Test.YtfefgadhaafeiaaSh
import Derived.WalkKit
namespace Go.Sh
open Go Go.Ev

variable {α : Type}

theorem w64_of {n : Int} (h0 : -9223372036854775808 ≤ n) (h1 : n ≤ 9223372036854775807) : w64 n = n := IntWalk.i64_in n ⟨h0, h1⟩

/-- Within the bounds of coordinates. -/
def crd (n : Int) : Bool := decide (-1000000 ≤ n) && decide (n ≤ 1000000)
def inB (n low high : Int) : Bool := decide (low ≤ n) && decide (n ≤ high)

theorem spec_l01In_eq (k : Nat) (n low high : Int) (r : Bool → Option α) : spec_l01In k n low high r = r (inB n low high) := by
  unfold spec_l01In inB
  cases decide (low ≤ n) <;> rfl
theorem spec_l01Fits_eq (k : Nat) (n : Int) (r : Bool → Option α) : spec_l01Fits k n r = r (crd n) := by
  simp only [spec_l01Fits, spec_l01In_eq]; rfl
theorem spec_l01Is_eq (k : Nat) (a b : Int) (r : Bool → Option α) : spec_l01Is k a b r = r (crd a && crd b) := by
  simp only [spec_l01Is, spec_l01Fits_eq]
  cases crd a <;> rfl
theorem impl_in_eq (k : Nat) (n low high : Int) (r : Bool → Option α) : impl_in k n low high r = r (inB n low high) := by
  unfold impl_in inB
  cases decide (low ≤ n) <;> rfl
theorem impl_isCoord_eq (k : Nat) (n : Int) (r : Bool → Option α) : impl_isCoord k n r = r (crd n) := by
  simp only [impl_isCoord, impl_in_eq]; rfl
theorem impl_IsPoint_eq (k : Nat) (a b : Int) (r : Bool → Option α) : impl_IsPoint k a b r = r (crd a && crd b) := by
  simp only [impl_IsPoint, impl_isCoord_eq]
  cases crd a <;> rfl

theorem law_NormOf (k : Nat) (a b : Int) (r : Bool → Option α) : laws_FnExactNormOf k a b r = r true := by
  simp only [laws_FnExactNormOf, laws_toPoint, spec_NormOf, impl_NormOf, spec_l01Is_eq, impl_IsPoint_eq, spec_l10Dot, impl_Point_norm, impl_dot]
  cases crd a <;> cases crd b <;> simp

theorem crd_iff {n : Int} : crd n = true ↔ -1000000 ≤ n ∧ n ≤ 1000000 := by simp [crd]
theorem inB_iff {n low high : Int} : inB n low high = true ↔ low ≤ n ∧ n ≤ high := by simp [inB]

theorem spec_l10Ratio_eq (k : Nat) (p q low : Int) (r : Bool → Option α) : spec_l10Ratio k p q low r = r (crd p && inB q low 1000000) := by
  simp only [spec_l10Ratio, spec_l01Fits_eq, spec_l01In_eq]
  cases crd p <;> rfl
theorem impl_ratioOk_eq (k : Nat) (p q : Int) (r : Bool → Option α) : impl_ratioOk k p q r = r (crd p && inB q 1 1000000) := by
  simp only [impl_ratioOk, impl_isCoord_eq, impl_in_eq]
  cases crd p <;> rfl
theorem impl_placesOk_eq (k : Nat) (p q : Int) (r : Bool → Option α) : impl_placesOk k p q r = r (crd p && inB q 2 1000000) := by
  simp only [impl_placesOk, impl_ratioOk_eq]
  cases crd p
  · rfl
  · have : inB q 2 1000000 = (inB q 1 1000000 && decide (2 ≤ q)) := by
      simp only [inB]
      by_cases h1 : 1 ≤ q <;> by_cases h2 : q ≤ 1000000 <;> by_cases h3 : 2 ≤ q <;> simp [h1, h2, h3]
      omega
    rw [this]
    cases inB q 1 1000000 <;> rfl

theorem spec_l01Rest_eq (k : Nat) (n x : Int) (r : Int → Option α) (hn : 0 < n) (hn2 : n ≤ 1000000000000) : spec_l01Rest k n x r = r (x % n) := by
  have h0 : decide (n = 0) = false := by simp; omega
  simp only [spec_l01Rest, h0, cond_false]
  have h1 : -n < Int.tmod x n := Int.lt_tmod_of_pos x hn
  have h2 : Int.tmod x n < n := Int.tmod_lt_of_pos x hn
  rw [w64_of (by omega) (by omega)]
  congr 1
  rw [Int.tmod_eq_emod_of_nonneg (by omega), Int.add_emod_right]
  have := Int.tmod_add_mul_tdiv x n
  have e : Int.tmod x n = x - n * Int.tdiv x n := by omega
  rw [e, Int.sub_mul_emod_self_left]

theorem impl_floor_eq (k : Nat) (a b : Int) (r : Int → Option α) (hb : 0 < b) (ha : -1000000000000000000 ≤ a) (ha2 : a ≤ 1000000000000000000) : impl_floor k a b r = r (a / b) := by
  have h0 : decide (b = 0) = false := by simp; omega
  have hb0 : decide (b < 0) = false := by simp; omega
  have hq := Int.natAbs_tdiv_le_natAbs a b
  have h1 : w64 (Int.tdiv a b) = Int.tdiv a b := w64_of (by omega) (by omega)
  have h2 : w64 (Int.tdiv a b - 1) = Int.tdiv a b - 1 := w64_of (by omega) (by omega)
  have h3 := Int.tmod_add_mul_tdiv a b
  have h4 := Int.lt_tmod_of_pos a hb
  have h5 := Int.tmod_lt_of_pos a hb
  simp only [impl_floor, h0, hb0, cond_false, h1, h2]
  have key : ∀ q t : Int, t + b * q = a → 0 ≤ t → t < b → a / b = q := fun q t e1 e2 e3 => ((Int.ediv_emod_unique hb).2 ⟨e1, e2, e3⟩).1
  by_cases ht : Int.tmod a b = 0
  · rw [key _ _ h3 (by omega) h5]
    simp [ht]
  · by_cases hn : a < 0
    · have hneg : Int.tmod a b ≤ 0 := by
        have := Int.tmod_nonneg b (a := -a) (by omega)
        rw [Int.neg_tmod] at this
        omega
      rw [key (Int.tdiv a b - 1) (Int.tmod a b + b) (by rw [Int.mul_sub]; omega) (by omega) (by omega)]
      simp [ht, hn]
    · have hpos : 0 ≤ Int.tmod a b := Int.tmod_nonneg b (by omega)
      rw [key _ _ h3 hpos h5]
      simp [ht, hn]

theorem impl_mod_eq (k : Nat) (a b : Int) (r : Int → Option α) (hb : 0 < b) (hb2 : b ≤ 1000000000000) (ha : -1000000000000000000 ≤ a) (ha2 : a ≤ 1000000000000000000) : impl_mod k a b r = r (a % b) := by
  simp only [impl_mod, impl_floor_eq k a b _ hb ha ha2]
  have h1 := Int.emod_add_mul_ediv a b
  have h2 := Int.emod_nonneg a (b := b) (by omega)
  have h3 := Int.emod_lt_of_pos a hb
  rw [w64_of (n := b * (a / b)) (by omega) (by omega), w64_of (by omega) (by omega)]
  congr 1
  omega

theorem mul_bound {a b A B : Int} (ha : -A ≤ a) (ha2 : a ≤ A) (hb : -B ≤ b) (hb2 : b ≤ B) : -(A * B) ≤ a * b ∧ a * b ≤ A * B := by
  have hA : 0 ≤ A := by omega
  have hB : 0 ≤ B := by omega
  have h : (a * b).natAbs ≤ (A * B).natAbs := by
    rw [Int.natAbs_mul, Int.natAbs_mul]
    exact Nat.mul_le_mul (by omega) (by omega)
  have := Int.mul_nonneg hA hB
  omega

theorem law_PlaceOf (k : Nat) (p q x : Int) (r : Bool → Option α) : laws_FnExactPlaceOf k p q x r = r true := by
  simp only [laws_FnExactPlaceOf, spec_PlaceOf, impl_PlaceOf, spec_l10Ratio_eq, impl_placesOk_eq, spec_l01Fits_eq, impl_isCoord_eq]
  cases h1 : (crd p && inB q 2 1000000) with
  | false => simp
  | true =>
    cases h2 : crd x with
    | false => simp
    | true =>
      simp only [Bool.and_eq_true, crd_iff, inB_iff] at h1 h2
      have hm := mul_bound (A := 1000000) (B := 1000000) h2.1 h2.2 h1.1.1 h1.1.2
      have hw : w64 (x * p) = x * p := w64_of (by omega) (by omega)
      simp only [Bool.not_true, cond_false, hw]
      rw [spec_l01Rest_eq _ _ _ _ (by omega) (by omega), impl_mod_eq _ _ _ _ (by omega) (by omega) (by omega) (by omega)]
      simp

theorem law_CompareRatios (k : Nat) (p q x y : Int) (r : Bool → Option α) : laws_FnExactCompareRatios k p q x y r = r true := by
  simp only [laws_FnExactCompareRatios, spec_CompareRatios, impl_CompareRatios, spec_l10Ratio_eq, impl_ratioOk_eq, cmp_Compare_int64, cmp_isNaN_int64]
  cases crd p && inB q 1 1000000 with
  | false => simp
  | true =>
    cases crd x && inB y 1 1000000 with
    | false => simp
    | true =>
      by_cases h1 : w64 (p * y) < w64 (x * q)
      · simp [h1]
      · by_cases h2 : w64 (x * q) < w64 (p * y) <;> simp [h1, h2]

/-! roots -/
theorem spec_root_l2 : ∀ (j k : Nat) (w d s : Int) (b : Int → Int → Option α) (r : Int → Option α), 0 ≤ w → w + j = s → s ≤ 1000000000 → s * s ≤ d → d < (s + 1) * (s + 1) → j < k → spec_l06Root_l2 k d w b r = b d s
  | 0, k + 1, w, d, s, b, r, h0, hs, hb, h1, h2, _ => by
    have hws : w = s := by omega
    subst hws
    have hm := mul_bound (a := w + 1) (b := w + 1) (A := 1000000001) (B := 1000000001) (by omega) (by omega) (by omega) (by omega)
    simp only [spec_l06Root_l2]
    rw [w64_of (n := w + 1) (by omega) (by omega), w64_of (by omega) (by omega)]
    have : decide ((w + 1) * (w + 1) ≤ d) = false := by simp; exact h2
    rw [this]
    rfl
  | j + 1, k + 1, w, d, s, b, r, h0, hs, hb, h1, h2, hk => by
    have hm := mul_bound (a := w + 1) (b := w + 1) (A := 1000000001) (B := 1000000001) (by omega) (by omega) (by omega) (by omega)
    have hle : (w + 1) * (w + 1) ≤ s * s := Int.mul_le_mul (by omega) (by omega) (by omega) (by omega)
    simp only [spec_l06Root_l2]
    rw [w64_of (n := w + 1) (by omega) (by omega), w64_of (by omega) (by omega)]
    have : decide ((w + 1) * (w + 1) ≤ d) = true := by simp; omega
    rw [this]
    exact spec_root_l2 j k (w + 1) d s b r (by omega) (by omega) hb h1 h2 (by omega)
  | _, 0, _, _, _, _, _, _, _, _, _, _, hk => by omega

theorem impl_root_l2_same : ∀ (k : Nat) (w d : Int) (b : Int → Int → Option α) (r : Int → Option α), impl_root_l2 k d w b r = spec_l06Root_l2 k d w b r
  | 0, _, _, _, _ => rfl
  | k + 1, w, d, b, r => by
    simp only [impl_root_l2, spec_l06Root_l2, impl_root_l2_same k]

theorem root_exists : ∀ (n : Nat), ∃ s : Nat, s * s ≤ n ∧ n < (s + 1) * (s + 1) ∧ s ≤ n
  | 0 => ⟨0, by omega, by omega, by omega⟩
  | n + 1 => by
    obtain ⟨s, h1, h2, h3⟩ := root_exists n
    by_cases h : (s + 1) * (s + 1) ≤ n + 1
    · refine ⟨s + 1, h, ?_, by omega⟩
      have : (s + 1 + 1) * (s + 1 + 1) = (s + 1) * (s + 1) + 2 * (s + 1) + 1 := by rw [Nat.mul_add, Nat.add_mul]; omega
      omega
    · exact ⟨s, by omega, by omega, by omega⟩

/-- Both roots, one value. -/
theorem roots_eq (d : Int) (h0 : 0 ≤ d) (h1 : d ≤ 1000000000) (k : Nat) (hk : d.toNat < k) : ∃ s : Int, 0 ≤ s ∧ s * s ≤ d ∧ d < (s + 1) * (s + 1) ∧ s ≤ d ∧ (∀ r : Int → Option α, spec_l06Root k d r = r s) ∧ (∀ r : Int → Option α, impl_root k d r = r s) := by
  obtain ⟨s, e1, e2, e3⟩ := root_exists d.toNat
  have f1 : ((s : Int)) * s ≤ d := by have : ((s * s : Nat) : Int) ≤ (d.toNat : Int) := by exact_mod_cast e1
                                      rw [Int.natCast_mul] at this; omega
  have f2 : d < ((s : Int) + 1) * (s + 1) := by have : ((d.toNat : Nat) : Int) < (((s + 1) * (s + 1) : Nat) : Int) := by exact_mod_cast e2
                                                rw [Int.natCast_mul] at this; simp at this; omega
  refine ⟨s, by omega, f1, f2, by omega, fun r => ?_, fun r => ?_⟩
  · exact spec_root_l2 s k 0 d s _ r (by omega) (by omega) (by omega) f1 f2 (by omega)
  · unfold impl_root
    rw [impl_root_l2_same]
    exact spec_root_l2 s k 0 d s _ r (by omega) (by omega) (by omega) f1 f2 (by omega)

/-- Both tests of a form, one answer. -/
theorem form_eq (k : Nat) (hk : 4000 < k) (x y z : Int) : ∃ b : Bool, (∀ r : Bool → Option α, spec_l06Is k x y z r = r b) ∧ (∀ r : Bool → Option α, impl_IsForm k x y z r = r b) := by
  simp only [spec_l06Is, impl_IsForm, spec_l01Fits_eq, impl_isCoord_eq, spec_l06Disc, impl_Form_disc, spec_l01In_eq, impl_discOk, impl_in_eq]
  cases crd x with
  | false => exact ⟨false, by simp, by simp⟩
  | true =>
    cases crd y with
    | false => exact ⟨false, by simp, by simp⟩
    | true =>
      cases crd z with
      | false => exact ⟨false, by simp, by simp⟩
      | true =>
        generalize hd : w64 (w64 (y * y) - w64 (w64 (4 * x) * z)) = d
        cases hb : inB d 1 4000 with
        | false => exact ⟨false, by simp, by simp⟩
        | true =>
          rw [inB_iff] at hb
          obtain ⟨s, _, _, _, _, h1, h2⟩ := roots_eq (α := α) d (by omega) (by omega) k (by omega)
          exact ⟨!decide (w64 (s * s) = d), fun r => by simp [h1], fun r => by simp [h2]⟩

theorem law_IsForm (k : Nat) (hk : 4000 < k) (x y z : Int) (r : Bool → Option α) : laws_FnExactIsForm k x y z r = r true := by
  obtain ⟨b, h1, h2⟩ := form_eq (α := α) k hk x y z
  simp only [laws_FnExactIsForm, laws_toForm, spec_IsForm, h1, h2]
  cases b <;> rfl

theorem law_DiscriminantOf (k : Nat) (hk : 4000 < k) (x y z : Int) (r : Bool → Option α) : laws_FnExactDiscriminantOf k x y z r = r true := by
  obtain ⟨b, h1, h2⟩ := form_eq (α := α) k hk x y z
  simp only [laws_FnExactDiscriminantOf, laws_toForm, spec_DiscriminantOf, impl_DiscriminantOf, h1, h2, spec_l06Disc, impl_Form_disc]
  cases b <;> simp

theorem law_NewDesk (k : Nat) (r : Bool → Option α) : laws_FnExactNewDesk k r = r true := by
  simp [laws_FnExactNewDesk, spec_NewDesk, spec_l11New, impl_NewDesk, laws_eqDesk, laws_eqPoint, laws_eqMatrix, laws_eqInt64A2, laws_eqForm]

end Go.Sh
