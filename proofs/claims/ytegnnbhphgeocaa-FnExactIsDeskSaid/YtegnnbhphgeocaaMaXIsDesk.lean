/- Plain laws: what the readings without memory answer. -/
import Derived.Test.YtegnnbhphgeocaaShXIsDesk
namespace Go.Sh
open Go Go.Ev

variable {α : Type}

theorem spec_l01In_eq (k : Nat) (n low high : Int) (r : Bool → Option α) : spec_l01In k n low high r = r (inB n low high) := by
  unfold spec_l01In inB
  cases decide (low ≤ n) <;> rfl

theorem spec_l01Fits_eq (k : Nat) (n : Int) (r : Bool → Option α) : spec_l01Fits k n r = r (crd n) := by
  simp only [spec_l01Fits, spec_l01In_eq]; rfl

theorem spec_l01Is_eq (k : Nat) (a b : Int) (r : Bool → Option α) : spec_l01Is k a b r = r (crd a && crd b) := by
  simp only [spec_l01Is, spec_l01Fits_eq]
  cases crd a <;> rfl

theorem impl_in_eq (k : Nat) (n low high : Int) (r : Bool → Option α) : impl_in k n low high r = r (inB n low high) := by
  unfold impl_in inB
  cases decide (low ≤ n) <;> rfl

theorem impl_isCoord_eq (k : Nat) (n : Int) (r : Bool → Option α) : impl_isCoord k n r = r (crd n) := by
  simp only [impl_isCoord, impl_in_eq]; rfl

theorem impl_IsPoint_eq (k : Nat) (a b : Int) (r : Bool → Option α) : impl_IsPoint k a b r = r (crd a && crd b) := by
  simp only [impl_IsPoint, impl_isCoord_eq]
  cases crd a <;> rfl

theorem spec_l01Matrix_eq (k : Nat) (a b c d : Int) (r : Bool → Option α) : spec_l01Matrix k a b c d r = r (crd a && (crd b && (crd c && crd d))) := by
  simp only [spec_l01Matrix, spec_l01Fits_eq]
  cases crd a <;> cases crd b <;> cases crd c <;> rfl

theorem impl_points_find (k : Nat) (s : List (Int × Int)) (hs : s.length ≤ big) (hk : s.length < k) (r : Bool → Option α) : impl_points k s r = r (s.all fun e => crd e.1 && crd e.2) := by
  unfold impl_points slices_ContainsFunc_impl_Point_impl_Point_1F_impl_points_1 slices_IndexFunc_impl_Point_impl_Point_1F_impl_points_1
  have h := find_loop (α := α) (p := fun e : Int × Int => !(crd e.1 && crd e.2)) (L := slices_IndexFunc_impl_Point_impl_Point_1F_impl_points_1_l2)
    (fun k x i s b r => by simp only [slices_IndexFunc_impl_Point_impl_Point_1F_impl_points_1_l2, impl_points_1, impl_IsPoint_eq]) s k 0 s
  have h0 : ((0 : Nat) : Int) = 0 := rfl
  rw [h0] at h
  rw [h _ _ (by simp) hs (by omega) hk]
  cases hf : s.findIdx? (fun e : Int × Int => !(crd e.1 && crd e.2)) with
  | none =>
    rw [List.findIdx?_eq_none_iff] at hf
    have : (s.all fun e => crd e.1 && crd e.2) = true := List.all_eq_true.2 fun e he => by simpa using hf e he
    simp [this]
  | some j =>
    rw [List.findIdx?_eq_some_iff_getElem] at hf
    obtain ⟨hj, hp, _⟩ := hf
    have : (s.all fun e => crd e.1 && crd e.2) = false := by
      rw [List.all_eq_false]
      exact ⟨s[j], List.getElem_mem hj, by cases h1 : crd s[j].1 <;> cases h2 : crd s[j].2 <;> simp_all⟩
    rw [this]
    simp

theorem impl_points2 (k : Nat) (hk : 3 ≤ k) (a b c d : Int) (r : Bool → Option α) : impl_points k [(a, b), (c, d)] r = r (crd a && crd b && (crd c && crd d)) := by
  rw [impl_points_find _ _ (by rw [big_val]; simp) (by simp; omega)]
  simp

theorem impl_IsMatrix_eq (k : Nat) (hk : 3 ≤ k) (a b c d : Int) (r : Bool → Option α) : impl_IsMatrix k a b c d r = r (crd a && (crd b && (crd c && crd d))) := by
  simp only [impl_IsMatrix, impl_points2 k hk, Bool.and_assoc]

/-- A form, with its discriminant and the root of that. -/
structure IsF (x y z d s : Int) : Prop where
  x0 : -1000000 ≤ x
  x1 : x ≤ 1000000
  y0 : -1000000 ≤ y
  y1 : y ≤ 1000000
  z0 : -1000000 ≤ z
  z1 : z ≤ 1000000
  hd : d = y * y - 4 * x * z
  d1 : 1 ≤ d
  d2 : d ≤ 4000
  s0 : 0 ≤ s
  hs : s * s < d
  hs1 : d < (s + 1) * (s + 1)

theorem sq_lt {a b : Int} (ha : 0 ≤ a) (hb : 0 ≤ b) (h : a * a < b * b) : a < b := by
  rcases ilt_or_ge a b with h1 | h1
  · exact h1
  · have := Int.mul_le_mul h1 h1 hb ha
    omega

theorem disc_w (x y z : Int) (x0 : -1000000 ≤ x) (x1 : x ≤ 1000000) (y0 : -1000000 ≤ y) (y1 : y ≤ 1000000) (z0 : -1000000 ≤ z) (z1 : z ≤ 1000000) : w64 (w64 (y * y) - w64 (w64 (4 * x) * z)) = y * y - 4 * x * z := by
  have h1 := mul_bound (A := 1000000) (B := 1000000) y0 y1 y0 y1
  have h2 := mul_bound (A := 4000000) (B := 1000000) (a := 4 * x) (by omega) (by omega) z0 z1
  rw [w64_of (n := 4 * x) (by omega) (by omega), w64_of (n := 4 * x * z) (by omega) (by omega), w64_of (n := y * y) (by omega) (by omega), w64_of (by omega) (by omega)]

theorem root_l2 : ∀ (j k : Nat) (w d s : Int) (b : Int → Int → Option α) (r : Int → Option α), 0 ≤ w → w + j = s → s ≤ 1000000000 → s * s ≤ d → d < (s + 1) * (s + 1) → j < k → spec_l06Root_l2 k d w b r = b d s
  | 0, k + 1, w, d, s, b, r, h0, hs, hb, h1, h2, _ => by
    have hws : w = s := by omega
    subst hws
    have hm := mul_bound (a := w + 1) (b := w + 1) (A := 1000000001) (B := 1000000001) (by omega) (by omega) (by omega) (by omega)
    simp only [spec_l06Root_l2]
    rw [w64_of (n := w + 1) (by omega) (by omega), w64_of (by omega) (by omega)]
    have : decide ((w + 1) * (w + 1) ≤ d) = false := by simp; exact h2
    rw [this]
    rfl
  | j + 1, k + 1, w, d, s, b, r, h0, hs, hb, h1, h2, hk => by
    have hm := mul_bound (a := w + 1) (b := w + 1) (A := 1000000001) (B := 1000000001) (by omega) (by omega) (by omega) (by omega)
    have hle : (w + 1) * (w + 1) ≤ s * s := Int.mul_le_mul (by omega) (by omega) (by omega) (by omega)
    simp only [spec_l06Root_l2]
    rw [w64_of (n := w + 1) (by omega) (by omega), w64_of (by omega) (by omega)]
    have : decide ((w + 1) * (w + 1) ≤ d) = true := by simp; omega
    rw [this]
    exact root_l2 j k (w + 1) d s b r (by omega) (by omega) hb h1 h2 (by omega)
  | _, 0, _, _, _, _, _, _, _, _, _, _, hk => by omega

theorem impl_root_l2_same : ∀ (k : Nat) (w d : Int) (b : Int → Int → Option α) (r : Int → Option α), impl_root_l2 k d w b r = spec_l06Root_l2 k d w b r
  | 0, _, _, _, _ => rfl
  | k + 1, w, d, b, r => by
    simp only [impl_root_l2, spec_l06Root_l2, impl_root_l2_same k]

theorem spec_root_eq (k : Nat) (d s : Int) (r : Int → Option α) (h0 : 0 ≤ s) (hb : s ≤ 1000000000) (h1 : s * s ≤ d) (h2 : d < (s + 1) * (s + 1)) (hk : s.toNat < k) : spec_l06Root k d r = r s := by
  unfold spec_l06Root
  exact root_l2 s.toNat k 0 d s _ r (by omega) (by omega) hb h1 h2 hk

theorem impl_root_eq (k : Nat) (d s : Int) (r : Int → Option α) (h0 : 0 ≤ s) (hb : s ≤ 1000000000) (h1 : s * s ≤ d) (h2 : d < (s + 1) * (s + 1)) (hk : s.toNat < k) : impl_root k d r = r s := by
  unfold impl_root
  rw [impl_root_l2_same]
  exact root_l2 s.toNat k 0 d s _ r (by omega) (by omega) hb h1 h2 hk

theorem root_of (d : Int) (h0 : 1 ≤ d) (h1 : d ≤ 4000) : ∃ s : Int, 0 ≤ s ∧ s ≤ 63 ∧ s * s ≤ d ∧ d < (s + 1) * (s + 1) := by
  obtain ⟨s, e1, e2, _⟩ := root_exists d.toNat
  have f1 : ((s : Int)) * s ≤ d := by
    have : ((s * s : Nat) : Int) ≤ (d.toNat : Int) := by exact_mod_cast e1
    rw [Int.natCast_mul] at this
    omega
  have f2 : d < ((s : Int) + 1) * (s + 1) := by
    have : ((d.toNat : Nat) : Int) < (((s + 1) * (s + 1) : Nat) : Int) := by exact_mod_cast e2
    rw [Int.natCast_mul] at this
    simp at this
    omega
  refine ⟨s, by omega, ?_, f1, f2⟩
  have := sq_lt (a := (s : Int)) (b := 64) (by omega) (by omega) (by omega)
  omega

/-- Both tests of a form. -/
theorem form_cases (k : Nat) (hk : 64 < k) (x y z : Int) : ((∀ r : Bool → Option α, spec_l06Is k x y z r = r false) ∧ (∀ r : Bool → Option α, impl_IsForm k x y z r = r false)) ∨
    ∃ d s, IsF x y z d s ∧ (∀ r : Bool → Option α, spec_l06Is k x y z r = r true) ∧ (∀ r : Bool → Option α, impl_IsForm k x y z r = r true) := by
  simp only [spec_l06Is, impl_IsForm, spec_l01Fits_eq, impl_isCoord_eq, spec_l06Disc, impl_Form_disc, spec_l01In_eq, impl_discOk, impl_in_eq]
  cases hx : crd x with
  | false => exact .inl ⟨by simp, by simp⟩
  | true =>
    cases hy : crd y with
    | false => exact .inl ⟨by simp, by simp⟩
    | true =>
      cases hz : crd z with
      | false => exact .inl ⟨by simp, by simp⟩
      | true =>
        rw [crd_iff] at hx hy hz
        rw [disc_w x y z hx.1 hx.2 hy.1 hy.2 hz.1 hz.2]
        generalize hd : y * y - 4 * x * z = d
        cases hb : inB d 1 4000 with
        | false => exact .inl ⟨by simp, by simp⟩
        | true =>
          rw [inB_iff] at hb
          obtain ⟨s, h0, h1, h2, h3⟩ := root_of d hb.1 hb.2
          have hm := mul_bound (A := 63) (B := 63) (a := s) (b := s) (by omega) h1 (by omega) h1
          simp only [Bool.not_true, cond_false, cond_true, spec_root_eq k d s _ h0 (by omega) h2 h3 (by omega), impl_root_eq k d s _ h0 (by omega) h2 h3 (by omega), w64_of (n := s * s) (by omega) (by omega)]
          by_cases he : s * s = d
          · exact .inl ⟨by simp [he], by simp [he]⟩
          · exact .inr ⟨d, s, ⟨hx.1, hx.2, hy.1, hy.2, hz.1, hz.2, hd.symm, hb.1, hb.2, h0, by omega, h3⟩, by simp [he], by simp [he]⟩

theorem law_IsDesk (k : Nat) (hk : 64 < k) (a b c d e f g h x y z : Int) (r : Bool → Option α) : laws_FnExactIsDesk k a b c d e f g h x y z r = r true := by
  simp only [laws_FnExactIsDesk, laws_toDesk, laws_toPoint, laws_toMatrix, laws_toInt64A2, laws_toForm, spec_IsDesk, impl_IsDesk, spec_l11Is, spec_l01Is_eq, spec_l01Matrix_eq, impl_points2 k (by omega), impl_IsMatrix_eq k (by omega)]
  cases (crd a && crd b) <;> cases (crd c && crd d) <;> try (simp; done)
  cases (crd e && (crd f && (crd g && crd h))) <;> try (simp; done)
  rcases form_cases (α := α) k hk x y z with ⟨h1, h2⟩ | ⟨d, s, h, h1, h2⟩ <;> simp [h1, h2]

end Go.Sh
