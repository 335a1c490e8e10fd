/- Plain laws: what the readings without memory answer. -/
import Derived.Test.YtegnnbhphgeocaaShXNextForm
namespace Go.Sh
open Go Go.Ev

variable {α : Type}

theorem spec_l01In_eq (k : Nat) (n low high : Int) (r : Bool → Option α) : spec_l01In k n low high r = r (inB n low high) := by
  unfold spec_l01In inB
  cases decide (low ≤ n) <;> rfl

theorem spec_l01Fits_eq (k : Nat) (n : Int) (r : Bool → Option α) : spec_l01Fits k n r = r (crd n) := by
  simp only [spec_l01Fits, spec_l01In_eq]; rfl

theorem impl_in_eq (k : Nat) (n low high : Int) (r : Bool → Option α) : impl_in k n low high r = r (inB n low high) := by
  unfold impl_in inB
  cases decide (low ≤ n) <;> rfl

theorem impl_isCoord_eq (k : Nat) (n : Int) (r : Bool → Option α) : impl_isCoord k n r = r (crd n) := by
  simp only [impl_isCoord, impl_in_eq]; rfl

theorem spec_l01Rest_eq (k : Nat) (n x : Int) (r : Int → Option α) (hn : 0 < n) (hn2 : n ≤ 1000000000000000000) : spec_l01Rest k n x r = r (x % n) := by
  have h1 : -n < Int.tmod x n := Int.lt_tmod_of_pos x hn
  have h2 : Int.tmod x n < n := Int.tmod_lt_of_pos x hn
  simp only [spec_l01Rest, dec_eq_f (show n ≠ 0 by omega), cond_false]
  rw [w64_of (by omega) (by omega), rest_eq hn]

theorem impl_floor_eq (k : Nat) (a b : Int) (r : Int → Option α) (hb : 0 < b) (ha : -1000000000000000000 ≤ a) (ha2 : a ≤ 1000000000000000000) : impl_floor k a b r = r (a / b) := by
  have hq := tdiv_abs a b
  simp only [impl_floor, dec_eq_f (show b ≠ 0 by omega), cond_false, w64_of (n := Int.tdiv a b) (by omega) (by omega), w64_of (n := Int.tdiv a b - 1) (by omega) (by omega)]
  rw [← tdiv_floor a b hb]
  cases (!decide (Int.tmod a b = 0)) <;> cases (!(decide (a < 0) == decide (b < 0))) <;> rfl

theorem impl_mod_eq (k : Nat) (a b : Int) (r : Int → Option α) (hb : 0 < b) (hb2 : b ≤ 1000000000000000000) (ha : -1000000000000000000 ≤ a) (ha2 : a ≤ 1000000000000000000) : impl_mod k a b r = r (a % b) := by
  simp only [impl_mod, impl_floor_eq k a b _ hb ha ha2]
  have h1 := Int.emod_add_mul_ediv a b
  have h2 := Int.emod_nonneg a (b := b) (by omega)
  have h3 := Int.emod_lt_of_pos a hb
  rw [w64_of (n := b * (a / b)) (by omega) (by omega), w64_of (by omega) (by omega)]
  congr 1
  omega

theorem impl_size_eq (k : Nat) (n : Int) (r : Int → Option α) (h0 : -1000000000000000000 ≤ n) (h1 : n ≤ 1000000000000000000) : impl_size k n r = r (max n (-n)) := by
  simp only [impl_size]
  rw [w64_of (by omega) (by omega), Int.zero_sub]

/-- A form, with its discriminant and the root of that. -/
structure IsF (x y z d s : Int) : Prop where
  x0 : -1000000 ≤ x
  x1 : x ≤ 1000000
  y0 : -1000000 ≤ y
  y1 : y ≤ 1000000
  z0 : -1000000 ≤ z
  z1 : z ≤ 1000000
  hd : d = y * y - 4 * x * z
  d1 : 1 ≤ d
  d2 : d ≤ 4000
  s0 : 0 ≤ s
  hs : s * s < d
  hs1 : d < (s + 1) * (s + 1)

theorem sq_lt {a b : Int} (ha : 0 ≤ a) (hb : 0 ≤ b) (h : a * a < b * b) : a < b := by
  rcases ilt_or_ge a b with h1 | h1
  · exact h1
  · have := Int.mul_le_mul h1 h1 hb ha
    omega

theorem IsF.s2 {x y z d s : Int} (h : IsF x y z d s) : s ≤ 63 := by
  have h1 := h.hs
  have h2 := h.d2
  have := sq_lt (a := s) (b := 64) h.s0 (by omega) (by omega)
  omega

theorem IsF.zne {x y z d s : Int} (h : IsF x y z d s) : z ≠ 0 := by
  intro e
  have hd := h.hd
  rw [e, Int.mul_zero, Int.sub_zero] at hd
  have h1 := h.hs
  have h2 := h.hs1
  have h0 := h.s0
  have key : ∀ n : Int, 0 ≤ n → n * n = y * y → False := fun n hn he => by
    have a1 := sq_lt h0 hn (by omega)
    have a2 := sq_lt hn (by omega : 0 ≤ s + 1) (by omega)
    omega
  rcases Int.le_total 0 y with hy | hy
  · exact key y hy rfl
  · exact key (-y) (by omega) (Int.neg_mul_neg y y)

theorem disc_w (x y z : Int) (x0 : -1000000 ≤ x) (x1 : x ≤ 1000000) (y0 : -1000000 ≤ y) (y1 : y ≤ 1000000) (z0 : -1000000 ≤ z) (z1 : z ≤ 1000000) : w64 (w64 (y * y) - w64 (w64 (4 * x) * z)) = y * y - 4 * x * z := by
  have h1 := mul_bound (A := 1000000) (B := 1000000) y0 y1 y0 y1
  have h2 := mul_bound (A := 4000000) (B := 1000000) (a := 4 * x) (by omega) (by omega) z0 z1
  rw [w64_of (n := 4 * x) (by omega) (by omega), w64_of (n := 4 * x * z) (by omega) (by omega), w64_of (n := y * y) (by omega) (by omega), w64_of (by omega) (by omega)]

theorem root_l2 : ∀ (j k : Nat) (w d s : Int) (b : Int → Int → Option α) (r : Int → Option α), 0 ≤ w → w + j = s → s ≤ 1000000000 → s * s ≤ d → d < (s + 1) * (s + 1) → j < k → spec_l06Root_l2 k d w b r = b d s
  | 0, k + 1, w, d, s, b, r, h0, hs, hb, h1, h2, _ => by
    have hws : w = s := by omega
    subst hws
    have hm := mul_bound (a := w + 1) (b := w + 1) (A := 1000000001) (B := 1000000001) (by omega) (by omega) (by omega) (by omega)
    simp only [spec_l06Root_l2]
    rw [w64_of (n := w + 1) (by omega) (by omega), w64_of (by omega) (by omega)]
    have : decide ((w + 1) * (w + 1) ≤ d) = false := by simp; exact h2
    rw [this]
    rfl
  | j + 1, k + 1, w, d, s, b, r, h0, hs, hb, h1, h2, hk => by
    have hm := mul_bound (a := w + 1) (b := w + 1) (A := 1000000001) (B := 1000000001) (by omega) (by omega) (by omega) (by omega)
    have hle : (w + 1) * (w + 1) ≤ s * s := Int.mul_le_mul (by omega) (by omega) (by omega) (by omega)
    simp only [spec_l06Root_l2]
    rw [w64_of (n := w + 1) (by omega) (by omega), w64_of (by omega) (by omega)]
    have : decide ((w + 1) * (w + 1) ≤ d) = true := by simp; omega
    rw [this]
    exact root_l2 j k (w + 1) d s b r (by omega) (by omega) hb h1 h2 (by omega)
  | _, 0, _, _, _, _, _, _, _, _, _, _, hk => by omega

theorem impl_root_l2_same : ∀ (k : Nat) (w d : Int) (b : Int → Int → Option α) (r : Int → Option α), impl_root_l2 k d w b r = spec_l06Root_l2 k d w b r
  | 0, _, _, _, _ => rfl
  | k + 1, w, d, b, r => by
    simp only [impl_root_l2, spec_l06Root_l2, impl_root_l2_same k]

theorem spec_root_eq (k : Nat) (d s : Int) (r : Int → Option α) (h0 : 0 ≤ s) (hb : s ≤ 1000000000) (h1 : s * s ≤ d) (h2 : d < (s + 1) * (s + 1)) (hk : s.toNat < k) : spec_l06Root k d r = r s := by
  unfold spec_l06Root
  exact root_l2 s.toNat k 0 d s _ r (by omega) (by omega) hb h1 h2 hk

theorem impl_root_eq (k : Nat) (d s : Int) (r : Int → Option α) (h0 : 0 ≤ s) (hb : s ≤ 1000000000) (h1 : s * s ≤ d) (h2 : d < (s + 1) * (s + 1)) (hk : s.toNat < k) : impl_root k d r = r s := by
  unfold impl_root
  rw [impl_root_l2_same]
  exact root_l2 s.toNat k 0 d s _ r (by omega) (by omega) hb h1 h2 hk

theorem root_of (d : Int) (h0 : 1 ≤ d) (h1 : d ≤ 4000) : ∃ s : Int, 0 ≤ s ∧ s ≤ 63 ∧ s * s ≤ d ∧ d < (s + 1) * (s + 1) := by
  obtain ⟨s, e1, e2, _⟩ := root_exists d.toNat
  have f1 : ((s : Int)) * s ≤ d := by
    have : ((s * s : Nat) : Int) ≤ (d.toNat : Int) := by exact_mod_cast e1
    rw [Int.natCast_mul] at this
    omega
  have f2 : d < ((s : Int) + 1) * (s + 1) := by
    have : ((d.toNat : Nat) : Int) < (((s + 1) * (s + 1) : Nat) : Int) := by exact_mod_cast e2
    rw [Int.natCast_mul] at this
    simp at this
    omega
  refine ⟨s, by omega, ?_, f1, f2⟩
  have := sq_lt (a := (s : Int)) (b := 64) (by omega) (by omega) (by omega)
  omega

/-- Both tests of a form. -/
theorem form_cases (k : Nat) (hk : 64 < k) (x y z : Int) : ((∀ r : Bool → Option α, spec_l06Is k x y z r = r false) ∧ (∀ r : Bool → Option α, impl_IsForm k x y z r = r false)) ∨
    ∃ d s, IsF x y z d s ∧ (∀ r : Bool → Option α, spec_l06Is k x y z r = r true) ∧ (∀ r : Bool → Option α, impl_IsForm k x y z r = r true) := by
  simp only [spec_l06Is, impl_IsForm, spec_l01Fits_eq, impl_isCoord_eq, spec_l06Disc, impl_Form_disc, spec_l01In_eq, impl_discOk, impl_in_eq]
  cases hx : crd x with
  | false => exact .inl ⟨by simp, by simp⟩
  | true =>
    cases hy : crd y with
    | false => exact .inl ⟨by simp, by simp⟩
    | true =>
      cases hz : crd z with
      | false => exact .inl ⟨by simp, by simp⟩
      | true =>
        rw [crd_iff] at hx hy hz
        rw [disc_w x y z hx.1 hx.2 hy.1 hy.2 hz.1 hz.2]
        generalize hd : y * y - 4 * x * z = d
        cases hb : inB d 1 4000 with
        | false => exact .inl ⟨by simp, by simp⟩
        | true =>
          rw [inB_iff] at hb
          obtain ⟨s, h0, h1, h2, h3⟩ := root_of d hb.1 hb.2
          have hm := mul_bound (A := 63) (B := 63) (a := s) (b := s) (by omega) h1 (by omega) h1
          simp only [Bool.not_true, cond_false, cond_true, spec_root_eq k d s _ h0 (by omega) h2 h3 (by omega), impl_root_eq k d s _ h0 (by omega) h2 h3 (by omega), w64_of (n := s * s) (by omega) (by omega)]
          by_cases he : s * s = d
          · exact .inl ⟨by simp [he], by simp [he]⟩
          · exact .inr ⟨d, s, ⟨hx.1, hx.2, hy.1, hy.2, hz.1, hz.2, hd.symm, hb.1, hb.2, h0, by omega, h3⟩, by simp [he], by simp [he]⟩

theorem IsF.disc_spec {x y z d s : Int} (h : IsF x y z d s) (k : Nat) (r : Int → Option α) : spec_l06Disc k x y z r = r d := by
  unfold spec_l06Disc
  rw [disc_w x y z h.x0 h.x1 h.y0 h.y1 h.z0 h.z1, h.hd]

theorem IsF.disc_impl {x y z d s : Int} (h : IsF x y z d s) (k : Nat) (r : Int → Option α) : impl_Form_disc k x y z r = r d := by
  unfold impl_Form_disc
  rw [disc_w x y z h.x0 h.x1 h.y0 h.y1 h.z0 h.z1, h.hd]

theorem IsF.root_spec {x y z d s : Int} (h : IsF x y z d s) (k : Nat) (hk : 64 < k) (r : Int → Option α) : spec_l06Root k d r = r s :=
  spec_root_eq k d s r h.s0 (by have := h.s2; omega) (by have := h.hs; omega) h.hs1 (by have := h.s2; omega)

theorem IsF.root_impl {x y z d s : Int} (h : IsF x y z d s) (k : Nat) (hk : 64 < k) (r : Int → Option α) : impl_root k d r = r s :=
  impl_root_eq k d s r h.s0 (by have := h.s2; omega) (by have := h.hs; omega) h.hs1 (by have := h.s2; omega)

theorem mod_flip {a m : Int} (hm : 0 < m) : (-a + m - 1) % m = m - 1 - a % m := by
  have h1 := Int.emod_add_mul_ediv a m
  have h2 := Int.emod_nonneg a (b := m) (by omega)
  have h3 := Int.emod_lt_of_pos a hm
  refine ((Int.ediv_emod_unique (q := -(a / m)) hm).2 ⟨?_, by omega, by omega⟩).2
  rw [Int.mul_neg]
  omega

/-- The second number of the next form. -/
def nextB (y z s : Int) : Int := (if s < max z (-z) then max z (-z) else s) - ((if s < max z (-z) then max z (-z) else s) + y) % (2 * max z (-z))

theorem IsF.nextB_bounds {x y z d s : Int} (h : IsF x y z d s) : -1000000 ≤ nextB y z s ∧ nextB y z s ≤ 1000000 := by
  have hz := h.zne
  obtain ⟨hx0, hx1, hy0, hy1, hz0, hz1, _, _, _, hs0, _, _⟩ := id h
  have hs2 := h.s2
  unfold nextB
  generalize hc : max z (-z) = c
  have h2 := Int.emod_nonneg ((if s < c then c else s) + y) (b := 2 * c) (by omega)
  have h3 := Int.emod_lt_of_pos ((if s < c then c else s) + y) (b := 2 * c) (by omega)
  split <;> rename_i hsc <;> simp only [hsc, if_true, if_false] at h2 h3 <;> omega

/-- The third number. -/
def nextC (y z d s : Int) : Int := Int.tdiv (nextB y z s * nextB y z s - d) (4 * z)

theorem IsF.next_spec {x y z d s : Int} (h : IsF x y z d s) (k : Nat) (r : Int → Int → Int → Option α) : spec_l06Next k x y z d s r = r z (nextB y z s) (nextC y z d s) := by
  have hz := h.zne
  have hn := h.nextB_bounds
  obtain ⟨hx0, hx1, hy0, hy1, hz0, hz1, _, hd1, hd2, hs0, _, _⟩ := id h
  have hs2 := h.s2
  have hm := mul_bound (A := 1000000) (B := 1000000) hn.1 hn.2 hn.1 hn.2
  have ht := tdiv_abs (nextB y z s * nextB y z s - d) (4 * z)
  have h0 : 0 ≤ nextB y z s * nextB y z s := sq_nn _
  unfold spec_l06Next
  have hz4 : w64 (4 * z) = 4 * z := w64_of (by omega) (by omega)
  have hmz : w64 (0 - z) = -z := by rw [w64_of (by omega) (by omega), Int.zero_sub]
  rw [hz4, dec_eq_f (show 4 * z ≠ 0 by omega), hmz]
  simp only [cond_false]
  unfold nextC
  unfold nextB at hn hm ht h0 ⊢
  generalize hc : max z (-z) = c at hn hm ht h0 ⊢
  have hcp : 0 < c := by omega
  have hc2 : c ≤ 1000000 := by omega
  by_cases hsc : s < c
  · simp only [hsc, if_true, decide_true, cond_true] at hn hm ht h0 ⊢
    rw [w64_of (n := 2 * c) (by omega) (by omega), w64_of (n := c + y) (by omega) (by omega), spec_l01Rest_eq _ _ _ _ (by omega) (by omega)]
    generalize hq : (c + y) % (2 * c) = q at hn hm ht h0 ⊢
    rw [w64_of (n := c - q) (by omega) (by omega), w64_of (n := (c - q) * (c - q)) (by omega) (by omega), w64_of (n := (c - q) * (c - q) - d) (by omega) (by omega), w64_of (by omega) (by omega)]
  · simp only [hsc, if_false, decide_false, cond_false] at hn hm ht h0 ⊢
    rw [w64_of (n := 2 * c) (by omega) (by omega), w64_of (n := s + y) (by omega) (by omega), spec_l01Rest_eq _ _ _ _ (by omega) (by omega)]
    generalize hq : (s + y) % (2 * c) = q at hn hm ht h0 ⊢
    rw [w64_of (n := s - q) (by omega) (by omega), w64_of (n := (s - q) * (s - q)) (by omega) (by omega), w64_of (n := (s - q) * (s - q) - d) (by omega) (by omega), w64_of (by omega) (by omega)]

theorem IsF.next_impl {x y z d s : Int} (h : IsF x y z d s) (k : Nat) (hk : 64 < k) (r : Int → Int → Int → Option α) : impl_Form_next k x y z r = r z (nextB y z s) (nextC y z d s) := by
  have hz := h.zne
  have hn := h.nextB_bounds
  obtain ⟨hx0, hx1, hy0, hy1, hz0, hz1, _, hd1, hd2, hs0, _, _⟩ := id h
  have hs2 := h.s2
  have hm := mul_bound (A := 1000000) (B := 1000000) hn.1 hn.2 hn.1 hn.2
  have ht := tdiv_abs (nextB y z s * nextB y z s - d) (4 * z)
  have h0 : 0 ≤ nextB y z s * nextB y z s := sq_nn _
  unfold impl_Form_next
  simp only [h.disc_impl, h.root_impl k hk, impl_size_eq k z _ (by omega) (by omega)]
  have hz4 : w64 (4 * z) = 4 * z := w64_of (by omega) (by omega)
  rw [hz4, dec_eq_f (show 4 * z ≠ 0 by omega)]
  simp only [cond_false]
  unfold nextC
  unfold nextB at hn hm ht h0 ⊢
  generalize hc : max z (-z) = c at hn hm ht h0 ⊢
  have hcp : 0 < c := by omega
  have hc2 : c ≤ 1000000 := by omega
  have hw : w64 (0 - y) = -y := by rw [w64_of (by omega) (by omega), Int.zero_sub]
  by_cases hsc : s < c
  · simp only [hsc, if_true, decide_true, cond_true] at hn hm ht h0 ⊢
    rw [hw, w64_of (n := 2 * c) (by omega) (by omega), w64_of (n := 1 - c) (by omega) (by omega), w64_of (n := -y - (1 - c)) (by omega) (by omega), impl_mod_eq _ _ _ _ (by omega) (by omega) (by omega) (by omega)]
    have e : -y - (1 - c) = -(c + y) + 2 * c - 1 := by omega
    rw [e, mod_flip (by omega)]
    generalize hq : (c + y) % (2 * c) = q at hn hm ht h0 ⊢
    have e2 : 1 - c + (2 * c - 1 - q) = c - q := by omega
    rw [e2, w64_of (n := c - q) (by omega) (by omega), w64_of (n := (c - q) * (c - q)) (by omega) (by omega), w64_of (n := (c - q) * (c - q) - d) (by omega) (by omega), w64_of (by omega) (by omega)]
  · simp only [hsc, if_false, decide_false, cond_false] at hn hm ht h0 ⊢
    rw [hw, w64_of (n := 2 * c) (by omega) (by omega), w64_of (n := s - 2 * c) (by omega) (by omega), w64_of (n := s - 2 * c + 1) (by omega) (by omega), w64_of (n := -y - (s - 2 * c + 1)) (by omega) (by omega), impl_mod_eq _ _ _ _ (by omega) (by omega) (by omega) (by omega)]
    have e : -y - (s - 2 * c + 1) = -(s + y) + 2 * c - 1 := by omega
    rw [e, mod_flip (by omega)]
    generalize hq : (s + y) % (2 * c) = q at hn hm ht h0 ⊢
    have e2 : s - 2 * c + 1 + (2 * c - 1 - q) = s - q := by omega
    rw [e2, w64_of (n := s - q) (by omega) (by omega), w64_of (n := (s - q) * (s - q)) (by omega) (by omega), w64_of (n := (s - q) * (s - q) - d) (by omega) (by omega), w64_of (by omega) (by omega)]

theorem laws_eqForm_eq (k : Nat) (a b c d e f : Int) (r : Bool → Option α) : laws_eqForm k a b c d e f r = r (decide (a = d) && (decide (b = e) && decide (c = f))) := by
  unfold laws_eqForm
  cases decide (a = d) <;> cases decide (b = e) <;> cases decide (c = f) <;> rfl

theorem law_NextForm (k : Nat) (hk : 64 < k) (x y z : Int) (r : Bool → Option α) : laws_FnExactNextForm k x y z r = r true := by
  simp only [laws_FnExactNextForm, laws_toForm, spec_NextForm, impl_NextForm, laws_eqForm_eq]
  rcases form_cases (α := α) k hk x y z with ⟨h1, h2⟩ | ⟨d, s, h, h1, h2⟩
  · simp [h1, h2]
  · simp [h1, h2, h.disc_spec, h.root_spec k hk, h.next_spec, h.next_impl k hk]

end Go.Sh
