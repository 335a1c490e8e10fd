/- Plain laws: what the readings without memory answer. -/
import Derived.Test.YtbepofgmcchbdaaShLForms
namespace Go.Sh
open Go Go.Ev

variable {α : Type}

/-- A ring of n points. -/
structure Ring (n : Nat) (X Y : Nat → Int) : Prop where
  pos : 3 ≤ n
  px : ∀ i, X (i + n) = X i
  py : ∀ i, Y (i + n) = Y i

/-- The determinant of the sides i and j. -/
def cr (X Y : Nat → Int) (i j : Nat) : Int := (X (i + 1) - X i) * (Y (j + 1) - Y j) - (Y (i + 1) - Y i) * (X (j + 1) - X j)

/-- Does a direction go up? -/
def upV (x y : Int) : Prop := 0 < y ∨ (y = 0 ∧ 0 < x)

instance (x y : Int) : Decidable (upV x y) := by unfold upV; infer_instance

def upS (X Y : Nat → Int) (i : Nat) : Prop := upV (X (i + 1) - X i) (Y (i + 1) - Y i)

variable {n : Nat} {X Y : Nat → Int}

/-- Around once: first sides that go up, then sides that do not. -/
structure Once (n : Nat) (X Y : Nat → Int) (s m : Nat) : Prop where
  ring : Ring n X Y
  m0 : 1 ≤ m
  m1 : m < n
  turn : ∀ i, 0 < cr X Y i (i + 1)
  up : ∀ j, s ≤ j → j < s + m → upS X Y j
  low : ∀ j, s + m ≤ j → j < s + n → ¬ upS X Y j

variable {s m : Nat}

theorem spec_l01In_eq (k : Nat) (n low high : Int) (r : Bool → Option α) : spec_l01In k n low high r = r (inB n low high) := by
  unfold spec_l01In inB
  cases decide (low ≤ n) <;> rfl

theorem spec_l01Fits_eq (k : Nat) (n : Int) (r : Bool → Option α) : spec_l01Fits k n r = r (crd n) := by
  simp only [spec_l01Fits, spec_l01In_eq]; rfl

theorem impl_in_eq (k : Nat) (n low high : Int) (r : Bool → Option α) : impl_in k n low high r = r (inB n low high) := by
  unfold impl_in inB
  cases decide (low ≤ n) <;> rfl

theorem impl_isCoord_eq (k : Nat) (n : Int) (r : Bool → Option α) : impl_isCoord k n r = r (crd n) := by
  simp only [impl_isCoord, impl_in_eq]; rfl

theorem impl_IsPoint_eq (k : Nat) (a b : Int) (r : Bool → Option α) : impl_IsPoint k a b r = r (crd a && crd b) := by
  simp only [impl_IsPoint, impl_isCoord_eq]
  cases crd a <;> rfl

theorem spec_l01Matrix_eq (k : Nat) (a b c d : Int) (r : Bool → Option α) : spec_l01Matrix k a b c d r = r (crd a && (crd b && (crd c && crd d))) := by
  simp only [spec_l01Matrix, spec_l01Fits_eq]
  cases crd a <;> cases crd b <;> cases crd c <;> rfl

theorem impl_points_find (k : Nat) (s : List (Int × Int)) (hs : s.length ≤ big) (hk : s.length < k) (r : Bool → Option α) : impl_points k s r = r (s.all fun e => crd e.1 && crd e.2) := by
  unfold impl_points slices_ContainsFunc_impl_Point_impl_Point_1F_impl_points_1 slices_IndexFunc_impl_Point_impl_Point_1F_impl_points_1
  have h := find_loop (α := α) (p := fun e : Int × Int => !(crd e.1 && crd e.2)) (L := slices_IndexFunc_impl_Point_impl_Point_1F_impl_points_1_l2)
    (fun k x i s b r => by simp only [slices_IndexFunc_impl_Point_impl_Point_1F_impl_points_1_l2, impl_points_1, impl_IsPoint_eq]) s k 0 s
  have h0 : ((0 : Nat) : Int) = 0 := rfl
  rw [h0] at h
  rw [h _ _ (by simp) hs (by omega) hk]
  cases hf : s.findIdx? (fun e : Int × Int => !(crd e.1 && crd e.2)) with
  | none =>
    rw [List.findIdx?_eq_none_iff] at hf
    have : (s.all fun e => crd e.1 && crd e.2) = true := List.all_eq_true.2 fun e he => by simpa using hf e he
    simp [this]
  | some j =>
    rw [List.findIdx?_eq_some_iff_getElem] at hf
    obtain ⟨hj, hp, _⟩ := hf
    have : (s.all fun e => crd e.1 && crd e.2) = false := by
      rw [List.all_eq_false]
      exact ⟨s[j], List.getElem_mem hj, by cases h1 : crd s[j].1 <;> cases h2 : crd s[j].2 <;> simp_all⟩
    rw [this]
    simp

theorem impl_points2 (k : Nat) (hk : 3 ≤ k) (a b c d : Int) (r : Bool → Option α) : impl_points k [(a, b), (c, d)] r = r (crd a && crd b && (crd c && crd d)) := by
  rw [impl_points_find _ _ (by rw [big_val]; simp) (by simp; omega)]
  simp

theorem impl_IsMatrix_eq (k : Nat) (hk : 3 ≤ k) (a b c d : Int) (r : Bool → Option α) : impl_IsMatrix k a b c d r = r (crd a && (crd b && (crd c && crd d))) := by
  simp only [impl_IsMatrix, impl_points2 k hk, Bool.and_assoc]

theorem spec_l01Rest_eq (k : Nat) (n x : Int) (r : Int → Option α) (hn : 0 < n) (hn2 : n ≤ 1000000000000000000) : spec_l01Rest k n x r = r (x % n) := by
  have h1 : -n < Int.tmod x n := Int.lt_tmod_of_pos x hn
  have h2 : Int.tmod x n < n := Int.tmod_lt_of_pos x hn
  simp only [spec_l01Rest, dec_eq_f (show n ≠ 0 by omega), cond_false]
  rw [w64_of (by omega) (by omega), rest_eq hn]

theorem impl_floor_eq (k : Nat) (a b : Int) (r : Int → Option α) (hb : 0 < b) (ha : -1000000000000000000 ≤ a) (ha2 : a ≤ 1000000000000000000) : impl_floor k a b r = r (a / b) := by
  have hq := tdiv_abs a b
  simp only [impl_floor, dec_eq_f (show b ≠ 0 by omega), cond_false, w64_of (n := Int.tdiv a b) (by omega) (by omega), w64_of (n := Int.tdiv a b - 1) (by omega) (by omega)]
  rw [← tdiv_floor a b hb]
  cases (!decide (Int.tmod a b = 0)) <;> cases (!(decide (a < 0) == decide (b < 0))) <;> rfl

theorem impl_mod_eq (k : Nat) (a b : Int) (r : Int → Option α) (hb : 0 < b) (hb2 : b ≤ 1000000000000000000) (ha : -1000000000000000000 ≤ a) (ha2 : a ≤ 1000000000000000000) : impl_mod k a b r = r (a % b) := by
  simp only [impl_mod, impl_floor_eq k a b _ hb ha ha2]
  have h1 := Int.emod_add_mul_ediv a b
  have h2 := Int.emod_nonneg a (b := b) (by omega)
  have h3 := Int.emod_lt_of_pos a hb
  rw [w64_of (n := b * (a / b)) (by omega) (by omega), w64_of (by omega) (by omega)]
  congr 1
  omega

theorem impl_size_eq (k : Nat) (n : Int) (r : Int → Option α) (h0 : -1000000000000000000 ≤ n) (h1 : n ≤ 1000000000000000000) : impl_size k n r = r (max n (-n)) := by
  simp only [impl_size]
  rw [w64_of (by omega) (by omega), Int.zero_sub]

/-- A form, with its discriminant and the root of that. -/
structure IsF (x y z d s : Int) : Prop where
  x0 : -1000000 ≤ x
  x1 : x ≤ 1000000
  y0 : -1000000 ≤ y
  y1 : y ≤ 1000000
  z0 : -1000000 ≤ z
  z1 : z ≤ 1000000
  hd : d = y * y - 4 * x * z
  d1 : 1 ≤ d
  d2 : d ≤ 4000
  s0 : 0 ≤ s
  hs : s * s < d
  hs1 : d < (s + 1) * (s + 1)

theorem sq_lt {a b : Int} (ha : 0 ≤ a) (hb : 0 ≤ b) (h : a * a < b * b) : a < b := by
  rcases ilt_or_ge a b with h1 | h1
  · exact h1
  · have := Int.mul_le_mul h1 h1 hb ha
    omega

theorem IsF.s2 {x y z d s : Int} (h : IsF x y z d s) : s ≤ 63 := by
  have h1 := h.hs
  have h2 := h.d2
  have := sq_lt (a := s) (b := 64) h.s0 (by omega) (by omega)
  omega

theorem IsF.zne {x y z d s : Int} (h : IsF x y z d s) : z ≠ 0 := by
  intro e
  have hd := h.hd
  rw [e, Int.mul_zero, Int.sub_zero] at hd
  have h1 := h.hs
  have h2 := h.hs1
  have h0 := h.s0
  have key : ∀ n : Int, 0 ≤ n → n * n = y * y → False := fun n hn he => by
    have a1 := sq_lt h0 hn (by omega)
    have a2 := sq_lt hn (by omega : 0 ≤ s + 1) (by omega)
    omega
  rcases Int.le_total 0 y with hy | hy
  · exact key y hy rfl
  · exact key (-y) (by omega) (Int.neg_mul_neg y y)

theorem disc_w (x y z : Int) (x0 : -1000000 ≤ x) (x1 : x ≤ 1000000) (y0 : -1000000 ≤ y) (y1 : y ≤ 1000000) (z0 : -1000000 ≤ z) (z1 : z ≤ 1000000) : w64 (w64 (y * y) - w64 (w64 (4 * x) * z)) = y * y - 4 * x * z := by
  have h1 := mul_bound (A := 1000000) (B := 1000000) y0 y1 y0 y1
  have h2 := mul_bound (A := 4000000) (B := 1000000) (a := 4 * x) (by omega) (by omega) z0 z1
  rw [w64_of (n := 4 * x) (by omega) (by omega), w64_of (n := 4 * x * z) (by omega) (by omega), w64_of (n := y * y) (by omega) (by omega), w64_of (by omega) (by omega)]

theorem root_l2 : ∀ (j k : Nat) (w d s : Int) (b : Int → Int → Option α) (r : Int → Option α), 0 ≤ w → w + j = s → s ≤ 1000000000 → s * s ≤ d → d < (s + 1) * (s + 1) → j < k → spec_l06Root_l2 k d w b r = b d s
  | 0, k + 1, w, d, s, b, r, h0, hs, hb, h1, h2, _ => by
    have hws : w = s := by omega
    subst hws
    have hm := mul_bound (a := w + 1) (b := w + 1) (A := 1000000001) (B := 1000000001) (by omega) (by omega) (by omega) (by omega)
    simp only [spec_l06Root_l2]
    rw [w64_of (n := w + 1) (by omega) (by omega), w64_of (by omega) (by omega)]
    have : decide ((w + 1) * (w + 1) ≤ d) = false := by simp; exact h2
    rw [this]
    rfl
  | j + 1, k + 1, w, d, s, b, r, h0, hs, hb, h1, h2, hk => by
    have hm := mul_bound (a := w + 1) (b := w + 1) (A := 1000000001) (B := 1000000001) (by omega) (by omega) (by omega) (by omega)
    have hle : (w + 1) * (w + 1) ≤ s * s := Int.mul_le_mul (by omega) (by omega) (by omega) (by omega)
    simp only [spec_l06Root_l2]
    rw [w64_of (n := w + 1) (by omega) (by omega), w64_of (by omega) (by omega)]
    have : decide ((w + 1) * (w + 1) ≤ d) = true := by simp; omega
    rw [this]
    exact root_l2 j k (w + 1) d s b r (by omega) (by omega) hb h1 h2 (by omega)
  | _, 0, _, _, _, _, _, _, _, _, _, _, hk => by omega

theorem impl_root_l2_same : ∀ (k : Nat) (w d : Int) (b : Int → Int → Option α) (r : Int → Option α), impl_root_l2 k d w b r = spec_l06Root_l2 k d w b r
  | 0, _, _, _, _ => rfl
  | k + 1, w, d, b, r => by
    simp only [impl_root_l2, spec_l06Root_l2, impl_root_l2_same k]

theorem spec_root_eq (k : Nat) (d s : Int) (r : Int → Option α) (h0 : 0 ≤ s) (hb : s ≤ 1000000000) (h1 : s * s ≤ d) (h2 : d < (s + 1) * (s + 1)) (hk : s.toNat < k) : spec_l06Root k d r = r s := by
  unfold spec_l06Root
  exact root_l2 s.toNat k 0 d s _ r (by omega) (by omega) hb h1 h2 hk

theorem impl_root_eq (k : Nat) (d s : Int) (r : Int → Option α) (h0 : 0 ≤ s) (hb : s ≤ 1000000000) (h1 : s * s ≤ d) (h2 : d < (s + 1) * (s + 1)) (hk : s.toNat < k) : impl_root k d r = r s := by
  unfold impl_root
  rw [impl_root_l2_same]
  exact root_l2 s.toNat k 0 d s _ r (by omega) (by omega) hb h1 h2 hk

theorem root_of (d : Int) (h0 : 1 ≤ d) (h1 : d ≤ 4000) : ∃ s : Int, 0 ≤ s ∧ s ≤ 63 ∧ s * s ≤ d ∧ d < (s + 1) * (s + 1) := by
  obtain ⟨s, e1, e2, _⟩ := root_exists d.toNat
  have f1 : ((s : Int)) * s ≤ d := by
    have : ((s * s : Nat) : Int) ≤ (d.toNat : Int) := by exact_mod_cast e1
    rw [Int.natCast_mul] at this
    omega
  have f2 : d < ((s : Int) + 1) * (s + 1) := by
    have : ((d.toNat : Nat) : Int) < (((s + 1) * (s + 1) : Nat) : Int) := by exact_mod_cast e2
    rw [Int.natCast_mul] at this
    simp at this
    omega
  refine ⟨s, by omega, ?_, f1, f2⟩
  have := sq_lt (a := (s : Int)) (b := 64) (by omega) (by omega) (by omega)
  omega

/-- Both tests of a form. -/
theorem form_cases (k : Nat) (hk : 64 < k) (x y z : Int) : ((∀ r : Bool → Option α, spec_l06Is k x y z r = r false) ∧ (∀ r : Bool → Option α, impl_IsForm k x y z r = r false)) ∨
    ∃ d s, IsF x y z d s ∧ (∀ r : Bool → Option α, spec_l06Is k x y z r = r true) ∧ (∀ r : Bool → Option α, impl_IsForm k x y z r = r true) := by
  simp only [spec_l06Is, impl_IsForm, spec_l01Fits_eq, impl_isCoord_eq, spec_l06Disc, impl_Form_disc, spec_l01In_eq, impl_discOk, impl_in_eq]
  cases hx : crd x with
  | false => exact .inl ⟨by simp, by simp⟩
  | true =>
    cases hy : crd y with
    | false => exact .inl ⟨by simp, by simp⟩
    | true =>
      cases hz : crd z with
      | false => exact .inl ⟨by simp, by simp⟩
      | true =>
        rw [crd_iff] at hx hy hz
        rw [disc_w x y z hx.1 hx.2 hy.1 hy.2 hz.1 hz.2]
        generalize hd : y * y - 4 * x * z = d
        cases hb : inB d 1 4000 with
        | false => exact .inl ⟨by simp, by simp⟩
        | true =>
          rw [inB_iff] at hb
          obtain ⟨s, h0, h1, h2, h3⟩ := root_of d hb.1 hb.2
          have hm := mul_bound (A := 63) (B := 63) (a := s) (b := s) (by omega) h1 (by omega) h1
          simp only [Bool.not_true, cond_false, cond_true, spec_root_eq k d s _ h0 (by omega) h2 h3 (by omega), impl_root_eq k d s _ h0 (by omega) h2 h3 (by omega), w64_of (n := s * s) (by omega) (by omega)]
          by_cases he : s * s = d
          · exact .inl ⟨by simp [he], by simp [he]⟩
          · exact .inr ⟨d, s, ⟨hx.1, hx.2, hy.1, hy.2, hz.1, hz.2, hd.symm, hb.1, hb.2, h0, by omega, h3⟩, by simp [he], by simp [he]⟩

theorem IsF.disc_spec {x y z d s : Int} (h : IsF x y z d s) (k : Nat) (r : Int → Option α) : spec_l06Disc k x y z r = r d := by
  unfold spec_l06Disc
  rw [disc_w x y z h.x0 h.x1 h.y0 h.y1 h.z0 h.z1, h.hd]

theorem IsF.disc_impl {x y z d s : Int} (h : IsF x y z d s) (k : Nat) (r : Int → Option α) : impl_Form_disc k x y z r = r d := by
  unfold impl_Form_disc
  rw [disc_w x y z h.x0 h.x1 h.y0 h.y1 h.z0 h.z1, h.hd]

theorem IsF.root_spec {x y z d s : Int} (h : IsF x y z d s) (k : Nat) (hk : 64 < k) (r : Int → Option α) : spec_l06Root k d r = r s :=
  spec_root_eq k d s r h.s0 (by have := h.s2; omega) (by have := h.hs; omega) h.hs1 (by have := h.s2; omega)

theorem IsF.root_impl {x y z d s : Int} (h : IsF x y z d s) (k : Nat) (hk : 64 < k) (r : Int → Option α) : impl_root k d r = r s :=
  impl_root_eq k d s r h.s0 (by have := h.s2; omega) (by have := h.hs; omega) h.hs1 (by have := h.s2; omega)

/-- A reduced form. -/
def redF (x y s : Int) : Bool := decide (0 < y) && (decide (y ≤ s) && (decide (s - y < 2 * max x (-x)) && decide (2 * max x (-x) ≤ s + y)))

theorem IsF.red_spec {x y z d s : Int} (h : IsF x y z d s) (k : Nat) (r : Bool → Option α) : spec_l06Reduced k x y z s r = r (redF x y s) := by
  obtain ⟨hx0, hx1, hy0, hy1, hz0, hz1, _, _, _, hs0, _, _⟩ := id h
  have hs2 := h.s2
  unfold spec_l06Reduced redF
  rw [w64_of (n := 0 - x) (by omega) (by omega), Int.zero_sub, w64_of (n := 2 * max x (-x)) (by omega) (by omega), w64_of (n := s - y) (by omega) (by omega), w64_of (n := s + y) (by omega) (by omega)]
  cases decide (0 < y) <;> cases decide (y ≤ s) <;> cases decide (s - y < 2 * max x (-x)) <;> rfl

theorem IsF.red_impl {x y z d s : Int} (h : IsF x y z d s) (k : Nat) (hk : 64 < k) (r : Bool → Option α) : impl_Form_reduced k x y z r = r (redF x y s) := by
  obtain ⟨hx0, hx1, hy0, hy1, hz0, hz1, _, _, _, hs0, _, _⟩ := id h
  have hs2 := h.s2
  unfold impl_Form_reduced redF
  simp only [h.disc_impl, h.root_impl k hk, impl_in_eq, impl_size_eq k x _ (by omega) (by omega)]
  rw [w64_of (n := 2 * max x (-x)) (by omega) (by omega), w64_of (n := s - y) (by omega) (by omega), w64_of (n := s + y) (by omega) (by omega)]
  have e : inB y 1 s = (decide (0 < y) && decide (y ≤ s)) := rfl
  rw [e]
  cases decide (0 < y) <;> cases decide (y ≤ s) <;> cases decide (s - y < 2 * max x (-x)) <;> rfl

theorem mod_flip {a m : Int} (hm : 0 < m) : (-a + m - 1) % m = m - 1 - a % m := by
  have h1 := Int.emod_add_mul_ediv a m
  have h2 := Int.emod_nonneg a (b := m) (by omega)
  have h3 := Int.emod_lt_of_pos a hm
  refine ((Int.ediv_emod_unique (q := -(a / m)) hm).2 ⟨?_, by omega, by omega⟩).2
  rw [Int.mul_neg]
  omega

/-- The second number of the next form. -/
def nextB (y z s : Int) : Int := (if s < max z (-z) then max z (-z) else s) - ((if s < max z (-z) then max z (-z) else s) + y) % (2 * max z (-z))

theorem IsF.nextB_bounds {x y z d s : Int} (h : IsF x y z d s) : -1000000 ≤ nextB y z s ∧ nextB y z s ≤ 1000000 := by
  have hz := h.zne
  obtain ⟨hx0, hx1, hy0, hy1, hz0, hz1, _, _, _, hs0, _, _⟩ := id h
  have hs2 := h.s2
  unfold nextB
  generalize hc : max z (-z) = c
  have h2 := Int.emod_nonneg ((if s < c then c else s) + y) (b := 2 * c) (by omega)
  have h3 := Int.emod_lt_of_pos ((if s < c then c else s) + y) (b := 2 * c) (by omega)
  split <;> rename_i hsc <;> simp only [hsc, if_true, if_false] at h2 h3 <;> omega

/-- The third number. -/
def nextC (y z d s : Int) : Int := Int.tdiv (nextB y z s * nextB y z s - d) (4 * z)

theorem IsF.next_spec {x y z d s : Int} (h : IsF x y z d s) (k : Nat) (r : Int → Int → Int → Option α) : spec_l06Next k x y z d s r = r z (nextB y z s) (nextC y z d s) := by
  have hz := h.zne
  have hn := h.nextB_bounds
  obtain ⟨hx0, hx1, hy0, hy1, hz0, hz1, _, hd1, hd2, hs0, _, _⟩ := id h
  have hs2 := h.s2
  have hm := mul_bound (A := 1000000) (B := 1000000) hn.1 hn.2 hn.1 hn.2
  have ht := tdiv_abs (nextB y z s * nextB y z s - d) (4 * z)
  have h0 : 0 ≤ nextB y z s * nextB y z s := sq_nn _
  unfold spec_l06Next
  have hz4 : w64 (4 * z) = 4 * z := w64_of (by omega) (by omega)
  have hmz : w64 (0 - z) = -z := by rw [w64_of (by omega) (by omega), Int.zero_sub]
  rw [hz4, dec_eq_f (show 4 * z ≠ 0 by omega), hmz]
  simp only [cond_false]
  unfold nextC
  unfold nextB at hn hm ht h0 ⊢
  generalize hc : max z (-z) = c at hn hm ht h0 ⊢
  have hcp : 0 < c := by omega
  have hc2 : c ≤ 1000000 := by omega
  by_cases hsc : s < c
  · simp only [hsc, if_true, decide_true, cond_true] at hn hm ht h0 ⊢
    rw [w64_of (n := 2 * c) (by omega) (by omega), w64_of (n := c + y) (by omega) (by omega), spec_l01Rest_eq _ _ _ _ (by omega) (by omega)]
    generalize hq : (c + y) % (2 * c) = q at hn hm ht h0 ⊢
    rw [w64_of (n := c - q) (by omega) (by omega), w64_of (n := (c - q) * (c - q)) (by omega) (by omega), w64_of (n := (c - q) * (c - q) - d) (by omega) (by omega), w64_of (by omega) (by omega)]
  · simp only [hsc, if_false, decide_false, cond_false] at hn hm ht h0 ⊢
    rw [w64_of (n := 2 * c) (by omega) (by omega), w64_of (n := s + y) (by omega) (by omega), spec_l01Rest_eq _ _ _ _ (by omega) (by omega)]
    generalize hq : (s + y) % (2 * c) = q at hn hm ht h0 ⊢
    rw [w64_of (n := s - q) (by omega) (by omega), w64_of (n := (s - q) * (s - q)) (by omega) (by omega), w64_of (n := (s - q) * (s - q) - d) (by omega) (by omega), w64_of (by omega) (by omega)]

theorem IsF.next_impl {x y z d s : Int} (h : IsF x y z d s) (k : Nat) (hk : 64 < k) (r : Int → Int → Int → Option α) : impl_Form_next k x y z r = r z (nextB y z s) (nextC y z d s) := by
  have hz := h.zne
  have hn := h.nextB_bounds
  obtain ⟨hx0, hx1, hy0, hy1, hz0, hz1, _, hd1, hd2, hs0, _, _⟩ := id h
  have hs2 := h.s2
  have hm := mul_bound (A := 1000000) (B := 1000000) hn.1 hn.2 hn.1 hn.2
  have ht := tdiv_abs (nextB y z s * nextB y z s - d) (4 * z)
  have h0 : 0 ≤ nextB y z s * nextB y z s := sq_nn _
  unfold impl_Form_next
  simp only [h.disc_impl, h.root_impl k hk, impl_size_eq k z _ (by omega) (by omega)]
  have hz4 : w64 (4 * z) = 4 * z := w64_of (by omega) (by omega)
  rw [hz4, dec_eq_f (show 4 * z ≠ 0 by omega)]
  simp only [cond_false]
  unfold nextC
  unfold nextB at hn hm ht h0 ⊢
  generalize hc : max z (-z) = c at hn hm ht h0 ⊢
  have hcp : 0 < c := by omega
  have hc2 : c ≤ 1000000 := by omega
  have hw : w64 (0 - y) = -y := by rw [w64_of (by omega) (by omega), Int.zero_sub]
  by_cases hsc : s < c
  · simp only [hsc, if_true, decide_true, cond_true] at hn hm ht h0 ⊢
    rw [hw, w64_of (n := 2 * c) (by omega) (by omega), w64_of (n := 1 - c) (by omega) (by omega), w64_of (n := -y - (1 - c)) (by omega) (by omega), impl_mod_eq _ _ _ _ (by omega) (by omega) (by omega) (by omega)]
    have e : -y - (1 - c) = -(c + y) + 2 * c - 1 := by omega
    rw [e, mod_flip (by omega)]
    generalize hq : (c + y) % (2 * c) = q at hn hm ht h0 ⊢
    have e2 : 1 - c + (2 * c - 1 - q) = c - q := by omega
    rw [e2, w64_of (n := c - q) (by omega) (by omega), w64_of (n := (c - q) * (c - q)) (by omega) (by omega), w64_of (n := (c - q) * (c - q) - d) (by omega) (by omega), w64_of (by omega) (by omega)]
  · simp only [hsc, if_false, decide_false, cond_false] at hn hm ht h0 ⊢
    rw [hw, w64_of (n := 2 * c) (by omega) (by omega), w64_of (n := s - 2 * c) (by omega) (by omega), w64_of (n := s - 2 * c + 1) (by omega) (by omega), w64_of (n := -y - (s - 2 * c + 1)) (by omega) (by omega), impl_mod_eq _ _ _ _ (by omega) (by omega) (by omega) (by omega)]
    have e : -y - (s - 2 * c + 1) = -(s + y) + 2 * c - 1 := by omega
    rw [e, mod_flip (by omega)]
    generalize hq : (s + y) % (2 * c) = q at hn hm ht h0 ⊢
    have e2 : s - 2 * c + 1 + (2 * c - 1 - q) = s - q := by omega
    rw [e2, w64_of (n := s - q) (by omega) (by omega), w64_of (n := (s - q) * (s - q)) (by omega) (by omega), w64_of (n := (s - q) * (s - q) - d) (by omega) (by omega), w64_of (by omega) (by omega)]

/-- What the next form is made of. -/
theorem IsF.next_eq {x y z d s : Int} (h : IsF x y z d s) : ∃ t, nextB y z s = -y + 2 * z * t ∧ 4 * z * nextC y z d s = nextB y z s * nextB y z s - d := by
  have hz := h.zne
  have h1 := Int.emod_add_mul_ediv ((if s < max z (-z) then max z (-z) else s) + y) (2 * max z (-z))
  have hb : ∃ t, nextB y z s = -y + 2 * z * t := by
    unfold nextB
    generalize (if s < max z (-z) then max z (-z) else s) = H at h1 ⊢
    generalize (H + y) / (2 * max z (-z)) = q at h1
    generalize (H + y) % (2 * max z (-z)) = r at h1 ⊢
    rcases Int.le_total 0 z with hz0 | hz0
    · refine ⟨q, ?_⟩
      rw [show max z (-z) = z by omega] at h1
      omega
    · refine ⟨-q, ?_⟩
      rw [show max z (-z) = -z by omega] at h1
      have e : 2 * z * -q = 2 * -z * q := by grind
      omega
  obtain ⟨t, ht⟩ := hb
  refine ⟨t, ht, ?_⟩
  have e : nextB y z s * nextB y z s - d = 4 * z * (x - y * t + z * t * t) := by
    rw [ht, h.hd]
    grind
  unfold nextC
  rw [e, Int.mul_tdiv_cancel_left _ (by omega)]

/-- Where the second number of the next form lies. -/
theorem IsF.nextB_in {x y z d s : Int} (h : IsF x y z d s) : (if s < max z (-z) then max z (-z) else s) - 2 * max z (-z) < nextB y z s ∧ nextB y z s ≤ (if s < max z (-z) then max z (-z) else s) := by
  have hz := h.zne
  have h2 := Int.emod_nonneg ((if s < max z (-z) then max z (-z) else s) + y) (b := 2 * max z (-z)) (by omega)
  have h3 := Int.emod_lt_of_pos ((if s < max z (-z) then max z (-z) else s) + y) (b := 2 * max z (-z)) (by omega)
  unfold nextB
  omega

theorem sq_le_of {a b : Int} (h1 : -b ≤ a) (h2 : a ≤ b) : a * a ≤ b * b := by
  have := Int.mul_nonneg (a := b - a) (b := b + a) (by omega) (by omega)
  have e : (b - a) * (b + a) = b * b - a * a := by grind
  omega

theorem mul_lt_cancel {c a b : Int} (hc : 0 < c) (h : c * a < c * b) : a < b := by
  rcases ilt_or_ge a b with h1 | h1
  · exact h1
  · have := mul_le_l c (by omega) h1
    omega

theorem mul_le_cancel {c a b : Int} (hc : 0 < c) (h : c * a ≤ c * b) : a ≤ b := by
  rcases ilt_or_ge b a with h1 | h1
  · have := mul_le_l c (by omega) (show b + 1 ≤ a by omega)
    rw [Int.mul_add] at this
    omega
  · exact h1

/-- The size of the third number, by that of the second. -/
theorem IsF.nextC_abs {x y z d s : Int} (h : IsF x y z d s) : 4 * max z (-z) * max (nextC y z d s) (-(nextC y z d s)) = max (nextB y z s * nextB y z s - d) (-(nextB y z s * nextB y z s - d)) := by
  obtain ⟨t, _, e⟩ := h.next_eq
  rw [← e]
  generalize nextC y z d s = w
  rcases Int.le_total 0 z with h1 | h1 <;> rcases Int.le_total 0 w with h2 | h2
  · have := Int.mul_nonneg h1 h2
    rw [show max z (-z) = z by omega, show max w (-w) = w by omega, show max (4 * z * w) (-(4 * z * w)) = 4 * z * w by rw [Int.mul_assoc]; omega]
  · have := Int.mul_nonneg h1 (show 0 ≤ -w by omega)
    rw [Int.mul_neg] at this
    rw [show max z (-z) = z by omega, show max w (-w) = -w by omega, show max (4 * z * w) (-(4 * z * w)) = -(4 * z * w) by rw [Int.mul_assoc]; omega]
    grind
  · have := Int.mul_nonneg (show 0 ≤ -z by omega) h2
    rw [Int.neg_mul] at this
    rw [show max z (-z) = -z by omega, show max w (-w) = w by omega, show max (4 * z * w) (-(4 * z * w)) = -(4 * z * w) by rw [Int.mul_assoc]; omega]
    grind
  · have := Int.mul_nonneg (show 0 ≤ -z by omega) (show 0 ≤ -w by omega)
    rw [Int.neg_mul_neg] at this
    rw [show max z (-z) = -z by omega, show max w (-w) = -w by omega, show max (4 * z * w) (-(4 * z * w)) = 4 * z * w by rw [Int.mul_assoc]; omega]
    grind

/-- While the third number is great the next one is less than a quarter of it. -/
theorem IsF.nextC_less {x y z d s : Int} (h : IsF x y z d s) (hz : s < max z (-z)) : 4 * max (nextC y z d s) (-(nextC y z d s)) ≤ max z (-z) := by
  have e := h.nextC_abs
  have hb := h.nextB_in
  rw [if_pos hz] at hb
  have hs0 := h.s0
  generalize hc : max z (-z) = c at *
  generalize nextB y z s = b at *
  generalize max (nextC y z d s) (-(nextC y z d s)) = w at *
  have h1 := sq_le_of (a := b) (b := c) (by omega) (by omega)
  have h2 := sq_nn b
  have h3 := Int.mul_le_mul (show s + 1 ≤ c by omega) (show s + 1 ≤ c by omega) (by omega) (by omega)
  have h4 := h.hs1
  have hd1 := h.d1
  refine mul_le_cancel (c := c) (by omega) ?_
  have e2 : c * (4 * w) = 4 * c * w := by grind
  omega

/-- Once it is not the next one is at most half of the root's size, or the form reduced. -/
theorem IsF.nextC_small {x y z d s : Int} (h : IsF x y z d s) (hz : max z (-z) ≤ s) (h2z : s < 2 * max z (-z)) : 2 * max (nextC y z d s) (-(nextC y z d s)) ≤ s := by
  have e := h.nextC_abs
  have hb := h.nextB_in
  rw [if_neg (by omega)] at hb
  have hs0 := h.s0
  have hzn := h.zne
  generalize hc : max z (-z) = c at *
  generalize nextB y z s = b at *
  generalize max (nextC y z d s) (-(nextC y z d s)) = w at *
  have h1 := sq_le_of (a := b) (b := s) (by omega) (by omega)
  have h2 := sq_nn b
  have h4 := h.hs1
  have h5 := h.hs
  -- 4 c w = d - b b < (s + 1) (s + 1) and 2 c is at least s + 1
  have hlt : (s + 1) * (2 * w) < (s + 1) * (s + 1) := by
    have hw : 0 ≤ w := by
      rcases ilt_or_ge w 0 with g | g
      · have := Int.mul_pos (a := 4 * c) (b := -w) (by omega) (by omega)
        rw [Int.mul_neg] at this
        omega
      · exact g
    have := mul_le_r (2 * w) (by omega) (show s + 1 ≤ 2 * c by omega)
    have e2 : 2 * c * (2 * w) = 4 * c * w := by grind
    omega
  have := mul_lt_cancel (by omega) hlt
  omega

theorem IsF.next_isF {x y z d s : Int} (h : IsF x y z d s) : IsF z (nextB y z s) (nextC y z d s) d s := by
  have hb := h.nextB_bounds
  obtain ⟨t, _, e⟩ := h.next_eq
  have hs2 := h.s2
  have hzn := h.zne
  have hw : max (nextC y z d s) (-(nextC y z d s)) ≤ 1000000 := by
    have hz0 := h.z0
    have hz1 := h.z1
    rcases ilt_or_ge s (max z (-z)) with g | g
    · have := h.nextC_less g
      omega
    · have ea := h.nextC_abs
      have hbi := h.nextB_in
      rw [if_neg (by omega)] at hbi
      have h1 := sq_le_of (a := nextB y z s) (b := 63) (by omega) (by omega)
      have h2 := sq_nn (nextB y z s)
      have hd1 := h.d1
      have hd2 := h.d2
      generalize max (nextC y z d s) (-(nextC y z d s)) = w at *
      rcases ilt_or_ge 1000000 w with g2 | g2
      · have := mul_le_r w (by omega) (show 1 ≤ 4 * max z (-z) by omega)
        omega
      · exact g2
  refine ⟨h.z0, h.z1, hb.1, hb.2, by omega, by omega, ?_, h.d1, h.d2, h.s0, h.hs, h.hs1⟩
  omega

theorem redF_iff {x y s : Int} : redF x y s = true ↔ 0 < y ∧ y ≤ s ∧ s - y < 2 * max x (-x) ∧ 2 * max x (-x) ≤ s + y := by
  simp [redF]

/-- A form whose third number is at most half of the root is followed by a reduced one. -/
theorem IsF.next_red {x y z d s : Int} (h : IsF x y z d s) (hz : 2 * max z (-z) ≤ s) : redF z (nextB y z s) s = true := by
  have hb := h.nextB_in
  have hzn := h.zne
  rw [if_neg (by omega)] at hb
  rw [redF_iff]
  omega

/-- A form as three numbers. -/
def nextT (d s : Int) (f : Int × Int × Int) : Int × Int × Int := (f.2.2, nextB f.2.1 f.2.2 s, nextC f.2.1 f.2.2 d s)

def iterT (d s : Int) : Nat → Int × Int × Int → Int × Int × Int
  | 0, f => f
  | n + 1, f => iterT d s n (nextT d s f)

theorem iterT_succ (d s : Int) : ∀ (n : Nat) (f : Int × Int × Int), iterT d s (n + 1) f = nextT d s (iterT d s n f)
  | 0, _ => rfl
  | n + 1, f => iterT_succ d s n (nextT d s f)

def FormT (d s : Int) (f : Int × Int × Int) : Prop := IsF f.1 f.2.1 f.2.2 d s

def RedT (d s : Int) (f : Int × Int × Int) : Prop := FormT d s f ∧ redF f.1 f.2.1 s = true

theorem FormT.next {d s : Int} {f : Int × Int × Int} (h : FormT d s f) : FormT d s (nextT d s f) := IsF.next_isF h

theorem FormT.iter {d s : Int} : ∀ {n : Nat} {f : Int × Int × Int}, FormT d s f → FormT d s (iterT d s n f)
  | 0, _, h => h
  | n + 1, _, h => FormT.iter (n := n) h.next

/-- Some steps lead to a reduced form. -/
theorem FormT.reduces {d s : Int} : ∀ (m : Nat) {f : Int × Int × Int}, FormT d s f → max f.2.2 (-f.2.2) ≤ m → ∃ j, j ≤ m + 2 ∧ redF (iterT d s j f).1 (iterT d s j f).2.1 s = true ∧ ∀ i, i < j → redF (iterT d s i f).1 (iterT d s i f).2.1 s = false
  | m, f, h, hm => by
    cases hr : redF f.1 f.2.1 s with
    | true => exact ⟨0, by omega, hr, fun i hi => by omega⟩
    | false =>
      have hzn := IsF.zne h
      have hs0 := IsF.s0 h
      -- one step more
      have more : ∀ n, n + 1 ≤ m + 2 → (∃ j, j ≤ n ∧ redF (iterT d s j (nextT d s f)).1 (iterT d s j (nextT d s f)).2.1 s = true ∧ ∀ i, i < j → redF (iterT d s i (nextT d s f)).1 (iterT d s i (nextT d s f)).2.1 s = false) → ∃ j, j ≤ m + 2 ∧ redF (iterT d s j f).1 (iterT d s j f).2.1 s = true ∧ ∀ i, i < j → redF (iterT d s i f).1 (iterT d s i f).2.1 s = false := by
        rintro n hn ⟨j, h1, h2, h3⟩
        refine ⟨j + 1, by omega, h2, fun i hi => ?_⟩
        cases i with
        | zero => exact hr
        | succ i => exact h3 i (by omega)
      rcases ilt_or_ge s (max f.2.2 (-f.2.2)) with g | g
      · have hl := IsF.nextC_less h g
        cases m with
        | zero => omega
        | succ m =>
          obtain ⟨j, h1, h2, h3⟩ := FormT.reduces m h.next (by
            show max (nextC f.2.1 f.2.2 d s) (-(nextC f.2.1 f.2.2 d s)) ≤ m
            omega)
          exact more (m + 2) (by omega) ⟨j, h1, h2, h3⟩
      · rcases ilt_or_ge s (2 * max f.2.2 (-f.2.2)) with g2 | g2
        · have hsm := IsF.nextC_small h g g2
          cases m with
          | zero => omega
          | succ m =>
            refine more 1 (by omega) ?_
            cases hr1 : redF (nextT d s f).1 (nextT d s f).2.1 s with
            | true => exact ⟨0, by omega, hr1, fun i hi => by omega⟩
            | false =>
              refine ⟨1, by omega, IsF.next_red h.next hsm, fun i hi => ?_⟩
              have : i = 0 := by omega
              subst this
              exact hr1
        · exact more 0 (by omega) ⟨0, by omega, IsF.next_red h g2, fun i hi => by omega⟩

/-- What is known of the third number of a reduced form. -/
theorem RedT.third {d s : Int} {f : Int × Int × Int} (h : RedT d s f) : s - f.2.1 < 2 * max f.2.2 (-f.2.2) ∧ 2 * max f.2.2 (-f.2.2) ≤ s + f.2.1 := by
  obtain ⟨hf, hr⟩ := h
  rw [redF_iff] at hr
  obtain ⟨r1, r2, r3, r4⟩ := hr
  have hd := IsF.hd hf
  have hs := IsF.hs hf
  have hs1 := IsF.hs1 hf
  generalize f.1 = x at *
  generalize f.2.1 = y at *
  generalize f.2.2 = z at *
  -- x and z have different signs, or not: their product is d - y y over 4
  have hyy := sq_le_of (a := y) (b := s) (by omega) (by omega)
  have hprod : 4 * max x (-x) * max z (-z) = d - y * y := by
    have hneg : 4 * x * z < 0 := by omega
    have hxz : 4 * x * z = 4 * (x * z) := Int.mul_assoc _ _ _
    rcases Int.le_total 0 x with h1 | h1 <;> rcases Int.le_total 0 z with h2 | h2
    · have := Int.mul_nonneg h1 h2
      omega
    · rw [show max x (-x) = x by omega, show max z (-z) = -z by omega, Int.mul_neg]
      omega
    · rw [show max x (-x) = -x by omega, show max z (-z) = z by omega]
      have e : 4 * -x * z = -(4 * x * z) := by grind
      omega
    · have := Int.mul_nonneg (show 0 ≤ -x by omega) (show 0 ≤ -z by omega)
      rw [Int.neg_mul_neg] at this
      omega
  generalize max x (-x) = a at *
  generalize hcz : max z (-z) = c at *
  have hc0 : 0 ≤ c := by omega
  constructor
  · -- (s + y) 2 c is at least 2 a 2 c, which is greater than (s - y) (s + y)
    refine mul_lt_cancel (c := s + y) (by omega) ?_
    have g1 := mul_le_r (2 * c) (by omega) r4
    have e1 : 2 * a * (2 * c) = 4 * a * c := by grind
    have e2 : (s + y) * (s - y) = s * s - y * y := by grind
    omega
  · have : 2 * c < s + y + 1 := by
      refine mul_lt_cancel (c := s + 1 - y) (by omega) ?_
      have g1 := mul_le_r (2 * c) (by omega) (show s + 1 - y ≤ 2 * a by omega)
      have e1 : 2 * a * (2 * c) = 4 * a * c := by grind
      have e2 : (s + 1 - y) * (s + y + 1) = (s + 1) * (s + 1) - y * y := by grind
      omega
    omega

/-- A number of a window is told by its rest. -/
theorem window {a b c k h : Int} (hc : 0 < c) (ha : h - 2 * c < a) (ha2 : a ≤ h) (hb : h - 2 * c < b) (hb2 : b ≤ h) (e : a - b = 2 * c * k) : a = b := by
  rcases Int.lt_trichotomy k 0 with g | g | g
  · have := mul_le_l (2 * c) (by omega) (show k ≤ -1 by omega)
    omega
  · subst g
    omega
  · have := mul_le_l (2 * c) (by omega) (show 1 ≤ k by omega)
    omega

theorem RedT.next {d s : Int} {f : Int × Int × Int} (h : RedT d s f) : RedT d s (nextT d s f) := by
  obtain ⟨t1, t2⟩ := h.third
  obtain ⟨hf, hr⟩ := h
  rw [redF_iff] at hr
  refine ⟨hf.next, ?_⟩
  have hb := IsF.nextB_in hf
  obtain ⟨t, ht, _⟩ := IsF.next_eq hf
  have hzn := IsF.zne hf
  show redF f.2.2 (nextB f.2.1 f.2.2 s) s = true
  rw [redF_iff]
  generalize f.2.1 = y at *
  generalize f.2.2 = z at *
  generalize nextB y z s = b at *
  rw [if_neg (by omega)] at hb
  -- 2 c - y is in the same class, and not greater than s
  have hge : 2 * max z (-z) - y ≤ b := by
    rcases ilt_or_ge b (2 * max z (-z) - y) with g | g
    · exfalso
      rcases Int.le_total 0 z with h1 | h1
      · rw [show max z (-z) = z by omega] at *
        have e : z * t = z * t := rfl
        rcases ilt_or_ge t 1 with g2 | g2
        · have := mul_le_l (2 * z) (by omega) (show t ≤ 0 by omega)
          omega
        · have := mul_le_l (2 * z) (by omega) g2
          omega
      · rw [show max z (-z) = -z by omega] at *
        have e : 2 * z * t = 2 * -z * -t := by grind
        rcases ilt_or_ge (-t) 1 with g2 | g2
        · have := mul_le_l (2 * -z) (by omega) (show -t ≤ 0 by omega)
          omega
        · have := mul_le_l (2 * -z) (by omega) g2
          omega
    · exact g
  omega

theorem RedT.iter {d s : Int} : ∀ {n : Nat} {f : Int × Int × Int}, RedT d s f → RedT d s (iterT d s n f)
  | 0, _, h => h
  | n + 1, _, h => RedT.iter (n := n) h.next

/-- Different reduced forms have different next ones. -/
theorem RedT.inj {d s : Int} {f g : Int × Int × Int} (hf : RedT d s f) (hg : RedT d s g) (e : nextT d s f = nextT d s g) : f = g := by
  have f3 := hf.third
  have g3 := hg.third
  obtain ⟨hf1, hf2⟩ := hf
  obtain ⟨hg1, hg2⟩ := hg
  rw [redF_iff] at hf2 hg2
  have e1 : f.2.2 = g.2.2 := congrArg Prod.fst e
  have e2 : nextB f.2.1 f.2.2 s = nextB g.2.1 g.2.2 s := congrArg (fun p => p.2.1) e
  obtain ⟨t, ht, _⟩ := IsF.next_eq hf1
  obtain ⟨u, hu, _⟩ := IsF.next_eq hg1
  have hzn := IsF.zne hf1
  have d1 := IsF.hd hf1
  have d2 := IsF.hd hg1
  obtain ⟨x, y, z⟩ := f
  obtain ⟨x', y', z'⟩ := g
  simp only at *
  subst e1
  have hy : y = y' := by
    rw [← e2] at hu
    have e3 : y - y' = 2 * z * (t - u) := by rw [Int.mul_sub]; omega
    rcases Int.le_total 0 z with h1 | h1
    · rw [show max z (-z) = z by omega] at *
      exact window (c := z) (h := s) (by omega) (by omega) (by omega) (by omega) (by omega) e3
    · rw [show max z (-z) = -z by omega] at *
      refine window (c := -z) (h := s) (k := u - t) (by omega) (by omega) (by omega) (by omega) (by omega) ?_
      rw [e3]
      grind
  subst hy
  have hx : x = x' := by
    have e4 : 4 * z * (x - x') = 0 := by
      have a1 : 4 * z * (x - x') = 4 * x * z - 4 * x' * z := by grind
      omega
    rcases Int.mul_eq_zero.1 e4 with g | g
    · omega
    · omega
  rw [hx]

/-- Of more things than there are names two have one name. -/
theorem pigeon : ∀ (M : Nat) (g : Nat → Nat), (∀ i, i ≤ M → g i < M) → ∃ i j, i < j ∧ j ≤ M ∧ g i = g j
  | 0, g, h => by have := h 0 (by omega); omega
  | M + 1, g, h => by
    by_cases hd : ∃ i, i ≤ M ∧ g i = g (M + 1)
    · obtain ⟨i, h1, h2⟩ := hd
      exact ⟨i, M + 1, by omega, by omega, h2⟩
    · -- the last one's name is given away
      have hno : ∀ i, i ≤ M → g i ≠ g (M + 1) := fun i hi e => hd ⟨i, hi, e⟩
      obtain ⟨i, j, h1, h2, h3⟩ := pigeon M (fun i => if g i = M then g (M + 1) else g i) (fun i hi => by
        have := h i (by omega)
        have hl := h (M + 1) (by omega)
        have hn := hno i hi
        show (if g i = M then g (M + 1) else g i) < M
        split <;> omega)
      refine ⟨i, j, h1, by omega, ?_⟩
      have a := hno i (by omega)
      have b := hno j h2
      split at h3 <;> split at h3 <;> omega

/-- The number of a reduced form. -/
def codeT (s : Int) (f : Int × Int × Int) : Nat := ((f.1 + s) * (s + 1) + f.2.1).toNat

theorem RedT.code {d s : Int} {f : Int × Int × Int} (h : RedT d s f) : codeT s f < 8192 := by
  obtain ⟨hf, hr⟩ := h
  rw [redF_iff] at hr
  have h2 := IsF.s2 hf
  have h0 := IsF.s0 hf
  unfold codeT
  have := Int.mul_le_mul (a := f.1 + s) (b := s + 1) (c := 126) (d := 64) (by omega) (by omega) (by omega) (by omega)
  omega

theorem RedT.code_inj {d s : Int} {f g : Int × Int × Int} (hf : RedT d s f) (hg : RedT d s g) (e : codeT s f = codeT s g) : f = g := by
  have hzf := IsF.hd hf.1
  have hzg := IsF.hd hg.1
  have r1 := redF_iff.1 hf.2
  have r2 := redF_iff.1 hg.2
  have h0 := IsF.s0 hf.1
  unfold codeT at e
  have n1 := Int.mul_nonneg (a := f.1 + s) (b := s + 1) (by omega) (by omega)
  have n2 := Int.mul_nonneg (a := g.1 + s) (b := s + 1) (by omega) (by omega)
  have e' : (f.1 + s) * (s + 1) + f.2.1 = (g.1 + s) * (s + 1) + g.2.1 := by omega
  obtain ⟨x, y, z⟩ := f
  obtain ⟨x', y', z'⟩ := g
  simp only at *
  have hx : x = x' := by
    have e3 : (s + 1) * (x - x') = y' - y := by
      have a1 : (s + 1) * (x - x') = (x + s) * (s + 1) - (x' + s) * (s + 1) := by grind
      omega
    rcases Int.lt_trichotomy (x - x') 0 with g | g | g
    · have := mul_le_l (s + 1) (by omega) (show x - x' ≤ -1 by omega)
      omega
    · omega
    · have := mul_le_l (s + 1) (by omega) (show 1 ≤ x - x' by omega)
      omega
  subst hx
  have hy : y = y' := by omega
  subst hy
  have hz : z = z' := by
    have e4 : 4 * x * (z - z') = 0 := by rw [Int.mul_sub]; omega
    rcases Int.mul_eq_zero.1 e4 with g | g
    · omega
    · omega
  rw [hz]

/-- A reduced form comes back. -/
theorem RedT.back {d s : Int} {f : Int × Int × Int} (h : RedT d s f) : ∃ n, 1 ≤ n ∧ n ≤ 8192 ∧ iterT d s n f = f ∧ ∀ i, 1 ≤ i → i < n → iterT d s i f ≠ f := by
  obtain ⟨i, j, h1, h2, h3⟩ := pigeon 8192 (fun i => codeT s (iterT d s i f)) (fun i _ => (h.iter (n := i)).code)
  have hij := RedT.code_inj (h.iter (n := i)) (h.iter (n := j)) h3
  -- from the i-th and j-th back to the first
  have down : ∀ i k, iterT d s i f = iterT d s (i + k) f → iterT d s k f = f := by
    intro i
    induction i with
    | zero => intro k e; rw [Nat.zero_add] at e; exact e.symm
    | succ i ih =>
      intro k e
      rw [show i + 1 + k = (i + k) + 1 by omega, iterT_succ, iterT_succ] at e
      exact ih k (RedT.inj (h.iter (n := i)) (h.iter (n := i + k)) e)
  have hback := down i (j - i) (by rw [show i + (j - i) = j by omega]; exact hij)
  -- the first time
  have first : ∀ m, 1 ≤ m → iterT d s m f = f → ∃ n, 1 ≤ n ∧ n ≤ m ∧ iterT d s n f = f ∧ ∀ i, 1 ≤ i → i < n → iterT d s i f ≠ f := by
    intro m
    induction m using Nat.strongRecOn with
    | ind m ih =>
      intro hm he
      by_cases hx : ∃ i, 1 ≤ i ∧ i < m ∧ iterT d s i f = f
      · obtain ⟨i, a, b, c⟩ := hx
        obtain ⟨n, n1, n2, n3, n4⟩ := ih i b a c
        exact ⟨n, n1, by omega, n3, n4⟩
      · exact ⟨m, hm, Nat.le_refl _, he, fun i a b c => hx ⟨i, a, b, c⟩⟩
  obtain ⟨n, n1, n2, n3, n4⟩ := first (j - i) (by omega) hback
  exact ⟨n, n1, by omega, n3, n4⟩

theorem laws_eqT (f g : Int × Int × Int) : (decide (f.1 = g.1) && (decide (f.2.1 = g.2.1) && decide (f.2.2 = g.2.2))) = decide (f = g) := by
  obtain ⟨a, b, c⟩ := f
  obtain ⟨x, y, z⟩ := g
  simp [Prod.ext_iff]

theorem cyc_l3 {d s : Int} : ∀ (j k : Nat) (f : Int × Int × Int) (b : Int → Int → Int → Int → Int → Option α) (r : List (Int × Int × Int) → Option α), FormT d s f → redF (iterT d s j f).1 (iterT d s j f).2.1 s = true → (∀ i, i < j → redF (iterT d s i f).1 (iterT d s i f).2.1 s = false) → j + 65 < k →
    spec_l06Cycle_l3 k d s f.1 f.2.1 f.2.2 b r = b d s (iterT d s j f).1 (iterT d s j f).2.1 (iterT d s j f).2.2
  | 0, k + 1, f, b, r, hf, hr, _, hk => by
    simp only [iterT] at hr ⊢
    rw [spec_l06Cycle_l3, IsF.red_spec hf, hr]
    rfl
  | j + 1, k + 1, f, b, r, hf, hr, hn, hk => by
    have h0 := hn 0 (by omega)
    simp only [iterT] at h0
    rw [spec_l06Cycle_l3, IsF.red_spec hf, h0, Bool.not_false, cond_true, IsF.next_spec hf]
    exact cyc_l3 j k (nextT d s f) b r hf.next hr (fun i hi => hn (i + 1) (by omega)) (by omega)
  | _, 0, _, _, _, _, _, _, hk => by omega

theorem cyc_l1 {d s : Int} : ∀ (j k : Nat) (f : Int × Int × Int) (b : Int → Int → Int → Option α) (r : List (Int × Int × Int) → Option α), FormT d s f → redF (iterT d s j f).1 (iterT d s j f).2.1 s = true → (∀ i, i < j → redF (iterT d s i f).1 (iterT d s i f).2.1 s = false) → j + 65 < k →
    impl_Form_cycle_l1 k f.1 f.2.1 f.2.2 b r = b (iterT d s j f).1 (iterT d s j f).2.1 (iterT d s j f).2.2
  | 0, k + 1, f, b, r, hf, hr, _, hk => by
    simp only [iterT] at hr ⊢
    rw [impl_Form_cycle_l1, IsF.red_impl hf k (by omega), hr]
    rfl
  | j + 1, k + 1, f, b, r, hf, hr, hn, hk => by
    have h0 := hn 0 (by omega)
    simp only [iterT] at h0
    rw [impl_Form_cycle_l1, IsF.red_impl hf k (by omega), h0, Bool.not_false, cond_true, IsF.next_impl hf k (by omega)]
    exact cyc_l1 j k (nextT d s f) b r hf.next hr (fun i hi => hn (i + 1) (by omega)) (by omega)
  | _, 0, _, _, _, _, _, _, hk => by omega

def listT (d s : Int) : Nat → Int × Int × Int → List (Int × Int × Int)
  | 0, _ => []
  | n + 1, f => f :: listT d s n (nextT d s f)

theorem listT_length (d s : Int) : ∀ (n : Nat) (f : Int × Int × Int), (listT d s n f).length = n
  | 0, _ => rfl
  | n + 1, f => by simp [listT, listT_length d s n]

theorem cyc_l7 {d s : Int} {g : Int × Int × Int} : ∀ (m k : Nat) (f : Int × Int × Int) (out : List (Int × Int × Int)) (b : Int → Int → Int → Int → Int → List (Int × Int × Int) → Int → Int → Int → Option α) (r : List (Int × Int × Int) → Option α), FormT d s f → iterT d s m f = g → (∀ i, i < m → iterT d s i f ≠ g) → out.length + m ≤ big → m < k →
    spec_l06Cycle_l7 k d s g.1 g.2.1 g.2.2 out f.1 f.2.1 f.2.2 b r = b d s g.1 g.2.1 g.2.2 (out ++ listT d s m f) g.1 g.2.1 g.2.2
  | 0, k + 1, f, out, b, r, hf, hg, _, hb, hk => by
    simp only [iterT] at hg
    subst hg
    rw [spec_l06Cycle_l7, laws_eqT]
    simp [listT]
  | m + 1, k + 1, f, out, b, r, hf, hg, hn, hb, hk => by
    have h0 := hn 0 (by omega)
    simp only [iterT] at h0
    have hl : decide (out.length + 1 ≤ big) = true := decide_eq_true (by omega)
    rw [spec_l06Cycle_l7, laws_eqT, decide_eq_false h0, Bool.not_false, cond_true, hl, cond_true, IsF.next_spec hf]
    have := cyc_l7 m k (nextT d s f) (out ++ [f]) b r hf.next hg (fun i hi => hn (i + 1) (by omega)) (by simp; omega) (by omega)
    simp only [List.append_assoc, List.singleton_append] at this
    exact this
  | _, 0, _, _, _, _, _, _, _, _, hk => by omega

theorem cyc_l5 {d s : Int} {g : Int × Int × Int} : ∀ (m k : Nat) (f : Int × Int × Int) (out : List (Int × Int × Int)) (b : Int → Int → Int → List (Int × Int × Int) → Int → Int → Int → Option α) (r : List (Int × Int × Int) → Option α), FormT d s f → iterT d s m f = g → (∀ i, i < m → iterT d s i f ≠ g) → out.length + m ≤ big → m + 65 < k →
    impl_Form_cycle_l5 k g.1 g.2.1 g.2.2 out f.1 f.2.1 f.2.2 b r = b g.1 g.2.1 g.2.2 (out ++ listT d s m f) g.1 g.2.1 g.2.2
  | 0, k + 1, f, out, b, r, hf, hg, _, hb, hk => by
    simp only [iterT] at hg
    subst hg
    rw [impl_Form_cycle_l5, laws_eqT]
    simp [listT]
  | m + 1, k + 1, f, out, b, r, hf, hg, hn, hb, hk => by
    have h0 := hn 0 (by omega)
    simp only [iterT] at h0
    have hl : decide (out.length + 1 ≤ big) = true := decide_eq_true (by omega)
    rw [impl_Form_cycle_l5, laws_eqT, decide_eq_false h0, Bool.not_false, cond_true, hl, cond_true, IsF.next_impl hf k (by omega)]
    have := cyc_l5 m k (nextT d s f) (out ++ [f]) b r hf.next hg (fun i hi => hn (i + 1) (by omega)) (by simp; omega) (by omega)
    simp only [List.append_assoc, List.singleton_append] at this
    exact this
  | _, 0, _, _, _, _, _, _, _, _, hk => by omega

/-- The cycle of a form: the same list from both. -/
theorem cycle_eq {d s x y z : Int} (hf : IsF x y z d s) : ∃ n g, 1 ≤ n ∧ n ≤ 8192 ∧ RedT d s g ∧ (∀ k, 1000100 < k → ∀ r : List (Int × Int × Int) → Option α, spec_l06Cycle k x y z r = r (listT d s n g)) ∧ (∀ k, 1000100 < k → ∀ r : List (Int × Int × Int) → Option α, impl_Form_cycle k x y z r = r (listT d s n g)) := by
  have hF : FormT d s (x, y, z) := hf
  have hz0 := hf.z0
  have hz1 := hf.z1
  obtain ⟨j, hj, hr, hn⟩ := hF.reduces 1000000 (by show max z (-z) ≤ _; omega)
  have hR : RedT d s (iterT d s j (x, y, z)) := ⟨hF.iter, hr⟩
  obtain ⟨n, n1, n2, n3, n4⟩ := hR.back
  refine ⟨n, iterT d s j (x, y, z), n1, n2, hR, fun k hk r => ?_, fun k hk r => ?_⟩
  · obtain ⟨m, rfl⟩ : ∃ m, n = m + 1 := ⟨n - 1, by omega⟩
    unfold spec_l06Cycle
    rw [IsF.disc_spec hf, IsF.root_spec hf k (by omega)]
    have e := cyc_l3 j k (x, y, z) (fun d1 w1 x6 x7 x8 => spec_l06Next k x6 x7 x8 d1 w1 fun v6 v7 v8 => spec_l06Cycle_l7 k d1 w1 x6 x7 x8 [(x6, x7, x8)] v6 v7 v8 (fun _ _ _ _ _ out1 _ _ _ => r out1) r) r hF hr hn (by omega)
    refine e.trans ?_
    rw [IsF.next_spec hR.1]
    have e2 := cyc_l7 m k (nextT d s (iterT d s j (x, y, z))) [iterT d s j (x, y, z)] (fun _ _ _ _ _ out1 _ _ _ => r out1) r hR.1.next n3 (fun i hi => n4 (i + 1) (by omega) (by omega)) (by rw [big_val]; simp; omega) (by omega)
    exact e2
  · obtain ⟨m, rfl⟩ : ∃ m, n = m + 1 := ⟨n - 1, by omega⟩
    unfold impl_Form_cycle
    have e := cyc_l1 j k (x, y, z) (fun x6 x7 x8 => impl_Form_next k x6 x7 x8 fun v4 v5 v6 => impl_Form_cycle_l5 k x6 x7 x8 [(x6, x7, x8)] v4 v5 v6 (fun _ _ _ out1 _ _ _ => r out1) r) r hF hr hn (by omega)
    refine e.trans ?_
    rw [IsF.next_impl hR.1 k (by omega)]
    have e2 := cyc_l5 m k (nextT d s (iterT d s j (x, y, z))) [iterT d s j (x, y, z)] (fun _ _ _ out1 _ _ _ => r out1) r hR.1.next n3 (fun i hi => n4 (i + 1) (by omega) (by omega)) (by rw [big_val]; simp; omega) (by omega)
    exact e2

theorem has_l2 (x : Int × Int × Int) : ∀ (rest : List (Int × Int × Int)) (k i : Nat) (l : List (Int × Int × Int)) (r : Bool → Option α), l.drop i = rest → l.length ≤ big → i ≤ l.length → rest.length < k →
    spec_l06Has_l2 k i l x.1 x.2.1 x.2.2 (fun _ _ _ _ _ => r false) r = r (decide (x ∈ rest))
  | [], k + 1, i, l, r, hd, hb, hi, _ => by
    have h1 := drop_nil hd
    rw [spec_l06Has_l2, dec_lt_f (by omega)]
    simp
  | e :: rest, k + 1, i, l, r, hd, hb, hi, hk => by
    obtain ⟨h1, h2, h3⟩ := drop_cons hd
    rw [big_val] at hb
    rw [spec_l06Has_l2, dec_lt_t (by omega), dec_le_t (by omega), cond_true, Bool.and_true, cond_true, Int.toNat_natCast, h1, Option.bind_some, laws_eqT]
    have e1 : w64 ((i : Int) + 1) = ((i + 1 : Nat) : Int) := by rw [w64_of (by omega) (by omega)]; omega
    by_cases he : e = x
    · subst he; simp
    · rw [decide_eq_false he, cond_false, e1, has_l2 x rest k (i + 1) l r h2 (by rw [big_val]; omega) (by omega) (by simp at hk; omega)]
      simp [Ne.symm he]
  | _, 0, _, _, _, _, _, _, hk => by omega

theorem index_l2 (x : Int × Int × Int) : ∀ (rest : List (Int × Int × Int)) (k i : Nat) (l : List (Int × Int × Int)) (r : Bool → Option α), l.drop i = rest → l.length ≤ big → i ≤ l.length → rest.length < k →
    slices_Index_impl_Form_impl_Form_l2 k l.length i l x.1 x.2.1 x.2.2 (fun _ _ _ _ _ _ => r (decide ((0 : Int) ≤ -1))) (fun v => r (decide (0 ≤ v))) = r (decide (x ∈ rest))
  | [], k + 1, i, l, r, hd, hb, hi, _ => by
    have h1 := drop_nil hd
    rw [slices_Index_impl_Form_impl_Form_l2, dec_lt_f (by omega)]
    simp
  | e :: rest, k + 1, i, l, r, hd, hb, hi, hk => by
    obtain ⟨h1, h2, h3⟩ := drop_cons hd
    rw [big_val] at hb
    rw [slices_Index_impl_Form_impl_Form_l2, dec_lt_t (by omega), dec_le_t (by omega), cond_true, Bool.and_true, cond_true, Int.toNat_natCast, h1, Option.bind_some, laws_eqT]
    have e1 : w64 ((i : Int) + 1) = ((i + 1 : Nat) : Int) := by rw [w64_of (by omega) (by omega)]; omega
    by_cases he : x = e
    · subst he; simp
    · rw [decide_eq_false he, cond_false, e1, index_l2 x rest k (i + 1) l r h2 (by rw [big_val]; omega) (by omega) (by simp at hk; omega)]
      simp [he]
  | _, 0, _, _, _, _, _, _, hk => by omega

theorem has_eq (x : Int × Int × Int) (k : Nat) (l : List (Int × Int × Int)) (r : Bool → Option α) (hb : l.length ≤ big) (hk : l.length < k) : spec_l06Has k l x.1 x.2.1 x.2.2 r = r (decide (x ∈ l)) := by
  unfold spec_l06Has
  exact has_l2 x l k 0 l r (by simp) hb (by omega) hk

theorem contains_eq (x : Int × Int × Int) (k : Nat) (l : List (Int × Int × Int)) (r : Bool → Option α) (hb : l.length ≤ big) (hk : l.length < k) : slices_Contains_impl_Form_impl_Form k l x.1 x.2.1 x.2.2 r = r (decide (x ∈ l)) := by
  unfold slices_Contains_impl_Form_impl_Form slices_Index_impl_Form_impl_Form
  exact index_l2 x l k 0 l r (by simp) hb (by omega) hk

instance (X Y : Nat → Int) (i : Nat) : Decidable (upS X Y i) := by unfold upS; infer_instance

/-- A code. -/
structure IsCode (l : List Int) : Prop where
  len : l.length ≤ 4096
  byte : ∀ x ∈ l, 0 ≤ x ∧ x ≤ 255

/-- How far a code is read. -/
def AtC (l : List Int) (a : Int) : Prop := 0 ≤ a ∧ a ≤ l.length

theorem mask_b (h : Int) : 0 ≤ w64 (IntKind.wrap .u64 ((BitVec.ofInt 64 h &&& BitVec.ofInt 64 1073741823).toNat : Nat)) ∧ w64 (IntKind.wrap .u64 ((BitVec.ofInt 64 h &&& BitVec.ofInt 64 1073741823).toNat : Nat)) ≤ 1073741823 := by
  have h1 : (BitVec.ofInt 64 h &&& BitVec.ofInt 64 1073741823).toNat ≤ 1073741823 := by
    rw [BitVec.toNat_and]
    exact Nat.le_trans Nat.and_le_right (by decide)
  rw [IntWalk.u64_in _ (by omega), w64_of (by omega) (by omega)]
  omega

/-- The next hash, and the number that it tells. -/
def lcg (h : Int) : Int := IntKind.wrap .u64 ((IntKind.wrap .u64 (h * 6364136223846793005)) + 1442695040888963407)

def lcgX (h : Int) : Int := w64 (IntKind.wrap .u64 ((BitVec.ofInt 64 (Int.fdiv (lcg h) (2 ^ 31)) &&& BitVec.ofInt 64 1073741823).toNat : Nat))

theorem lcgX_b (h : Int) : 0 ≤ lcgX h ∧ lcgX h ≤ 1073741823 := mask_b _

theorem next_eq (l : List Int) (a : Int) (k : Nat) (h n : Int) (r : Int → Int → Int → Option α) : spec_l01Next k l a h n r = bif decide (n < 1) then r 0 a h else bif decide (a < (l.length : Nat)) then (bif decide (0 ≤ a) && decide (a < (l.length : Nat)) then (l[a.toNat]?).bind fun e => bif decide (n = 0) then none else r (Int.tmod (w64 (lcgX h + w64 e)) n) (w64 (a + 1)) (lcg h) else none) else bif decide (n = 0) then none else r (Int.tmod (lcgX h) n) a (lcg h) := rfl

theorem next_ok {l : List Int} (hl : IsCode l) {a : Int} (ha : AtC l a) (k : Nat) (h n : Int) : ∃ v a' h', AtC l a' ∧ 0 ≤ v ∧ (v < n ∨ (n < 1 ∧ v = 0)) ∧ ∀ r : Int → Int → Int → Option α, spec_l01Next k l a h n r = r v a' h' := by
  have hlen := hl.len
  unfold AtC at ha
  by_cases h1 : n < 1
  · exact ⟨0, a, h, ha, by omega, .inr ⟨h1, rfl⟩, fun r => by rw [next_eq, dec_lt_t h1, cond_true]⟩
  · have hz : decide (n = 0) = false := decide_eq_false (by omega)
    have h1' : decide (n < 1) = false := decide_eq_false h1
    obtain ⟨m1, m2⟩ := lcgX_b h
    by_cases h2 : a < l.length
    · have hlt : a.toNat < l.length := by omega
      have hb := hl.byte l[a.toNat] (List.getElem_mem hlt)
      refine ⟨Int.tmod (lcgX h + l[a.toNat]) n, a + 1, lcg h, by unfold AtC; omega, Int.tmod_nonneg _ (by omega), .inl (Int.tmod_lt_of_pos _ (by omega)), fun r => ?_⟩
      rw [next_eq, h1', cond_false, dec_lt_t h2, cond_true, dec_le_t ha.1, Bool.and_true, cond_true, List.getElem?_eq_getElem hlt, Option.bind_some, hz, cond_false, w64_of (n := a + 1) (by omega) (by omega), w64_of (n := l[a.toNat]) (by omega) (by omega), w64_of (n := lcgX h + l[a.toNat]) (by omega) (by omega)]
    · refine ⟨Int.tmod (lcgX h) n, a, lcg h, ha, Int.tmod_nonneg _ (by omega), .inl (Int.tmod_lt_of_pos _ (by omega)), fun r => ?_⟩
      rw [next_eq, h1', cond_false, dec_lt_f (by omega), cond_false, hz, cond_false]

theorem from_l3 {l : List Int} (hl : IsCode l) : ∀ (m k i : Nat) (s h : Int) (r : Int → Int → Option α), i + m = l.length → m < k → ∃ h', ∀ (r : Int → Int → Option α), spec_l01From_l3 k i l s h (fun _ _ s1 s2 => r s1 s2) r = r s h'
  | 0, k + 1, i, s, h, r, hi, _ => ⟨h, fun r => by
    rw [spec_l01From_l3, dec_lt_f (by omega), cond_false]⟩
  | m + 1, k + 1, i, s, h, r, hi, hk => by
    have hlen := hl.len
    have en : w64 ((i : Int) + 1) = ((i + 1 : Nat) : Int) := by rw [w64_of (by omega) (by omega)]; omega
    have hlt : i < l.length := by omega
    obtain ⟨h', ih⟩ := from_l3 hl m k (i + 1) s (IntKind.wrap .u64 ((IntKind.wrap .u64 ((IntKind.wrap .u64 (h * 1099511628211)) + (IntKind.wrap .u64 l[i]))) + 107)) r (by omega) (by omega)
    refine ⟨h', fun r => ?_⟩
    rw [spec_l01From_l3, dec_lt_t (by omega), cond_true, dec_lt_t (by omega), cond_true, dec_le_t (by omega), Bool.and_true, cond_true, Int.toNat_natCast, List.getElem?_eq_getElem hlt, Option.bind_some, en]
    exact ih r
  | _, 0, _, _, _, _, _, hk => by omega

theorem from_ok {l : List Int} (hl : IsCode l) (k : Nat) (hk : 4096 < k) : ∃ h, AtC l 0 ∧ ∀ r : Int → Int → Option α, spec_l01From k l r = r 0 h := by
  have hlen := hl.len
  obtain ⟨h', e⟩ := from_l3 (α := α) hl l.length k 0 0 (IntKind.wrap .u64 (12971 + (IntKind.wrap .u64 (((List.length l) : Nat) : Int)))) (fun _ _ => none) (by omega) (by omega)
  exact ⟨h', ⟨by omega, by omega⟩, fun r => e r⟩

theorem pick_ok {l : List Int} (hl : IsCode l) {a : Int} (ha : AtC l a) (k : Nat) (h : Int) {list : List Int} (h0 : 0 < list.length) (h1 : list.length ≤ 1000) : ∃ v a' h', AtC l a' ∧ v ∈ list ∧ ∀ r : Int → Int → Int → Option α, spec_l01Pick k l a h list r = r v a' h' := by
  obtain ⟨v, a', h', i1, i2, i3, i4⟩ := next_ok (α := α) hl ha k h (list.length : Int)
  have hv : v < list.length := by omega
  have hlt : v.toNat < list.length := by omega
  refine ⟨list[v.toNat], a', h', i1, List.getElem_mem hlt, fun r => ?_⟩
  unfold spec_l01Pick
  rw [i4, dec_le_t i2, dec_lt_t hv, Bool.and_true, cond_true, List.getElem?_eq_getElem hlt, Option.bind_some]

theorem near_ok {l : List Int} (hl : IsCode l) {a : Int} (ha : AtC l a) (k : Nat) (h : Int) {most : Int} (h0 : 0 ≤ most) (h1 : most ≤ 1000000000) : ∃ v a' h', AtC l a' ∧ -4611686018427387904 ≤ v ∧ v ≤ 1099511627776 ∧ ∀ r : Int → Int → Int → Option α, spec_l01Near k l a h most r = r v a' h' := by
  have w : w64 (most + 1) = most + 1 := w64_of (by omega) (by omega)
  obtain ⟨v, a1, h1', i1, i2, i3, i4⟩ := next_ok (α := α) hl ha k h 14
  by_cases hv : v = 0
  · obtain ⟨u, a2, h2, j1, j2, j3⟩ := pick_ok (α := α) hl i1 k h1' (list := [(-1), (w64 (most + 1)), 1099511627776, (-4611686018427387904)]) (by simp) (by simp)
    refine ⟨u, a2, h2, j1, ?_, ?_, fun r => ?_⟩
    · simp only [List.mem_cons, List.not_mem_nil, or_false] at j2; omega
    · simp only [List.mem_cons, List.not_mem_nil, or_false] at j2; omega
    · unfold spec_l01Near
      rw [i4, decide_eq_true hv, cond_true, j3]
  · obtain ⟨u, a2, h2, j1, j2, j3, j4⟩ := next_ok (α := α) hl i1 k h1' (w64 (most + 1))
    refine ⟨u, a2, h2, j1, by omega, by omega, fun r => ?_⟩
    unfold spec_l01Near
    rw [i4, decide_eq_false hv, cond_false, j4]

theorem point_ok {l : List Int} (hl : IsCode l) {a : Int} (ha : AtC l a) (k : Nat) (h : Int) {most : Int} (h0 : 0 ≤ most) (h1 : most ≤ 1000000000) : ∃ x y a' h', AtC l a' ∧ (-most ≤ x ∧ x ≤ most) ∧ (-most ≤ y ∧ y ≤ most) ∧ ∀ r : Int → Int → Int → Int → Option α, spec_l01DrawPoint k l a h most r = r x y a' h' := by
  have w : w64 ((w64 (2 * most)) + 1) = 2 * most + 1 := by rw [w64_of (n := 2 * most) (by omega) (by omega), w64_of (by omega) (by omega)]
  obtain ⟨v, a1, h1', i1, i2, i3, i4⟩ := next_ok (α := α) hl ha k h (w64 ((w64 (2 * most)) + 1))
  obtain ⟨u, a2, h2', j1, j2, j3, j4⟩ := next_ok (α := α) hl i1 k h1' (w64 ((w64 (2 * most)) + 1))
  refine ⟨v - most, u - most, a2, h2', j1, by omega, by omega, fun r => ?_⟩
  unfold spec_l01DrawPoint
  rw [i4, j4, w64_of (n := v - most) (by omega) (by omega), w64_of (n := u - most) (by omega) (by omega)]

theorem size_ok {l : List Int} (hl : IsCode l) {a : Int} (ha : AtC l a) (k : Nat) (h : Int) : ∃ v a' h', AtC l a' ∧ 3 ≤ v ∧ v ≤ 1000000 ∧ ∀ r : Int → Int → Int → Option α, spec_l01Size k l a h r = r v a' h' := by
  obtain ⟨u, a2, h2, j1, j2, j3⟩ := pick_ok (α := α) hl ha k h (list := [3, 6, 12, 100, 1000, 1000000]) (by simp) (by simp)
  refine ⟨u, a2, h2, j1, ?_, ?_, fun r => ?_⟩
  · simp only [List.mem_cons, List.not_mem_nil, or_false] at j2; omega
  · simp only [List.mem_cons, List.not_mem_nil, or_false] at j2; omega
  · unfold spec_l01Size
    rw [j3]

theorem unit_l3 {l : List Int} (hl : IsCode l) (x x1 x2 x3 : Int) : ∀ (m k : Nat) (n a h o0 o1 o2 o3 : Int), AtC l a → n ≤ m → m ≤ 1000 → m < k → ∃ p q u v a' h', AtC l a' ∧ ∀ r : Int → Int → Int → Int → Int → Int → Option α,
    spec_l01DrawUnit_l3 k n a h x x1 x2 x3 o0 o1 o2 o3 l (fun _ s5 s6 _ _ _ _ q0 q1 q2 q3 _ => r q0 q1 q2 q3 s5 s6) r = r p q u v a' h'
  | 0, k + 1, n, a, h, o0, o1, o2, o3, ha, hn, _, _ => ⟨o0, o1, o2, o3, a, h, ha, fun r => by
    rw [spec_l01DrawUnit_l3, dec_lt_f (by omega), cond_false]⟩
  | m + 1, k + 1, n, a, h, o0, o1, o2, o3, ha, hn, hm, hk => by
    by_cases hpos : 0 < n
    · obtain ⟨v, a1, h1, i1, v1, v2, e1⟩ := next_ok (α := α) hl ha k h 7
      obtain ⟨u, a2, h2, i2, u1, u2, e2⟩ := next_ok (α := α) hl i1 k h1 3
      have hw : w64 (n - 1) = n - 1 := w64_of (by omega) (by omega)
      by_cases hu : u = 0
      · obtain ⟨p, q, s, t, a', h', i', e'⟩ := unit_l3 hl x x1 x2 x3 m k (n - 1) a2 h2 (w64 ((w64 (o0 * 1)) + (w64 (o1 * 0)))) (w64 ((w64 (o0 * (w64 (v - 3)))) + (w64 (o1 * 1)))) (w64 ((w64 (o2 * 1)) + (w64 (o3 * 0)))) (w64 ((w64 (o2 * (w64 (v - 3)))) + (w64 (o3 * 1)))) i2 (by omega) (by omega) (by omega)
        refine ⟨p, q, s, t, a', h', i', fun r => ?_⟩
        rw [spec_l01DrawUnit_l3, dec_lt_t hpos, cond_true, e1, e2, decide_eq_true hu, cond_true, hw]
        exact e' r
      · by_cases hu1 : u = 1
        · obtain ⟨p, q, s, t, a', h', i', e'⟩ := unit_l3 hl x x1 x2 x3 m k (n - 1) a2 h2 (w64 ((w64 (o0 * 1)) + (w64 (o1 * (w64 (v - 3)))))) (w64 ((w64 (o0 * 0)) + (w64 (o1 * 1)))) (w64 ((w64 (o2 * 1)) + (w64 (o3 * (w64 (v - 3)))))) (w64 ((w64 (o2 * 0)) + (w64 (o3 * 1)))) i2 (by omega) (by omega) (by omega)
          refine ⟨p, q, s, t, a', h', i', fun r => ?_⟩
          rw [spec_l01DrawUnit_l3, dec_lt_t hpos, cond_true, e1, e2, decide_eq_false hu, cond_false, decide_eq_true hu1, cond_true, hw]
          exact e' r
        · obtain ⟨p, q, s, t, a', h', i', e'⟩ := unit_l3 hl x x1 x2 x3 m k (n - 1) a2 h2 (w64 ((w64 (o0 * 0)) + (w64 (o1 * 1)))) (w64 ((w64 (o0 * 1)) + (w64 (o1 * 0)))) (w64 ((w64 (o2 * 0)) + (w64 (o3 * 1)))) (w64 ((w64 (o2 * 1)) + (w64 (o3 * 0)))) i2 (by omega) (by omega) (by omega)
          refine ⟨p, q, s, t, a', h', i', fun r => ?_⟩
          rw [spec_l01DrawUnit_l3, dec_lt_t hpos, cond_true, e1, e2, decide_eq_false hu, cond_false, decide_eq_false hu1, cond_false, hw]
          exact e' r
    · exact ⟨o0, o1, o2, o3, a, h, ha, fun r => by rw [spec_l01DrawUnit_l3, dec_lt_f (by omega), cond_false]⟩
  | _, 0, _, _, _, _, _, _, _, _, _, _, hk => by omega

theorem unitM_ok {l : List Int} (hl : IsCode l) {a : Int} (ha : AtC l a) (k : Nat) (hk : 5 < k) (h : Int) : ∃ p q u v a' h', AtC l a' ∧ ∀ r : Int → Int → Int → Int → Int → Int → Option α, spec_l01DrawUnit k l a h r = r p q u v a' h' := by
  obtain ⟨n, a1, h1, i1, n1, n2, e1⟩ := next_ok (α := α) hl ha k h 5
  obtain ⟨p, q, u, v, a', h', i', e'⟩ := unit_l3 (α := α) hl 0 0 0 0 5 k n a1 h1 1 0 0 1 i1 (by omega) (by omega) hk
  refine ⟨p, q, u, v, a', h', i', fun r => ?_⟩
  unfold spec_l01DrawUnit
  rw [e1]
  exact e' r

theorem set4 {i j : Int} (hi : i = 0 ∨ i = 1) (hj : j = 0 ∨ j = 1) (x y z w c : Int) : ∃ x' y' z' w', ∀ K : Int → Int → Int → Int → Option α,
    (([x, y, z, w][(moved (i.toNat * 2) j.toNat 1)]?).bind fun _ =>
      ((List.set [x, y, z, w] (moved (i.toNat * 2) j.toNat 1) c)[0]?).bind fun e_ =>
      ((List.set [x, y, z, w] (moved (i.toNat * 2) j.toNat 1) c)[1]?).bind fun e_1 =>
      ((List.set [x, y, z, w] (moved (i.toNat * 2) j.toNat 1) c)[2]?).bind fun e_2 =>
      ((List.set [x, y, z, w] (moved (i.toNat * 2) j.toNat 1) c)[3]?).bind fun e_3 => K e_ e_1 e_2 e_3) = K x' y' z' w' := by
  rcases hi with rfl | rfl <;> rcases hj with rfl | rfl
  · exact ⟨c, y, z, w, fun K => rfl⟩
  · exact ⟨x, c, z, w, fun K => rfl⟩
  · exact ⟨x, y, c, w, fun K => rfl⟩
  · exact ⟨x, y, z, c, fun K => rfl⟩

theorem any_ok {l : List Int} (hl : IsCode l) {a : Int} (ha : AtC l a) (k : Nat) (hk : 5 < k) (h : Int) : ∃ p q u v a' h', AtC l a' ∧ ∀ r : Int → Int → Int → Int → Int → Int → Option α, spec_l01AnyMatrix k l a h r = r p q u v a' h' := by
  obtain ⟨p, q, u, v, a1, h1, i1, e1⟩ := unitM_ok (α := α) hl ha k hk h
  obtain ⟨n, a2, h2, i2, n1, n2, e2⟩ := next_ok (α := α) hl i1 k h1 3
  have tail : ∀ (p q u v : Int) {a : Int} (h : Int), AtC l a → ∃ p' q' u' v' a' h', AtC l a' ∧ ∀ r : Int → Int → Int → Int → Int → Int → Option α,
      (spec_l01Next k l a h 40 fun v35 v36 v37 =>
        bif decide (v35 = 0) then
          spec_l01Next k l v36 v37 2 fun v38 v39 v40 =>
          bif (decide (0 ≤ v38) && decide (v38 < 2)) then
            spec_l01Next k l v39 v40 2 fun v41 v42 v43 =>
            spec_l01Pick k l v42 v43 [1000001, (-1099511627776)] fun v44 v45 v46 =>
            bif (decide (0 ≤ v41) && decide (v41 < 2)) then
              ([p, q, u, v][(moved (v38.toNat * 2) v41.toNat 1)]?).bind fun _ =>
              ((List.set [p, q, u, v] (moved (v38.toNat * 2) v41.toNat 1) v44)[0]?).bind fun e_4 =>
              ((List.set [p, q, u, v] (moved (v38.toNat * 2) v41.toNat 1) v44)[1]?).bind fun e_5 =>
              ((List.set [p, q, u, v] (moved (v38.toNat * 2) v41.toNat 1) v44)[2]?).bind fun e_6 =>
              ((List.set [p, q, u, v] (moved (v38.toNat * 2) v41.toNat 1) v44)[3]?).bind fun e_7 =>
              r e_4 e_5 e_6 e_7 v45 v46
            else
              none
          else
            none
        else
          r p q u v v36 v37) = r p' q' u' v' a' h' := by
    intro p q u v a h ha
    obtain ⟨n, a1, h1, i1, n1, n2, e1⟩ := next_ok (α := α) hl ha k h 40
    by_cases hn : n = 0
    · obtain ⟨i, a2, h2, i2, n3, n4, e2⟩ := next_ok (α := α) hl i1 k h1 2
      obtain ⟨j, a3, h3, i3, n5, n6, e3⟩ := next_ok (α := α) hl i2 k h2 2
      obtain ⟨c, a4, h4, i4, _, e4⟩ := pick_ok (α := α) hl i3 k h3 (list := [1000001, (-1099511627776)]) (by simp) (by simp)
      obtain ⟨x, y, z, w, e5⟩ := set4 (α := α) (i := i) (j := j) (by omega) (by omega) p q u v c
      refine ⟨x, y, z, w, a4, h4, i4, fun r => ?_⟩
      rw [e1, decide_eq_true hn, cond_true, e2, dec_le_t n3, dec_lt_t (by omega), Bool.and_self, cond_true, e3, e4, dec_le_t n5, dec_lt_t (by omega), Bool.and_self, cond_true]
      exact e5 fun a b c d => r a b c d a4 h4
    · refine ⟨p, q, u, v, a1, h1, i1, fun r => ?_⟩
      rw [e1, decide_eq_false hn, cond_false]
  by_cases hn : n = 0
  · obtain ⟨s, a3, h3, i3, s1, s2, e3⟩ := size_ok (α := α) hl i2 k h2
    obtain ⟨x, y, a4, h4, i4, _, _, e4⟩ := point_ok (α := α) hl i3 k h3 (most := s) (by omega) (by omega)
    obtain ⟨t, a5, h5, i5, t1, t2, e5⟩ := size_ok (α := α) hl i4 k h4
    obtain ⟨z, w, a6, h6, i6, _, _, e6⟩ := point_ok (α := α) hl i5 k h5 (most := t) (by omega) (by omega)
    obtain ⟨p', q', u', v', a', h', i', e'⟩ := tail x y z w h6 i6
    refine ⟨p', q', u', v', a', h', i', fun r => ?_⟩
    unfold spec_l01AnyMatrix
    rw [e1, e2, decide_eq_true hn, cond_true, e3, e4, e5, e6]
    exact e' r
  · obtain ⟨p', q', u', v', a', h', i', e'⟩ := tail p q u v h2 i2
    refine ⟨p', q', u', v', a', h', i', fun r => ?_⟩
    unfold spec_l01AnyMatrix
    rw [e1, e2, decide_eq_false hn, cond_false]
    exact e' r

/-- How one turns from a by b to c. -/
def o3 (a b c : Int × Int) : Int := (b.1 - a.1) * (c.2 - b.2) - (b.2 - a.2) * (c.1 - b.1)

theorem keyEq_tr (x y : Int × Int × Int) : keyEq .tr x y = decide (x = y) := by
  obtain ⟨a, b, c⟩ := x
  obtain ⟨d, e, f⟩ := y
  simp [keyEq, Prod.ext_iff]

theorem putK_tr_len : ∀ (ks : List (Int × Int × Int)) (vs : List Bool) (k : Int × Int × Int), ks.length = vs.length → (putK .tr ks k).length = (putV .tr .bool ks vs k true).length
  | [], [], k, _ => rfl
  | x :: ks, v :: vs, k, h => by
    simp only [putK, putV]
    cases keyEq .tr k x with
    | true => simpa using h
    | false =>
      have := putK_tr_len ks vs k (by simpa using h)
      simpa using this
  | [], _ :: _, _, h => by simp at h
  | _ :: _, [], _, h => by simp at h

theorem getM_tr_put : ∀ (ks : List (Int × Int × Int)) (vs : List Bool) (k x : Int × Int × Int), ks.length = vs.length → getM .tr .bool (putK .tr ks k) (putV .tr .bool ks vs k true) x false = (decide (x = k) || getM .tr .bool ks vs x false)
  | [], [], k, x, _ => by
    simp only [putK, putV, getM, keyEq_tr]
    cases decide (x = k) <;> rfl
  | y :: ks, v :: vs, k, x, h => by
    simp only [putK, putV]
    by_cases hk : k = y
    · subst hk
      rw [keyEq_tr, decide_eq_true rfl]
      simp only [cond_true, getM, keyEq_tr]
      by_cases hx : x = k
      · simp [hx]
      · simp [hx]
    · rw [keyEq_tr, decide_eq_false hk]
      simp only [cond_false, getM, keyEq_tr]
      by_cases hx : x = y
      · have : ¬ x = k := fun e => hk (e.symm.trans hx)
        simp [hx, this, Ne.symm hk]
      · simp only [decide_eq_false hx, cond_false]
        exact getM_tr_put ks vs k x (by simpa using h)
  | [], _ :: _, _, _, h => by simp at h
  | _ :: _, [], _, _, h => by simp at h

/-- The map holds what the list holds. -/
def SeenF (ks : List (Int × Int × Int)) (vs : List Bool) (met : List (Int × Int × Int)) : Prop :=
  ks.length = vs.length ∧ ∀ x, getM .tr .bool ks vs x false = decide (x ∈ met)

theorem SeenF.nil : SeenF [] [] [] := ⟨rfl, fun x => by simp [getM]⟩

theorem SeenF.add {ks : List (Int × Int × Int)} {vs : List Bool} {met : List (Int × Int × Int)} (h : SeenF ks vs met) (k : Int × Int × Int) : SeenF (putK .tr ks k) (putV .tr .bool ks vs k true) (met ++ [k]) :=
  ⟨putK_tr_len ks vs k h.1, fun x => by
    rw [getM_tr_put ks vs k x h.1, h.2 x]
    by_cases h1 : x = k <;> by_cases h2 : x ∈ met <;> simp [h1, h2]⟩

theorem cls_l11 (C : List (Int × Int × Int)) (many x3 x4 : Int) (L : List (Int × Int × Int)) (hb : C.length ≤ big) :
    ∀ (rest : List (Int × Int × Int)) (k i : Nat) (ks : List (Int × Int × Int)) (vs : List Bool) (met : List (Int × Int × Int)), C.drop i = rest → i ≤ C.length → SeenF ks vs met → rest.length < k →
    ∃ ks' vs', SeenF ks' vs' (met ++ rest) ∧ ∀ (b2 : Int → Int → Int → Int → Int → (List (Int × Int × Int)) → List Bool → (List (Int × Int × Int)) → (List (Int × Int × Int)) → Option α) (r : Int → Int → Option α), impl_ClassNumber_l11 k many x3 x4 C.length i ks vs L C b2 r = b2 many x3 x4 C.length C.length ks' vs' L C
  | [], k + 1, i, ks, vs, met, hd, hi, hS, _ => by
    have h1 := drop_nil hd
    have h2 : i = C.length := by omega
    subst h2
    refine ⟨ks, vs, by simpa using hS, fun b2 r => ?_⟩
    rw [impl_ClassNumber_l11, dec_lt_f (by omega)]
    rfl
  | e :: rest, k + 1, i, ks, vs, met, hd, hi, hS, hk => by
    obtain ⟨h1, h2, h3⟩ := drop_cons hd
    have hb' := hb
    rw [big_val] at hb'
    have e1 : w64 ((i : Int) + 1) = ((i + 1 : Nat) : Int) := by rw [w64_of (by omega) (by omega)]; omega
    obtain ⟨ks', vs', g1, g2⟩ := cls_l11 C many x3 x4 L hb rest k (i + 1) _ _ _ h2 (by omega) (hS.add e) (by simp at hk; omega)
    refine ⟨ks', vs', by simpa using g1, fun b2 r => ?_⟩
    rw [impl_ClassNumber_l11, dec_lt_t (by omega), dec_le_t (by omega), cond_true, Bool.and_true, cond_true, Int.toNat_natCast, h1, Option.bind_some, e1]
    exact g2 b2 r
  | _, 0, _, _, _, _, _, _, _, hk => by omega

theorem forms_inner {d s : Int} (d1 : 1 ≤ d) (d2 : d ≤ 4000) (s0 : 0 ≤ s) (s63 : s ≤ 63) (hs : s * s < d) (hs1 : d < (s + 1) * (s + 1)) (a : Int) (a0 : -63 ≤ a) (a1 : a ≤ 63) : ∀ (n : Nat) (b : Int) (out : List (Int × Int × Int)), 1 ≤ b → b + n = s + 1 → (∀ x ∈ out, RedT d s x) → out.length + n ≤ 100000 →
    ∃ b' out', (∀ x ∈ out', RedT d s x) ∧ out'.length ≤ out.length + n ∧ out.length ≤ out'.length ∧ (∀ b0, b ≤ b0 → b0 ≤ s → a ≠ 0 → Int.tmod (b0 * b0 - d) (4 * a) = 0 → redF a b0 s = true → 1 ≤ out'.length) ∧ (∀ k, n < k → ∀ (b2 : Int → Int → Int → Int → (List (Int × Int × Int)) → Option α) r0 r1, spec_l06All_l11 k d s a b out b2 r0 r1 = b2 d s a b' out') ∧
      (∀ k, n + 65 < k → ∀ (b2 : Int → Int → Int → Int → (List (Int × Int × Int)) → Option α) r0, impl_reducedForms_l6 k d s a b out b2 r0 = b2 d s a b' out')
  | 0, b, out, b1, hn, hF, hl => by
    refine ⟨b, out, hF, by omega, by omega, fun b0 h1 h2 => by omega, fun k hk b2 r0 r1 => ?_, fun k hk b2 r0 => ?_⟩
    · obtain ⟨k, rfl⟩ : ∃ m, k = m + 1 := ⟨k - 1, by omega⟩
      rw [spec_l06All_l11, dec_le_f (by omega)]
      rfl
    · obtain ⟨k, rfl⟩ : ∃ m, k = m + 1 := ⟨k - 1, by omega⟩
      rw [impl_reducedForms_l6, dec_le_f (by omega)]
      rfl
  | n + 1, b, out, b1, hn, hF, hl => by
    by_cases ha : a = 0
    · refine ⟨b, out, hF, by omega, by omega, fun b0 _ _ h => absurd ha h, fun k hk b2 r0 r1 => ?_, fun k hk b2 r0 => ?_⟩
      · obtain ⟨k, rfl⟩ : ∃ m, k = m + 1 := ⟨k - 1, by omega⟩
        rw [spec_l06All_l11, dec_le_t (by omega), decide_eq_true ha]
        rfl
      · obtain ⟨k, rfl⟩ : ∃ m, k = m + 1 := ⟨k - 1, by omega⟩
        rw [impl_reducedForms_l6, dec_le_t (by omega), decide_eq_true ha]
        rfl
    · have hbb := mul_bound (a := b) (b := b) (A := 63) (B := 63) (by omega) (by omega) (by omega) (by omega)
      have w1 : w64 (b * b) = b * b := w64_of (by omega) (by omega)
      have w2 : w64 (b * b - d) = b * b - d := w64_of (by omega) (by omega)
      have w3 : w64 (4 * a) = 4 * a := w64_of (by omega) (by omega)
      have w4 : w64 (b + 1) = b + 1 := w64_of (by omega) (by omega)
      have n4 : decide (4 * a = 0) = false := decide_eq_false (by omega)
      by_cases hm : Int.tmod (b * b - d) (4 * a) = 0
      · have hdv : (4 * a) ∣ (b * b - d) := Int.dvd_of_tmod_eq_zero hm
        have hc : 4 * a * Int.tdiv (b * b - d) (4 * a) = b * b - d := Int.mul_tdiv_cancel' hdv
        have hcb : (Int.tdiv (b * b - d) (4 * a)).natAbs ≤ (b * b - d).natAbs := by
          rw [Int.natAbs_tdiv]
          exact Nat.div_le_self _ _
        generalize hcc : Int.tdiv (b * b - d) (4 * a) = c at hc hcb
        have w5 : w64 c = c := w64_of (by omega) (by omega)
        have hI : IsF a b c d s := ⟨by omega, by omega, by omega, by omega, by omega, by omega, by omega, d1, d2, s0, hs, hs1⟩
        cases hr : redF a b s with
        | true =>
          obtain ⟨b', out', g1, g2, g5, g6, g3, g4⟩ := forms_inner d1 d2 s0 s63 hs hs1 a a0 a1 n (b + 1) (out ++ [(a, b, c)]) (by omega) (by omega) (fun x hx => by
            rcases List.mem_append.1 hx with hx | hx
            · exact hF x hx
            · rw [List.mem_singleton.1 hx]; exact ⟨hI, hr⟩) (by simp; omega)
          have hlb : decide (out.length + 1 ≤ big) = true := decide_eq_true (by rw [big_val]; omega)
          refine ⟨b', out', g1, by simp at g2; omega, by simp at g5; omega, fun _ _ _ _ _ _ => by simp at g5; omega, fun k hk b2 r0 r1 => ?_, fun k hk b2 r0 => ?_⟩
          · obtain ⟨k, rfl⟩ : ∃ m, k = m + 1 := ⟨k - 1, by omega⟩
            rw [spec_l06All_l11, dec_le_t (by omega), decide_eq_false ha, w1, w2, w3, n4, w4, hcc, w5, decide_eq_true hm, hI.red_spec, hr, hlb]
            exact g3 k (by omega) b2 r0 r1
          · obtain ⟨k, rfl⟩ : ∃ m, k = m + 1 := ⟨k - 1, by omega⟩
            rw [impl_reducedForms_l6, dec_le_t (by omega), decide_eq_false ha, w1, w2, w3, n4, w4, hcc, w5, decide_eq_true hm, hI.red_impl k (by omega), hr, hlb]
            exact g4 k (by omega) b2 r0
        | false =>
          obtain ⟨b', out', g1, g2, g5, g6, g3, g4⟩ := forms_inner d1 d2 s0 s63 hs hs1 a a0 a1 n (b + 1) out (by omega) (by omega) hF (by omega)
          refine ⟨b', out', g1, by omega, by omega, fun b0 q1 q2 q3 q4 q5 => ?_, fun k hk b2 r0 r1 => ?_, fun k hk b2 r0 => ?_⟩
          · by_cases e : b0 = b
            · rw [e, hr] at q5; cases q5
            · exact g6 b0 (by omega) q2 q3 q4 q5
          · obtain ⟨k, rfl⟩ : ∃ m, k = m + 1 := ⟨k - 1, by omega⟩
            rw [spec_l06All_l11, dec_le_t (by omega), decide_eq_false ha, w1, w2, w3, n4, w4, hcc, w5, decide_eq_true hm, hI.red_spec, hr]
            exact g3 k (by omega) b2 r0 r1
          · obtain ⟨k, rfl⟩ : ∃ m, k = m + 1 := ⟨k - 1, by omega⟩
            rw [impl_reducedForms_l6, dec_le_t (by omega), decide_eq_false ha, w1, w2, w3, n4, w4, hcc, w5, decide_eq_true hm, hI.red_impl k (by omega), hr]
            exact g4 k (by omega) b2 r0
      · obtain ⟨b', out', g1, g2, g5, g6, g3, g4⟩ := forms_inner d1 d2 s0 s63 hs hs1 a a0 a1 n (b + 1) out (by omega) (by omega) hF (by omega)
        refine ⟨b', out', g1, by omega, by omega, fun b0 q1 q2 q3 q4 q5 => ?_, fun k hk b2 r0 r1 => ?_, fun k hk b2 r0 => ?_⟩
        · by_cases e : b0 = b
          · rw [e] at q4; exact absurd q4 hm
          · exact g6 b0 (by omega) q2 q3 q4 q5
        · obtain ⟨k, rfl⟩ : ∃ m, k = m + 1 := ⟨k - 1, by omega⟩
          rw [spec_l06All_l11, dec_le_t (by omega), decide_eq_false ha, w1, w2, w3, n4, w4, decide_eq_false hm]
          exact g3 k (by omega) b2 r0 r1
        · obtain ⟨k, rfl⟩ : ∃ m, k = m + 1 := ⟨k - 1, by omega⟩
          rw [impl_reducedForms_l6, dec_le_t (by omega), decide_eq_false ha, w1, w2, w3, n4, w4, decide_eq_false hm]
          exact g4 k (by omega) b2 r0

theorem forms_outer {d s : Int} (d1 : 1 ≤ d) (d2 : d ≤ 4000) (s0 : 0 ≤ s) (s63 : s ≤ 63) (hs : s * s < d) (hs1 : d < (s + 1) * (s + 1)) : ∀ (n : Nat) (a : Int) (out : List (Int × Int × Int)), -63 ≤ a → a + n = s + 1 → (∀ x ∈ out, RedT d s x) → out.length + n * 64 ≤ 100000 →
    ∃ a' out', (∀ x ∈ out', RedT d s x) ∧ out'.length ≤ out.length + n * 64 ∧ out.length ≤ out'.length ∧ (∀ a0 b0, a ≤ a0 → a0 ≤ s → 1 ≤ b0 → b0 ≤ s → a0 ≠ 0 → Int.tmod (b0 * b0 - d) (4 * a0) = 0 → redF a0 b0 s = true → 1 ≤ out'.length) ∧ (∀ k, n + 64 < k → ∀ (b0 : Int → Int → Int → (List (Int × Int × Int)) → Option α) r0 r1, spec_l06All_l8 k d s a out b0 r0 r1 = b0 d s a' out') ∧
      (∀ k, n + 130 < k → ∀ (b0 : Int → Int → Int → (List (Int × Int × Int)) → Option α) r0, impl_reducedForms_l3 k d s a out b0 r0 = b0 d s a' out')
  | 0, a, out, a0, hn, hF, hl => by
    refine ⟨a, out, hF, by omega, by omega, fun a0 b0 h1 h2 => by omega, fun k hk b2 r0 r1 => ?_, fun k hk b2 r0 => ?_⟩
    · obtain ⟨k, rfl⟩ : ∃ m, k = m + 1 := ⟨k - 1, by omega⟩
      rw [spec_l06All_l8, dec_le_f (by omega)]
      rfl
    · obtain ⟨k, rfl⟩ : ∃ m, k = m + 1 := ⟨k - 1, by omega⟩
      rw [impl_reducedForms_l3, dec_le_f (by omega)]
      rfl
  | n + 1, a, out, a0, hn, hF, hl => by
    obtain ⟨b', o1, f1, f2, f5, f6, f3, f4⟩ := forms_inner (α := α) d1 d2 s0 s63 hs hs1 a a0 (by omega) s.toNat 1 out (by omega) (by omega) hF (by omega)
    have w4 : w64 (a + 1) = a + 1 := w64_of (by omega) (by omega)
    obtain ⟨a', out', g1, g2, g5, g6, g3, g4⟩ := forms_outer d1 d2 s0 s63 hs hs1 n (a + 1) o1 (by omega) (by omega) f1 (by omega)
    refine ⟨a', out', g1, by omega, by omega, fun a1 b1 q1 q2 q3 q4 q5 q6 q7 => ?_, fun k hk b2 r0 r1 => ?_, fun k hk b2 r0 => ?_⟩
    · by_cases e : a1 = a
      · subst e
        have := f6 b1 q3 q4 q5 q6 q7
        omega
      · exact g6 a1 b1 (by omega) q2 q3 q4 q5 q6 q7
    · obtain ⟨k, rfl⟩ : ∃ m, k = m + 1 := ⟨k - 1, by omega⟩
      rw [spec_l06All_l8, dec_le_t (by omega), cond_true, f3 k (by omega), w4]
      exact g3 k (by omega) b2 r0 r1
    · obtain ⟨k, rfl⟩ : ∃ m, k = m + 1 := ⟨k - 1, by omega⟩
      rw [impl_reducedForms_l3, dec_le_t (by omega), cond_true, f4 k (by omega), w4]
      exact g4 k (by omega) b2 r0

theorem root_one {d s t : Int} (s0 : 0 ≤ s) (t0 : 0 ≤ t) (h1 : s * s ≤ d) (h2 : d < (s + 1) * (s + 1)) (h3 : t * t ≤ d) (h4 : d < (t + 1) * (t + 1)) : s = t := by
  have a1 := sq_lt (a := s) (b := t + 1) s0 (by omega) (by omega)
  have a2 := sq_lt (a := t) (b := s + 1) t0 (by omega) (by omega)
  omega

theorem sq_mod4 (y : Int) : y * y % 4 = 0 ∨ y * y % 4 = 1 := by
  have h : y % 4 = 0 ∨ y % 4 = 1 ∨ y % 4 = 2 ∨ y % 4 = 3 := by omega
  rcases h with h | h | h | h <;> rw [Int.mul_emod, h] <;> simp

theorem IsF.mod4 {x y z d s : Int} (h : IsF x y z d s) : ¬ 1 < Int.tmod d 4 := by
  have h1 := h.d1
  have h2 := h.hd
  rw [Int.tmod_eq_emod_of_nonneg (by omega)]
  have := sq_mod4 y
  rw [Int.mul_assoc] at h2
  omega

/-- The reduced forms, from both: a fault, or one list. -/
theorem forms_both (d : Int) : (∃ e : Int, e ≠ 0 ∧ (∀ x y z s, ¬ IsF x y z d s) ∧ (∀ k, 1000 < k → ∀ (r0 : Int → Option α) r1, spec_l06All k d r0 r1 = r0 e) ∧ (∀ k, 1000 < k → ∀ r : Int → Option α, impl_discFault k d r = r e)) ∨
    ∃ s l, (∀ x ∈ l, RedT d s x) ∧ l.length ≤ 10000 ∧ l ≠ [] ∧ (∀ k, 1000 < k → ∀ (r0 : Int → Option α) r1, spec_l06All k d r0 r1 = r1 l 0) ∧ (∀ k, 1000 < k → ∀ r : Int → Option α, impl_discFault k d r = r 0) ∧ (∀ k, 1000 < k → ∀ r : List (Int × Int × Int) → Option α, impl_reducedForms k d r = r l) := by
  cases hb : inB d 1 4000 with
  | false => 
    have hno : ∀ x y z s, ¬ IsF x y z d s := fun x y z s h => by rw [inB_iff.2 ⟨h.d1, h.d2⟩] at hb; cases hb
    exact .inl ⟨2, by decide, hno, fun k hk r0 r1 => by simp [spec_l06All, spec_l01In_eq, hb], fun k hk r => by simp [impl_discFault, impl_in_eq, hb]⟩
  | true =>
    have hb2 := hb
    rw [inB_iff] at hb2
    obtain ⟨s, h0, h1, h2, h3⟩ := root_of d hb2.1 hb2.2
    have hm := mul_bound (A := 63) (B := 63) (a := s) (b := s) (by omega) h1 (by omega) h1
    have ws : w64 (s * s) = s * s := w64_of (by omega) (by omega)
    by_cases he : s * s = d
    · have wd : w64 d = d := by rw [← he]; exact ws
      refine .inl ⟨5, by decide, fun x y z t h => ?_, fun k hk r0 r1 => ?_, fun k hk r => ?_⟩
      · have := root_one h0 h.s0 h2 h3 (by have := h.hs; omega) h.hs1
        subst this
        have := h.hs
        omega
      · simp [spec_l06All, spec_l01In_eq, hb, spec_root_eq k d s _ h0 (by omega) h2 h3 (by omega), he, wd]
      · simp [impl_discFault, impl_discOk, impl_in_eq, hb, impl_root_eq k d s _ h0 (by omega) h2 h3 (by omega), he, wd]
    · by_cases h4 : 1 < Int.tmod d 4
      · refine .inl ⟨5, by decide, fun x y z t h => h.mod4 h4, fun k hk r0 r1 => ?_, fun k hk r => ?_⟩
        · simp [spec_l06All, spec_l01In_eq, hb, spec_root_eq k d s _ h0 (by omega) h2 h3 (by omega), ws, he, h4]
        · simp [impl_discFault, impl_discOk, impl_in_eq, hb, impl_root_eq k d s _ h0 (by omega) h2 h3 (by omega), ws, he, h4]
      · obtain ⟨a', l, g1, g2, g5, g6, g3, g4⟩ := forms_outer (α := α) hb2.1 hb2.2 h0 h1 (by omega) h3 (2 * s + 1).toNat (-s) [] (by omega) (by omega) (fun x hx => by simp at hx) (by simp; omega)
        have wn : w64 (0 - s) = -s := by rw [w64_of (by omega) (by omega)]; omega
        refine .inr ⟨s, l, g1, by simp at g2; omega, ?_, fun k hk r0 r1 => ?_, fun k hk r => ?_, fun k hk r => ?_⟩
        · rw [Int.tmod_eq_emod_of_nonneg (by omega)] at h4
          have s2 : 2 ≤ s := by
            rcases Int.lt_or_le s 2 with h | h
            · have : s = 0 ∨ s = 1 := by omega
              rcases this with e | e <;> subst e <;> omega
            · exact h
          obtain ⟨b, b1, b2, b3⟩ : ∃ b, (b = s ∨ b = s - 1) ∧ b % 2 = d % 2 ∧ 1 ≤ b := by
            by_cases hp : s % 2 = d % 2
            · exact ⟨s, .inl rfl, hp, by omega⟩
            · exact ⟨s - 1, .inr rfl, by omega, by omega⟩
          have hl1 := g6 1 b (by omega) (by omega) b3 (by omega) (by omega) (by
            rw [Int.mul_one]
            refine Int.tmod_eq_zero_of_dvd (Int.dvd_of_emod_eq_zero ?_)
            have hb4 : b % 4 = 0 ∨ b % 4 = 1 ∨ b % 4 = 2 ∨ b % 4 = 3 := by omega
            have hbb : b * b % 4 = (b % 4) * (b % 4) % 4 := Int.mul_emod b b 4
            rcases hb4 with h | h | h | h <;> rw [h] at hbb <;> omega) (by
            unfold redF
            simp only [Bool.and_eq_true, decide_eq_true_eq]
            rcases b1 with e | e <;> omega)
          intro e
          rw [e] at hl1
          simp at hl1
        · simp only [spec_l06All, spec_l01In_eq, hb, spec_root_eq k d s _ h0 (by omega) h2 h3 (by omega), ws, decide_eq_false he, decide_eq_false h4, Bool.not_true, cond_false, wn]
          exact g3 k (by omega) _ r0 r1
        · simp [impl_discFault, impl_discOk, impl_in_eq, hb, impl_root_eq k d s _ h0 (by omega) h2 h3 (by omega), ws, he, h4]
        · simp only [impl_reducedForms, impl_root_eq k d s _ h0 (by omega) h2 h3 (by omega), wn]
          exact g4 k (by omega) _ r

theorem cls_loop {d s : Int} (L : List (Int × Int × Int)) (hL : ∀ x ∈ L, RedT d s x) (hl : L.length ≤ 10000) :
    ∀ (rest : List (Int × Int × Int)) (k i : Nat) (count : Int) (ks : List (Int × Int × Int)) (vs : List Bool) (met : List (Int × Int × Int)), L.drop i = rest → i ≤ L.length → SeenF ks vs met → met.length ≤ 8192 * i → 0 ≤ count → count ≤ i → 100000000 + rest.length < k →
    ∃ count' ks' vs' met', (count ≤ count' ∧ count' ≤ count + rest.length ∧ ∀ e r, rest = e :: r → e ∉ met → count + 1 ≤ count') ∧ (∀ (b0 : Int → Int → (List (Int × Int × Int)) → (List (Int × Int × Int)) → Option α) r0, spec_ClassNumber_l6 k count i L met b0 r0 = b0 count' L.length L met') ∧
      (∀ (b0 : Int → Int → Int → (List (Int × Int × Int)) → List Bool → (List (Int × Int × Int)) → Option α) r0, impl_ClassNumber_l6 k count L.length i ks vs L b0 r0 = b0 count' L.length L.length ks' vs' L)
  | [], k + 1, i, count, ks, vs, met, hd, hi, hS, hm, _, _, hk => by
    have h1 := drop_nil hd
    have h2 : i = L.length := by omega
    subst h2
    refine ⟨count, ks, vs, met, ⟨by omega, by simp, fun e r h => by cases h⟩, fun b0 r0 => ?_, fun b0 r0 => ?_⟩
    · rw [spec_ClassNumber_l6, dec_lt_f (by omega)]
      rfl
    · rw [impl_ClassNumber_l6, dec_lt_f (by omega)]
      rfl
  | e :: rest, k + 1, i, count, ks, vs, met, hd, hi, hS, hm, hc0, hc1, hk => by
    obtain ⟨h1, h2, h3⟩ := drop_cons hd
    simp only [List.length_cons] at hk
    have e1 : w64 ((i : Int) + 1) = ((i + 1 : Nat) : Int) := by rw [w64_of (by omega) (by omega)]; omega
    have e2 : w64 (count + 1) = count + 1 := w64_of (by omega) (by omega)
    have hmb : met.length ≤ big := by rw [big_val]; omega
    have hF : FormT d s e := (hL e (List.mem_of_getElem? h1)).1
    have hg : getM .tr .bool ks vs (e.1, e.2.1, e.2.2) false = decide (e ∈ met) := hS.2 e
    by_cases hmem : e ∈ met
    · obtain ⟨count', ks', vs', met', ⟨q1, q2, _⟩, g1, g2⟩ := cls_loop L hL hl rest k (i + 1) count ks vs met h2 (by omega) hS (by omega) hc0 (by omega) (by omega)
      refine ⟨count', ks', vs', met', ⟨q1, by simp; omega, fun e' r' he hn => by cases he; exact absurd hmem hn⟩, fun b0 r0 => ?_, fun b0 r0 => ?_⟩
      · rw [spec_ClassNumber_l6, dec_lt_t (by omega), dec_le_t (by omega), cond_true, Bool.and_true, cond_true, Int.toNat_natCast, h1, Option.bind_some, has_eq e k met _ hmb (by omega), decide_eq_true hmem, Bool.not_true, cond_false, e1]
        exact g1 b0 r0
      · rw [impl_ClassNumber_l6, dec_lt_t (by omega), dec_le_t (by omega), cond_true, Bool.and_true, cond_true, Int.toNat_natCast, h1, Option.bind_some, hg, decide_eq_true hmem]
        show (bif true then impl_ClassNumber_l6 k count L.length (w64 ((i : Int) + 1)) ks vs L b0 r0 else _) = _
        rw [cond_true, e1]
        exact g2 b0 r0
    · obtain ⟨n, g, n1, n2, _, c1, c2⟩ := cycle_eq (α := α) hF
      have hCl : (listT d s n g).length = n := listT_length _ _ _ _
      generalize listT d s n g = C at c1 c2 hCl
      have hCb : C.length ≤ big := by rw [big_val]; omega
      have hdec : decide (met.length + C.length ≤ big) = true := decide_eq_true (by rw [big_val]; omega)
      obtain ⟨ks1, vs1, hS1, hin⟩ := cls_l11 (α := α) C (count + 1) L.length i L hCb C k 0 ks vs met (by simp) (by omega) hS (by omega)
      obtain ⟨count', ks', vs', met', ⟨q1, q2, _⟩, g1, g2⟩ := cls_loop L hL hl rest k (i + 1) (count + 1) ks1 vs1 (met ++ C) h2 (by omega) hS1 (by simp; omega) (by omega) (by omega) (by omega)
      refine ⟨count', ks', vs', met', ⟨by omega, by simp; omega, fun _ _ _ _ => q1⟩, fun b0 r0 => ?_, fun b0 r0 => ?_⟩
      · rw [spec_ClassNumber_l6, dec_lt_t (by omega), dec_le_t (by omega), cond_true, Bool.and_true, cond_true, Int.toNat_natCast, h1, Option.bind_some, has_eq e k met _ hmb (by omega), decide_eq_false hmem, Bool.not_false, cond_true, Option.bind_some, c1 k (by omega), hdec, cond_true, e1, e2]
        exact g1 b0 r0
      · rw [impl_ClassNumber_l6, dec_lt_t (by omega), dec_le_t (by omega), cond_true, Bool.and_true, cond_true, Int.toNat_natCast, h1, Option.bind_some, hg, decide_eq_false hmem]
        show (bif false then _ else impl_Form_cycle k e.1 e.2.1 e.2.2 _) = _
        rw [cond_false, c2 k (by omega), e2]
        have := hin (fun many2 x9 x10 _ _ seen4 seen5 x13 _ => impl_ClassNumber_l6 k many2 x9 (w64 (x10 + 1)) seen4 seen5 x13 b0 r0) r0
        refine this.trans ?_
        rw [e1]
        exact g2 b0 r0
  | _, 0, _, _, _, _, _, _, _, _, _, _, _, hk => by omega

theorem dform_l7 {l : List Int} {d s : Int} : ∀ (m k : Nat) (n a h x x1 x2 : Int) (f : Int × Int × Int), FormT d s f → n ≤ m → n ≤ 1000 → m + 70 < k →
    ∃ (n' : Int) (g : Int × Int × Int), ∀ (b2 : Int → Int → Int → Int → Int → Int → Int → Int → Int → List Int → Option α) r0, spec_l06DrawForm_l7 k n a h x x1 x2 f.1 f.2.1 f.2.2 l b2 r0 = b2 n' a h x x1 x2 g.1 g.2.1 g.2.2 l
  | 0, k + 1, n, a, h, x, x1, x2, f, hF, hn, _, hk => by
    refine ⟨n, f, fun b2 r0 => ?_⟩
    rw [spec_l06DrawForm_l7, dec_lt_f (by omega)]
    rfl
  | m + 1, k + 1, n, a, h, x, x1, x2, f, hF, hn, hb, hk => by
    by_cases h0 : 0 < n
    · by_cases h1 : -1 < n
      · have w : w64 (n - 1) = n - 1 := w64_of (by omega) (by omega)
        obtain ⟨n', g, e⟩ := dform_l7 (l := l) m k (n - 1) a h x x1 x2 (nextT d s f) hF.next (by omega) (by omega) (by omega)
        refine ⟨n', g, fun b2 r0 => ?_⟩
        rw [spec_l06DrawForm_l7, dec_lt_t h0, cond_true, IsF.disc_spec hF, IsF.disc_spec hF, IsF.root_spec hF k (by omega), IsF.next_spec hF, w]
        exact e b2 r0
      · omega
    · refine ⟨n, f, fun b2 r0 => ?_⟩
      rw [spec_l06DrawForm_l7, dec_lt_f (by omega)]
      rfl
  | _, 0, _, _, _, _, _, _, _, _, _, _, hk => by omega

/-- One try. -/
theorem dform_try {l : List Int} (hl : IsCode l) {a : Int} (ha : AtC l a) (k : Nat) (hk : 2000 < k) (h : Int) (REST : Int → Int → (Int → Int → Int → Int → Int → Option α) → Option α)
    (hR : ∀ a h, AtC l a → ∃ x y z a' h', AtC l a' ∧ ∀ r, REST a h r = r x y z a' h') :
    ∃ x y z a' h', AtC l a' ∧ ∀ r : Int → Int → Int → Int → Int → Option α, (spec_l01Next k l a h 25 fun v v1 v2 => spec_l01Next k l v1 v2 31 fun v3 v4 v5 => spec_l01Next k l v4 v5 25 fun v6 v7 v8 =>
      spec_l06Is k (w64 (v - 12)) (w64 (v3 - 15)) (w64 (v6 - 12)) fun v9 => bif v9 then spec_l01Next k l v7 v8 3 fun v10 v11 v12 =>
        spec_l06DrawForm_l7 k v10 v11 v12 0 0 0 (w64 (v - 12)) (w64 (v3 - 15)) (w64 (v6 - 12)) l (fun _ b_3 b_4 _ _ _ x9 x10 x11 _ => r x9 x10 x11 b_3 b_4) r else REST v7 v8 r) = r x y z a' h' := by
  obtain ⟨v, a1, h1, i1, i2, i3, i4⟩ := next_ok (α := α) hl ha k h 25
  obtain ⟨w, a2, h2, j1, j2, j3, j4⟩ := next_ok (α := α) hl i1 k h1 31
  obtain ⟨u, a3, h3, k1, k2, k3, k4⟩ := next_ok (α := α) hl j1 k h2 25
  rcases form_cases (α := α) k (by omega) (w64 (v - 12)) (w64 (w - 15)) (w64 (u - 12)) with ⟨f1, _⟩ | ⟨d, s, hF, f1, _⟩
  · obtain ⟨x, y, z, a', h', q1, q2⟩ := hR a3 h3 k1
    refine ⟨x, y, z, a', h', q1, fun r => ?_⟩
    rw [i4, j4, k4, f1, cond_false, q2]
  · obtain ⟨n, a4, h4, q1, q2, q3, q4⟩ := next_ok (α := α) hl k1 k h3 3
    obtain ⟨n', g, e⟩ := dform_l7 (α := α) (l := l) 3 k n a4 h4 0 0 0 (w64 (v - 12), w64 (w - 15), w64 (u - 12)) hF (by omega) (by omega) (by omega)
    refine ⟨g.1, g.2.1, g.2.2, a4, h4, q1, fun r => ?_⟩
    rw [i4, j4, k4, f1, cond_true, q4]
    exact e _ r

theorem dform_ok {l : List Int} (hl : IsCode l) {a : Int} (ha : AtC l a) (k : Nat) (hk : 2000 < k) (h : Int) : ∃ x y z a' h', AtC l a' ∧ ∀ r : Int → Int → Int → Int → Int → Option α, spec_l06DrawForm k l a h r = r x y z a' h' := by
  unfold spec_l06DrawForm
  refine dform_try hl ha k hk h _ fun a h ha => ?_
  refine dform_try hl ha k hk h _ fun a h ha => ?_
  refine dform_try hl ha k hk h _ fun a h ha => ?_
  refine dform_try hl ha k hk h _ fun a h ha => ?_
  refine dform_try hl ha k hk h _ fun a h ha => ?_
  refine dform_try hl ha k hk h _ fun a h ha => ?_
  refine dform_try hl ha k hk h _ fun a h ha => ?_
  refine dform_try hl ha k hk h _ fun a h ha => ?_
  obtain ⟨v, a1, h1, i1, i2, i3⟩ := pick_ok (α := α) hl ha k h (list := [0, 1, 2]) (by simp) (by simp)
  obtain ⟨u, a2, h2, j1, j2, j3⟩ := pick_ok (α := α) hl i1 k h1 (list := [-1, -3, -1000000, 1000001]) (by simp) (by simp)
  exact ⟨1, v, u, a2, h2, j1, fun r => by rw [i3, j3]⟩

theorem dNextForm_ok {l : List Int} (hl : IsCode l) (k : Nat) (hk : 4096 < k) : ∃ x y z, ∀ r : Int → Int → Int → Option α, spec_DrawNextForm k l r = r x y z := by
  obtain ⟨h, h0, e0⟩ := from_ok (α := α) hl k hk
  obtain ⟨x, y, z, a1, h1, _, e1⟩ := dform_ok (α := α) hl h0 k (by omega) h
  exact ⟨x, y, z, fun r => by unfold spec_DrawNextForm; rw [e0, e1]⟩

theorem dReducedForms_ok {l : List Int} (hl : IsCode l) (k : Nat) (hk : 4096 < k) : ∃ d, ∀ r : Int → Option α, spec_DrawReducedForms k l r = r d := by
  obtain ⟨h, h0, e0⟩ := from_ok (α := α) hl k hk
  obtain ⟨v, a1, h1, i1, i2, i3, i4⟩ := next_ok (α := α) hl h0 k h 60
  obtain ⟨w, a2, h2, j1, j2, j3, j4⟩ := next_ok (α := α) hl i1 k h1 60
  obtain ⟨u, a3, h3, k1, k2, k3, k4⟩ := next_ok (α := α) hl j1 k h2 60
  obtain ⟨n, a4, h4, m1, m2, m3, m4⟩ := near_ok (α := α) hl k1 k h3 (most := 4000) (by omega) (by omega)
  obtain ⟨p, a5, h5, p1, p2, p3⟩ := pick_ok (α := α) hl m1 k h4 (list := [v, w64 (4 * w), w64 (w64 (4 * u) + 1), n]) (by simp) (by simp)
  exact ⟨p, fun r => by unfold spec_DrawReducedForms; rw [e0, i4, j4, k4, m4, p3]⟩

theorem dEquiv_ok {l : List Int} (hl : IsCode l) (k : Nat) (hk : 4096 < k) : ∃ a b c d e f, ∀ r : Int → Int → Int → Int → Int → Int → Option α, spec_DrawAreEquivalentForms k l r = r a b c d e f := by
  obtain ⟨h, h0, e0⟩ := from_ok (α := α) hl k hk
  obtain ⟨x, y, z, a1, h1, i1, e1⟩ := dform_ok (α := α) hl h0 k (by omega) h
  unfold spec_DrawAreEquivalentForms
  simp only [e0, e1]
  rcases form_cases (α := α) k (by omega) x y z with ⟨f1, _⟩ | ⟨d, s, hF, f1, _⟩
  · obtain ⟨x', y', z', a2, h2, _, e2⟩ := dform_ok (α := α) hl i1 k (by omega) h1
    exact ⟨x, y, z, x', y', z', fun r => by rw [f1, Bool.not_false, cond_true, e2]⟩
  · obtain ⟨v, a2, h2, j1, j2, j3, j4⟩ := next_ok (α := α) hl i1 k h1 4
    simp only [f1, Bool.not_true, cond_false, j4]
    by_cases hv : v = 0
    · obtain ⟨x', y', z', a3, h3, _, e3⟩ := dform_ok (α := α) hl j1 k (by omega) h2
      exact ⟨x, y, z, x', y', z', fun r => by rw [decide_eq_true hv, cond_true, e3]⟩
    · rcases forms_both (α := α) d with ⟨_, _, hno, _, _⟩ | ⟨s', L, hL, hlen, hne, q1, q2, q3⟩
      · exact absurd hF (hno _ _ _ _)
      · obtain ⟨u, a3, h3, k1, k2, k3, k4⟩ := next_ok (α := α) hl j1 k h2 (L.length : Int)
        have hpos : 0 < L.length := List.length_pos_iff.2 hne
        have hu : u < L.length := by omega
        have hlt : u.toNat < L.length := by omega
        refine ⟨x, y, z, L[u.toNat].1, L[u.toNat].2.1, L[u.toNat].2.2, fun r => ?_⟩
        rw [decide_eq_false hv, cond_false, IsF.disc_spec hF]
        unfold spec_ReducedForms
        rw [q1 k (by omega)]
        simp only [k4]
        rw [dec_le_t k2, dec_lt_t hu, Bool.and_self, cond_true, List.getElem?_eq_getElem hlt, Option.bind_some]

theorem bs1 (n : Nat) : (bs [n]).size = 1 := rfl

theorem word_l7 {l : List Int} {letter : ByteArray} (hs : letter.size = 1) (kk s5 s6 : Int) : ∀ (m k : Nat) (out : ByteArray) (n : Int), n ≤ m → n ≤ 1000 → out.size + m ≤ 100000 → m < k →
    ∃ (n' : Int) (out' : ByteArray), out'.size ≤ out.size + m ∧ ∀ (b2 : ByteArray → Int → ByteArray → Int → Int → Int → List Int → Option α) r0, spec_l06Draw_l7 k out kk letter n s5 s6 l b2 r0 = b2 out' kk letter n' s5 s6 l
  | 0, k + 1, out, n, hn, _, _, hk => by
    refine ⟨n, out, by omega, fun b2 r0 => ?_⟩
    rw [spec_l06Draw_l7, dec_lt_f (by omega)]
    rfl
  | m + 1, k + 1, out, n, hn, hb, ho, hk => by
    by_cases h0 : 0 < n
    · have w : w64 (n - 1) = n - 1 := w64_of (by omega) (by omega)
      have hd : decide (out.size + letter.size ≤ big) = true := decide_eq_true (by rw [big_val, hs]; omega)
      obtain ⟨n', out', q1, q2⟩ := word_l7 (l := l) hs kk s5 s6 m k (out ++ letter) (n - 1) (by omega) (by omega) (by rw [ByteArray.size_append, hs]; omega) (by omega)
      rw [ByteArray.size_append, hs] at q1
      refine ⟨n', out', by omega, fun b2 r0 => ?_⟩
      rw [spec_l06Draw_l7, dec_lt_t h0, cond_true, hd, cond_true, w]
      exact q2 b2 r0
    · refine ⟨n, out, by omega, fun b2 r0 => ?_⟩
      rw [spec_l06Draw_l7, dec_lt_f (by omega)]
      rfl
  | _, 0, _, _, _, _, _, hk => by omega

theorem word_l3 {l : List Int} (hl : IsCode l) : ∀ (m k : Nat) (out : ByteArray) (n a h : Int), AtC l a → n ≤ m → n ≤ 1000 → out.size + 3 * m ≤ 50000 → m + 10 < k →
    ∃ (n' : Int) (out' : ByteArray) (a' h' : Int), AtC l a' ∧ out'.size ≤ out.size + 3 * m ∧ ∀ (b0 : ByteArray → Int → Int → Int → List Int → Option α) r0, spec_l06Draw_l3 k out n a h l b0 r0 = b0 out' n' a' h' l
  | 0, k + 1, out, n, a, h, ha, hn, _, _, hk => by
    refine ⟨n, out, a, h, ha, by omega, fun b2 r0 => ?_⟩
    rw [spec_l06Draw_l3, dec_lt_f (by omega)]
    rfl
  | m + 1, k + 1, out, n, a, h, ha, hn, hb, ho, hk => by
    by_cases h0 : 0 < n
    · have w : w64 (n - 1) = n - 1 := w64_of (by omega) (by omega)
      obtain ⟨v, a1, h1, i1, i2, i3, i4⟩ := next_ok (α := α) hl ha k h 2
      obtain ⟨u, a2, h2, j1, j2, j3, j4⟩ := next_ok (α := α) hl i1 k h1 3
      obtain ⟨t, a3, h3, k1, k2, k3, k4⟩ := next_ok (α := α) hl j1 k h2 2
      obtain ⟨letter, hs, hlet⟩ : ∃ letter : ByteArray, letter.size = 1 ∧ [(bs [76]), (bs [82])][v.toNat]? = some letter := by
        have : v.toNat = 0 ∨ v.toNat = 1 := by omega
        rcases this with e | e <;> rw [e]
        · exact ⟨_, bs1 76, rfl⟩
        · exact ⟨_, bs1 82, rfl⟩
      have hut := mul_bound (a := u) (b := t) (A := 2) (B := 1) (by omega) (by omega) (by omega) (by omega)
      have w2 : w64 (u * t) = u * t := w64_of (by omega) (by omega)
      have w3 : w64 (1 + u * t) = 1 + u * t := w64_of (by omega) (by omega)
      obtain ⟨n1, o1, q1, q2⟩ := word_l7 (α := α) (l := l) hs n a3 h3 3 k out (1 + u * t) (by omega) (by omega) (by omega) (by omega)
      obtain ⟨n', out', a', h', s1, s2, s3⟩ := word_l3 hl m k o1 (n - 1) a3 h3 k1 (by omega) (by omega) (by omega) (by omega)
      refine ⟨n', out', a', h', s1, by omega, fun b0 r0 => ?_⟩
      rw [spec_l06Draw_l3, dec_lt_t h0, cond_true, i4, dec_le_t i2, dec_lt_t (show v < 2 by omega), Bool.and_self, cond_true, hlet, Option.bind_some, j4, k4, w2, w3, q2, w]
      exact s3 b0 r0
    · refine ⟨n, out, a, h, ha, by omega, fun b2 r0 => ?_⟩
      rw [spec_l06Draw_l3, dec_lt_f (by omega)]
      rfl
  | _, 0, _, _, _, _, _, _, _, _, hk => by omega

theorem l14_eq (k : Nat) (out : ByteArray) (b4 b5' : Int) (l : List Int) (b5 : ByteArray → Int → Int → List Int → Option α) (r0 : ByteArray → Int → Int → Option α) : spec_l06Draw_l14 (k + 1) out b4 b5' l b5 r0 = bif decide ((((ByteArray.size out) : Nat) : Int) < 201) then (bif decide (ByteArray.size out + ByteArray.size (bs [82]) ≤ big) then spec_l06Draw_l14 k (out ++ (bs [82])) b4 b5' l b5 r0 else none) else b5 out b4 b5' l := rfl

theorem word_l14 {l : List Int} (b4 b5' : Int) : ∀ (m k : Nat) (out : ByteArray), (201 : Int) ≤ (out.size : Int) + (m : Int) → m < k → out.size + m ≤ 60000 →
    ∃ out' : ByteArray, out'.size ≤ out.size + m ∧ ∀ (b5 : ByteArray → Int → Int → List Int → Option α) r0, spec_l06Draw_l14 k out b4 b5' l b5 r0 = b5 out' b4 b5' l
  | 0, k + 1, out => by
    intro h hk ho
    refine ⟨out, by omega, fun b2 r0 => ?_⟩
    rw [l14_eq, dec_lt_f (by omega)]
    rfl
  | m + 1, k + 1, out => by
    intro h hk ho
    by_cases h0 : (out.size : Int) < 201
    · have hd : decide (out.size + (bs [82]).size ≤ big) = true := decide_eq_true (by rw [big_val, bs1]; omega)
      obtain ⟨out', q1, q2⟩ := word_l14 (l := l) b4 b5' m k (out ++ bs [82]) (by rw [ByteArray.size_append, bs1]; omega) (by omega) (by rw [ByteArray.size_append, bs1]; omega)
      rw [ByteArray.size_append, bs1] at q1
      refine ⟨out', by omega, fun b2 r0 => ?_⟩
      rw [l14_eq, dec_lt_t h0, cond_true, hd, cond_true]
      exact q2 b2 r0
    · refine ⟨out, by omega, fun b2 r0 => ?_⟩
      rw [l14_eq, dec_lt_f (by omega)]
      rfl
  | _, 0, _ => by
    intro _ hk _
    omega

theorem word_ok {l : List Int} (hl : IsCode l) {a : Int} (ha : AtC l a) (k : Nat) (hk : 2000 < k) (h : Int) {most : Int} (h0 : 0 ≤ most) (h1 : most ≤ 500) : ∃ w a' h', AtC l a' ∧ w.size ≤ 10000 ∧ ∀ r : ByteArray → Int → Int → Option α, spec_l06Draw k l a h most r = r w a' h' := by
  have w : w64 (most + 1) = most + 1 := w64_of (by omega) (by omega)
  obtain ⟨v, a1, h1', i1, i2, i3, i4⟩ := next_ok (α := α) hl ha k h (most + 1)
  have e0 : (bs []).size = 0 := rfl
  obtain ⟨n', o1, a2, h2, q1, q2, q3⟩ := word_l3 (α := α) hl 501 k (bs []) v a1 h1' i1 (by omega) (by omega) (by rw [e0]; omega) (by omega)
  rw [e0] at q2
  obtain ⟨u, a3, h3, k1, k2, k3, k4⟩ := next_ok (α := α) hl q1 k h2 40
  have hd : decide (o1.size + (bs [88]).size ≤ big) = true := decide_eq_true (by rw [big_val, bs1]; omega)
  by_cases u0 : u = 0
  · refine ⟨o1 ++ bs [88], a3, h3, k1, by rw [ByteArray.size_append, bs1]; omega, fun r => ?_⟩
    unfold spec_l06Draw
    rw [w, i4, q3, k4, decide_eq_true u0, cond_true, hd, cond_true]
  · by_cases u1 : u = 1
    · obtain ⟨o2, s1, s2⟩ := word_l14 (α := α) (l := l) a3 h3 201 k o1 (by omega) (by omega) (by omega)
      refine ⟨o2, a3, h3, k1, by omega, fun r => ?_⟩
      unfold spec_l06Draw
      rw [w, i4, q3, k4, decide_eq_false u0, cond_false, decide_eq_true u1, cond_true, s2]
    · refine ⟨o1, a3, h3, k1, by omega, fun r => ?_⟩
      unfold spec_l06Draw
      rw [w, i4, q3, k4, decide_eq_false u0, cond_false, decide_eq_false u1, cond_false]

theorem times_eq (k : Nat) (m m1 m2 m3 n n1 n2 n3 : Int) (r : Int → Int → Int → Int → Option α) : spec_l01Times k m m1 m2 m3 n n1 n2 n3 r = r (w64 ((w64 (m * n)) + (w64 (m1 * n2)))) (w64 ((w64 (m * n1)) + (w64 (m1 * n3)))) (w64 ((w64 (m2 * n)) + (w64 (m3 * n2)))) (w64 ((w64 (m2 * n1)) + (w64 (m3 * n3)))) := rfl

theorem wmat_l3 (w : ByteArray) (hw : w.size ≤ 1000000) (x x1 x2 x3 : Int) (b0 : ByteArray → Int → Int → Int → Int → Int → Int → Int → Int → Int → Option α) : ∀ (m k i : Nat) (o o1 o2 o3 : Int), i + m = w.size → m < k →
    ∃ (p q u v : Int) (ok : Bool), ∀ r0 : Int → Int → Int → Int → Bool → Option α, spec_l06Matrix_l3 k w i x x1 x2 x3 o o1 o2 o3 (fun _ _ _ _ _ _ out4 out5 out6 out7 => r0 out4 out5 out6 out7 true) r0 = r0 p q u v ok
  | 0, k + 1, i, o, o1, o2, o3, hi, hk => by
    refine ⟨o, o1, o2, o3, true, fun r0 => ?_⟩
    rw [spec_l06Matrix_l3, dec_lt_f (by omega)]
    rfl
  | m + 1, k + 1, i, o, o1, o2, o3, hi, hk => by
    have e1 : w64 ((i : Int) + 1) = ((i + 1 : Nat) : Int) := by rw [w64_of (by omega) (by omega)]; omega
    obtain ⟨c, hc⟩ : ∃ c, (w.data.toList)[i]? = some c := ⟨_, List.getElem?_eq_getElem (by
      have : w.data.toList.length = w.size := Array.length_toList
      omega)⟩
    by_cases h82 : ((c.toNat : Nat) : Int) = 82
    · cases hm : (crd (w64 ((w64 (o * 1)) + (w64 (o1 * 0)))) && (crd (w64 ((w64 (o * 1)) + (w64 (o1 * 1)))) && (crd (w64 ((w64 (o2 * 1)) + (w64 (o3 * 0)))) && crd (w64 ((w64 (o2 * 1)) + (w64 (o3 * 1))))))) with
      | false =>
        refine ⟨0, 0, 0, 0, false, fun r0 => ?_⟩
        rw [spec_l06Matrix_l3, dec_lt_t (by omega), dec_le_t (by omega), cond_true, cond_true, Int.toNat_natCast, hc, Option.bind_some, decide_eq_true h82, cond_true]
        rw [times_eq, spec_l01Matrix_eq, hm]
        rfl
      | true =>
        obtain ⟨p, q, u, v, ok, e⟩ := wmat_l3 w hw x x1 x2 x3 b0 m k (i + 1) (w64 ((w64 (o * 1)) + (w64 (o1 * 0)))) (w64 ((w64 (o * 1)) + (w64 (o1 * 1)))) (w64 ((w64 (o2 * 1)) + (w64 (o3 * 0)))) (w64 ((w64 (o2 * 1)) + (w64 (o3 * 1)))) (by omega) (by omega)
        refine ⟨p, q, u, v, ok, fun r0 => ?_⟩
        rw [spec_l06Matrix_l3, dec_lt_t (by omega), dec_le_t (by omega), cond_true, cond_true, Int.toNat_natCast, hc, Option.bind_some, decide_eq_true h82, cond_true]
        rw [times_eq, spec_l01Matrix_eq, hm, e1]
        exact e r0
    · cases hm : (crd (w64 ((w64 (o * 1)) + (w64 (o1 * 1)))) && (crd (w64 ((w64 (o * 0)) + (w64 (o1 * 1)))) && (crd (w64 ((w64 (o2 * 1)) + (w64 (o3 * 1)))) && crd (w64 ((w64 (o2 * 0)) + (w64 (o3 * 1))))))) with
      | false =>
        refine ⟨0, 0, 0, 0, false, fun r0 => ?_⟩
        rw [spec_l06Matrix_l3, dec_lt_t (by omega), dec_le_t (by omega), cond_true, cond_true, Int.toNat_natCast, hc, Option.bind_some, decide_eq_false h82, cond_false]
        rw [times_eq, spec_l01Matrix_eq, hm]
        rfl
      | true =>
        obtain ⟨p, q, u, v, ok, e⟩ := wmat_l3 w hw x x1 x2 x3 b0 m k (i + 1) (w64 ((w64 (o * 1)) + (w64 (o1 * 1)))) (w64 ((w64 (o * 0)) + (w64 (o1 * 1)))) (w64 ((w64 (o2 * 1)) + (w64 (o3 * 1)))) (w64 ((w64 (o2 * 0)) + (w64 (o3 * 1)))) (by omega) (by omega)
        refine ⟨p, q, u, v, ok, fun r0 => ?_⟩
        rw [spec_l06Matrix_l3, dec_lt_t (by omega), dec_le_t (by omega), cond_true, cond_true, Int.toNat_natCast, hc, Option.bind_some, decide_eq_false h82, cond_false]
        rw [times_eq, spec_l01Matrix_eq, hm, e1]
        exact e r0
  | _, 0, _, _, _, _, _, _, hk => by omega

theorem wmat_ok (w : ByteArray) (hw : w.size ≤ 1000000) (k : Nat) (hk : w.size < k) : ∃ (p q u v : Int) (ok : Bool), ∀ r : Int → Int → Int → Int → Bool → Option α, spec_l06Matrix k w r = r p q u v ok := by
  obtain ⟨p, q, u, v, ok, e⟩ := wmat_l3 (α := α) w hw 0 0 0 0 (fun _ _ _ _ _ _ _ _ _ _ => none) w.size k 0 1 0 0 1 (by omega) hk
  exact ⟨p, q, u, v, ok, fun r => by unfold spec_l06Matrix; exact e r⟩

theorem conj_ok (k : Nat) (m m1 m2 m3 u u1 u2 u3 : Int) : ∃ a b c d e, ∀ r : Int → Int → Int → Int → Int → Option α, spec_ConjugateMatrix k m m1 m2 m3 u u1 u2 u3 r = r a b c d e := by
  simp only [spec_ConjugateMatrix, spec_l01Matrix_eq, spec_l01Unit, spec_l01DetOf, spec_l01Minus, spec_l01Times]
  generalize (crd m && (crd m1 && (crd m2 && crd m3))) = b1
  generalize (crd u && (crd u1 && (crd u2 && crd u3))) = b2
  generalize hv : w64 (w64 (u * u3) - w64 (u1 * u2)) = v
  generalize w64 (w64 (w64 (v * u3) * m) + w64 (w64 (w64 (0 - v) * u1) * m2)) = p
  generalize w64 (w64 (w64 (v * u3) * m1) + w64 (w64 (w64 (0 - v) * u1) * m3)) = p1
  generalize w64 (w64 (w64 (w64 (0 - v) * u2) * m) + w64 (w64 (v * u) * m2)) = p2
  generalize w64 (w64 (w64 (w64 (0 - v) * u2) * m1) + w64 (w64 (v * u) * m3)) = p3
  generalize (crd p && (crd p1 && (crd p2 && crd p3))) = b3
  generalize w64 (w64 (p * u) + w64 (p1 * u2)) = t
  generalize w64 (w64 (p * u1) + w64 (p1 * u3)) = t1
  generalize w64 (w64 (p2 * u) + w64 (p3 * u2)) = t2
  generalize w64 (w64 (p2 * u1) + w64 (p3 * u3)) = t3
  generalize (crd t && (crd t1 && (crd t2 && crd t3))) = b4
  cases b1 with
  | false => exact ⟨_, _, _, _, _, fun r => rfl⟩
  | true => cases b2 with
    | false => exact ⟨_, _, _, _, _, fun r => rfl⟩
    | true =>
      cases decide (v = 1) with
      | true => cases b3 with
        | false => exact ⟨_, _, _, _, _, fun r => rfl⟩
        | true => cases b4 with
          | false => exact ⟨_, _, _, _, _, fun r => rfl⟩
          | true => exact ⟨_, _, _, _, _, fun r => rfl⟩
      | false => cases decide (v = -1) with
        | false => exact ⟨_, _, _, _, _, fun r => rfl⟩
        | true => cases b3 with
          | false => exact ⟨_, _, _, _, _, fun r => rfl⟩
          | true => cases b4 with
            | false => exact ⟨_, _, _, _, _, fun r => rfl⟩
            | true => exact ⟨_, _, _, _, _, fun r => rfl⟩

theorem dmatrix_ok {l : List Int} (hl : IsCode l) {a : Int} (ha : AtC l a) (k : Nat) (hk : 20000 < k) (h : Int) : ∃ p q u v a' h', AtC l a' ∧ ∀ r : Int → Int → Int → Int → Int → Int → Option α, spec_l06DrawMatrix k l a h r = r p q u v a' h' := by
  obtain ⟨v, a1, h1, i1, i2, i3, i4⟩ := next_ok (α := α) hl ha k h 8
  unfold spec_l06DrawMatrix
  simp only [i4]
  by_cases v0 : v = 0
  · obtain ⟨p, q, u, w, a2, h2, j1, j2⟩ := any_ok (α := α) hl i1 k (by omega) h1
    exact ⟨p, q, u, w, a2, h2, j1, fun r => by rw [decide_eq_true v0, cond_true, j2]⟩
  · by_cases v1 : v = 1
    · obtain ⟨p, q, u, w, a2, h2, j1, j2⟩ := unitM_ok (α := α) hl i1 k (by omega) h1
      exact ⟨p, q, u, w, a2, h2, j1, fun r => by rw [decide_eq_false v0, cond_false, decide_eq_true v1, cond_true, j2]⟩
    · by_cases v2 : v = 2
      · obtain ⟨p, a2, h2, j1, j2, j3, j4⟩ := next_ok (α := α) hl i1 k h1 300
        exact ⟨1, p, 0, 1, a2, h2, j1, fun r => by rw [decide_eq_false v0, cond_false, decide_eq_false v1, cond_false, decide_eq_true v2, cond_true, j4]⟩
      · obtain ⟨w, a2, h2, j1, j2, j3⟩ := word_ok (α := α) hl i1 k (by omega) h1 (most := 6) (by omega) (by omega)
        obtain ⟨p, q, u, t, ok, e⟩ := wmat_ok (α := α) w (by omega) k (by omega)
        simp only [decide_eq_false v0, cond_false, decide_eq_false v1, decide_eq_false v2, j3, e]
        cases ok with
        | false => exact ⟨2, 1, 1, 1, a2, h2, j1, fun r => rfl⟩
        | true =>
          obtain ⟨p', q', u', t', a3, h3, k1, k2⟩ := unitM_ok (α := α) hl j1 k (by omega) h2
          obtain ⟨c, a4, h4, m1, m2, m3, m4⟩ := next_ok (α := α) hl k1 k h3 3
          simp only [Bool.not_true, cond_false, k2, m4]
          by_cases c0 : c = 0
          · obtain ⟨z, z1, z2, z3, z4, ez⟩ := conj_ok (α := α) k p q u t p' q' u' t'
            simp only [decide_eq_true c0, cond_true, ez]
            cases decide (z4 = 0) with
            | true => exact ⟨_, _, _, _, a4, h4, m1, fun r => rfl⟩
            | false => exact ⟨_, _, _, _, a4, h4, m1, fun r => rfl⟩
          · simp only [decide_eq_false c0, cond_false]
            exact ⟨_, _, _, _, a4, h4, m1, fun r => rfl⟩

theorem dFormOf_ok {l : List Int} (hl : IsCode l) (k : Nat) (hk : 20000 < k) : ∃ p q u v, ∀ r : Int → Int → Int → Int → Option α, spec_DrawFormOfMatrix k l r = r p q u v := by
  obtain ⟨h, h0, e0⟩ := from_ok (α := α) hl k (by omega)
  obtain ⟨p, q, u, v, a1, h1, _, e1⟩ := dmatrix_ok (α := α) hl h0 k hk h
  exact ⟨p, q, u, v, fun r => by unfold spec_DrawFormOfMatrix; rw [e0, e1]⟩

/-- The cycle of a form, in full. -/
theorem cycle_full {d s x y z : Int} (hf : IsF x y z d s) : ∃ j n, 1 ≤ n ∧ n ≤ 8192 ∧ RedT d s (iterT d s j (x, y, z)) ∧ (∀ i, i < j → redF (iterT d s i (x, y, z)).1 (iterT d s i (x, y, z)).2.1 s = false) ∧ iterT d s n (iterT d s j (x, y, z)) = iterT d s j (x, y, z) ∧
    (∀ k, 1000100 < k → ∀ r : List (Int × Int × Int) → Option α, spec_l06Cycle k x y z r = r (listT d s n (iterT d s j (x, y, z)))) ∧ (∀ k, 1000100 < k → ∀ r : List (Int × Int × Int) → Option α, impl_Form_cycle k x y z r = r (listT d s n (iterT d s j (x, y, z)))) := by
  have hF : FormT d s (x, y, z) := hf
  have hz0 := hf.z0
  have hz1 := hf.z1
  obtain ⟨j, hj, hr, hn⟩ := hF.reduces 1000000 (by show max z (-z) ≤ _; omega)
  have hR : RedT d s (iterT d s j (x, y, z)) := ⟨hF.iter, hr⟩
  obtain ⟨n, n1, n2, n3, n4⟩ := hR.back
  refine ⟨j, n, n1, n2, hR, hn, n3, fun k hk r => ?_, fun k hk r => ?_⟩
  · obtain ⟨m, rfl⟩ : ∃ m, n = m + 1 := ⟨n - 1, by omega⟩
    unfold spec_l06Cycle
    rw [IsF.disc_spec hf, IsF.root_spec hf k (by omega)]
    have e := cyc_l3 j k (x, y, z) (fun d1 w1 x6 x7 x8 => spec_l06Next k x6 x7 x8 d1 w1 fun v6 v7 v8 => spec_l06Cycle_l7 k d1 w1 x6 x7 x8 [(x6, x7, x8)] v6 v7 v8 (fun _ _ _ _ _ out1 _ _ _ => r out1) r) r hF hr hn (by omega)
    refine e.trans ?_
    rw [IsF.next_spec hR.1]
    have e2 := cyc_l7 m k (nextT d s (iterT d s j (x, y, z))) [iterT d s j (x, y, z)] (fun _ _ _ _ _ out1 _ _ _ => r out1) r hR.1.next n3 (fun i hi => n4 (i + 1) (by omega) (by omega)) (by rw [big_val]; simp; omega) (by omega)
    exact e2
  · obtain ⟨m, rfl⟩ : ∃ m, n = m + 1 := ⟨n - 1, by omega⟩
    unfold impl_Form_cycle
    have e := cyc_l1 j k (x, y, z) (fun x6 x7 x8 => impl_Form_next k x6 x7 x8 fun v4 v5 v6 => impl_Form_cycle_l5 k x6 x7 x8 [(x6, x7, x8)] v4 v5 v6 (fun _ _ _ out1 _ _ _ => r out1) r) r hF hr hn (by omega)
    refine e.trans ?_
    rw [IsF.next_impl hR.1 k (by omega)]
    have e2 := cyc_l5 m k (nextT d s (iterT d s j (x, y, z))) [iterT d s j (x, y, z)] (fun _ _ _ out1 _ _ _ => r out1) r hR.1.next n3 (fun i hi => n4 (i + 1) (by omega) (by omega)) (by rw [big_val]; simp; omega) (by omega)
    exact e2

theorem listT_get (d s : Int) : ∀ (n i : Nat) (g : Int × Int × Int), i < n → (listT d s n g)[i]? = some (iterT d s i g)
  | n + 1, 0, g, _ => rfl
  | n + 1, i + 1, g, h => by
    simp only [listT, List.getElem?_cons_succ, iterT]
    exact listT_get d s n i _ (by omega)
  | 0, i, g, h => by omega

theorem IsF.is_impl {x y z d s : Int} (h : IsF x y z d s) (k : Nat) (hk : 64 < k) (r : Bool → Option α) : impl_IsForm k x y z r = r true := by
  have hx : crd x = true := crd_iff.2 ⟨h.x0, h.x1⟩
  have hy : crd y = true := crd_iff.2 ⟨h.y0, h.y1⟩
  have hz : crd z = true := crd_iff.2 ⟨h.z0, h.z1⟩
  have hb : inB d 1 4000 = true := inB_iff.2 ⟨h.d1, h.d2⟩
  have h2 := h.s2
  have hm := mul_bound (A := 63) (B := 63) (a := s) (b := s) (by have := h.s0; omega) h2 (by have := h.s0; omega) h2
  have he : ¬ s * s = d := by have := h.hs; omega
  simp only [impl_IsForm, impl_isCoord_eq, hx, hy, hz, cond_true, h.disc_impl, impl_discOk, impl_in_eq, hb, impl_root_eq k d s _ h.s0 (by omega) (by have := h.hs; omega) h.hs1 (by omega), w64_of (n := s * s) (by omega) (by omega), decide_eq_false he, Bool.not_false]

theorem forms9_l4 (l : List (Int × Int × Int)) (hb : l.length ≤ big) (b0 : Int → (List (Int × Int × Int)) → (List (Int × Int × Int)) → Option α) (r0 : Bool → Option α) : ∀ (rest : List (Int × Int × Int)) (k i : Nat), l.drop i = rest → i ≤ l.length → rest.length < k → laws_forms9_l4 k i l l b0 r0 = b0 l.length l l
  | [], k + 1, i, hd, hi, hk => by
    have h1 := drop_nil hd
    have h2 : i = l.length := by omega
    subst h2
    rw [laws_forms9_l4, dec_lt_f (by omega)]
    rfl
  | e :: rest, k + 1, i, hd, hi, hk => by
    obtain ⟨h1, h2, h3⟩ := drop_cons hd
    have hb' := hb
    rw [big_val] at hb'
    have e1 : w64 ((i : Int) + 1) = ((i + 1 : Nat) : Int) := by rw [w64_of (by omega) (by omega)]; omega
    rw [laws_forms9_l4, dec_lt_t (by omega), dec_le_t (by omega), cond_true, Bool.and_true, cond_true, Int.toNat_natCast, h1, Option.bind_some, cond_true, Option.bind_some, e1]
    simp only [decide_true, Bool.and_self, Bool.not_true, cond_false]
    exact forms9_l4 l hb b0 r0 rest k (i + 1) h2 (by omega) (by simp at hk; omega)
  | _, 0, _, _, _, hk => by omega

theorem forms9_same (k : Nat) (l : List (Int × Int × Int)) (hb : l.length ≤ big) (hk : l.length < k) (r : Bool → Option α) : laws_forms9 k l l r = r true := by
  unfold laws_forms9
  rw [decide_eq_true rfl, Bool.not_true, cond_false]
  exact forms9_l4 l hb _ r l k 0 (by simp) (by omega) hk

/-- Both tests of forms being alike. -/
theorem equiv_both (k : Nat) (hk : 1000100 < k) (a b c d e f : Int) : ∃ v w, (∀ r : Bool → Int → Option α, spec_AreEquivalentForms k a b c d e f r = r v w) ∧ (∀ r : Bool → Int → Option α, impl_AreEquivalentForms k a b c d e f r = r v w) := by
  simp only [spec_AreEquivalentForms, impl_AreEquivalentForms]
  rcases form_cases (α := α) k (by omega) a b c with ⟨h1, h2⟩ | ⟨d1, s1, hf, h1, h2⟩
  · exact ⟨false, 1, fun r => by simp [h1], fun r => by simp [h2]⟩
  · rcases form_cases (α := α) k (by omega) d e f with ⟨g1, g2⟩ | ⟨d2, s2, hg, g1, g2⟩
    · exact ⟨false, 1, fun r => by simp [h1, g1], fun r => by simp [h2, g2]⟩
    · by_cases hd : d1 = d2
      · subst hd
        obtain ⟨n, g, n1, n2, _, c1, c2⟩ := cycle_eq (α := α) hf
        obtain ⟨m, p, m1, m2, _, e1, e2⟩ := cycle_eq (α := α) hg
        obtain ⟨m', rfl⟩ : ∃ m', m = m' + 1 := ⟨m - 1, by omega⟩
        have hlen : (listT d1 s1 n g).length = n := listT_length _ _ _ _
        have hb : (listT d1 s1 n g).length ≤ big := by rw [hlen, big_val]; omega
        refine ⟨decide (p ∈ listT d1 s1 n g), 0, fun r => ?_, fun r => ?_⟩
        · simp only [h1, g1, Bool.not_true, cond_false, hf.disc_spec, hg.disc_spec, decide_true, c1 k hk, e1 k hk, listT_length]
          rw [dec_lt_t (by omega), Bool.and_self, cond_true]
          simp only [listT, List.getElem?_cons_zero, Option.bind_some]
          rw [has_eq p k _ _ hb (by omega)]
        · simp only [h2, g2, Bool.not_true, cond_false, hf.disc_impl, hg.disc_impl, decide_true, cond_true, c2 k hk, e2 k hk, listT_length]
          rw [dec_lt_t (by omega), Bool.and_self, cond_true]
          simp only [listT, List.getElem?_cons_zero, Option.bind_some]
          rw [contains_eq p k _ _ hb (by omega)]
      · exact ⟨false, 0, fun r => by simp [h1, g1, hf.disc_spec, hg.disc_spec, hd], fun r => by simp [h2, g2, hf.disc_impl, hg.disc_impl, hd]⟩

/-- A form and the next one are alike. -/
theorem next_alike {x y z d s : Int} (hf : IsF x y z d s) (k : Nat) (hk : 1000100 < k) (r : Bool → Int → Option α) : impl_AreEquivalentForms k x y z (nextT d s (x, y, z)).1 (nextT d s (x, y, z)).2.1 (nextT d s (x, y, z)).2.2 r = r true 0 := by
  have hF : FormT d s (x, y, z) := hf
  have hg := hF.next
  obtain ⟨j, n, n1, n2, hR, hn, hback, _, c2⟩ := cycle_full (α := α) hf
  obtain ⟨i, m, m1, m2, hR2, hn2, _, _, e2⟩ := cycle_full (α := α) (x := (nextT d s (x, y, z)).1) (y := (nextT d s (x, y, z)).2.1) (z := (nextT d s (x, y, z)).2.2) hg
  have hp : iterT d s i (nextT d s (x, y, z)) ∈ listT d s n (iterT d s j (x, y, z)) := by
    cases hr : redF x y s with
    | true =>
      have hj : j = 0 := by
        rcases Nat.eq_zero_or_pos j with h | h
        · exact h
        · have := hn 0 h
          simp only [iterT] at this
          rw [hr] at this
          cases this
      subst hj
      have hRf : RedT d s (x, y, z) := ⟨hF, hr⟩
      have hi : i = 0 := by
        rcases Nat.eq_zero_or_pos i with h | h
        · exact h
        · have := hn2 0 h
          simp only [iterT] at this
          rw [hRf.next.2] at this
          cases this
      subst hi
      simp only [iterT] at hback ⊢
      rcases Nat.lt_or_ge 1 n with h | h
      · exact List.mem_of_getElem? (listT_get d s n 1 (x, y, z) h)
      · have : n = 1 := by omega
        subst this
        simp only [iterT] at hback
        rw [hback]
        exact List.mem_of_getElem? (listT_get d s 1 0 (x, y, z) (by omega))
    | false =>
      obtain ⟨j', rfl⟩ : ∃ j', j = j' + 1 := by
        rcases Nat.eq_zero_or_pos j with h | h
        · subst h
          have := hR.2
          simp only [iterT] at this
          rw [hr] at this
          cases this
        · exact ⟨j - 1, by omega⟩
      have hij : i = j' := by
        rcases Nat.lt_trichotomy i j' with h | h | h
        · have := hn (i + 1) (by omega)
          simp only [iterT] at this
          rw [hR2.2] at this
          cases this
        · exact h
        · have := hn2 j' h
          have h2 := hR.2
          simp only [iterT] at h2
          rw [h2] at this
          cases this
      subst hij
      exact List.mem_of_getElem? (listT_get d s n 0 _ (by omega))
  obtain ⟨m', rfl⟩ : ∃ m', m = m' + 1 := ⟨m - 1, by omega⟩
  have hlen : (listT d s n (iterT d s j (x, y, z))).length = n := listT_length _ _ _ _
  have hb : (listT d s n (iterT d s j (x, y, z))).length ≤ big := by rw [hlen, big_val]; omega
  simp only [impl_AreEquivalentForms, hf.is_impl k (by omega), IsF.is_impl hg k (by omega), Bool.not_true, cond_false, hf.disc_impl, IsF.disc_impl hg, decide_true, cond_true, c2 k hk, e2 k hk, listT_length]
  rw [dec_lt_t (by omega), Bool.and_self, cond_true]
  simp only [listT, List.getElem?_cons_zero, Option.bind_some]
  rw [contains_eq _ k _ _ hb (by omega), decide_eq_true hp]

/-- The reduced forms and their cycles' number, from both. -/
theorem reduced_class (k : Nat) (hk : 100010000 < k) (d : Int) : (∃ e : Int, e ≠ 0 ∧ (∀ (r0 : Int → Option α) r1, impl_ReducedForms k d r0 r1 = r0 e) ∧ (∀ (r0 : Int → Option α) r1, spec_ReducedForms k d r0 r1 = r0 e) ∧ (∀ r : Int → Int → Option α, impl_ClassNumber k d r = r 0 e) ∧ (∀ r : Int → Int → Option α, spec_ClassNumber k d r = r 0 e)) ∨
    ∃ s l count, (∀ x ∈ l, RedT d s x) ∧ l.length ≤ 10000 ∧ (1 : Int) ≤ count ∧ count ≤ l.length ∧ (∀ (r0 : Int → Option α) r1, impl_ReducedForms k d r0 r1 = r1 l 0) ∧ (∀ (r0 : Int → Option α) r1, spec_ReducedForms k d r0 r1 = r1 l 0) ∧ (∀ r : Int → Int → Option α, impl_ClassNumber k d r = r count 0) ∧ (∀ r : Int → Int → Option α, spec_ClassNumber k d r = r count 0) := by
  rcases forms_both (α := α) d with ⟨e, he, _, h1, h2⟩ | ⟨s, l, hl, hll, hne, h1, h2, h3⟩
  · exact .inl ⟨e, he, fun r0 r1 => by simp [impl_ReducedForms, h2 k (by omega), he], fun r0 r1 => by simp [spec_ReducedForms, h1 k (by omega)], fun r => by simp [impl_ClassNumber, h2 k (by omega), he], fun r => by simp [spec_ClassNumber, h1 k (by omega), he]⟩
  · obtain ⟨count, ks', vs', met', ⟨q1, q2, q3⟩, g1, g2⟩ := cls_loop (α := α) l hl hll l k 0 0 [] [] [] (by simp) (by omega) SeenF.nil (by simp) (by omega) (by omega) (by omega)
    have g1' : ∀ (b0 : Int → Int → (List (Int × Int × Int)) → (List (Int × Int × Int)) → Option α) r0, spec_ClassNumber_l6 k 0 0 l [] b0 r0 = b0 count l.length l met' := g1
    have g2' : ∀ (b0 : Int → Int → Int → (List (Int × Int × Int)) → List Bool → (List (Int × Int × Int)) → Option α) r0, impl_ClassNumber_l6 k 0 l.length 0 [] [] l b0 r0 = b0 count l.length l.length ks' vs' l := g2
    obtain ⟨e, rest, rfl⟩ := List.exists_cons_of_ne_nil hne
    have hc := q3 e rest rfl (by simp)
    refine .inr ⟨s, e :: rest, count, hl, hll, by omega, by omega, fun r0 r1 => ?_, fun r0 r1 => ?_, fun r => ?_, fun r => ?_⟩
    · simp [impl_ReducedForms, h2 k (by omega), h3 k (by omega)]
    · simp [spec_ReducedForms, h1 k (by omega)]
    · simp only [impl_ClassNumber, h2 k (by omega), h3 k (by omega), decide_true, Bool.not_true, cond_false]
      rw [g2']
    · simp only [spec_ClassNumber, h1 k (by omega), decide_true, Bool.not_true, cond_false]
      rw [g1']

/-- The form of a matrix, from both. -/
theorem formOf_both (k : Nat) (hk : 64 < k) (m m1 m2 m3 : Int) : (∃ e : Int, e ≠ 0 ∧ (∀ r : Int → Int → Int → Int → Option α, impl_FormOfMatrix k m m1 m2 m3 r = r 0 0 0 e) ∧ (∀ r : Int → Int → Int → Int → Option α, spec_FormOfMatrix k m m1 m2 m3 r = r 0 0 0 e)) ∨
    ∃ x y z, (∃ s, IsF x y z (w64 ((w64 ((w64 (m + m3)) * (w64 (m + m3)))) - 4)) s) ∧ (∀ r : Int → Int → Int → Int → Option α, impl_FormOfMatrix k m m1 m2 m3 r = r x y z 0) ∧ (∀ r : Int → Int → Int → Int → Option α, spec_FormOfMatrix k m m1 m2 m3 r = r x y z 0) := by
  simp only [impl_FormOfMatrix, spec_FormOfMatrix, impl_IsMatrix_eq k (by omega), spec_l01Matrix_eq, impl_Matrix_det, impl_det, spec_l01DetOf]
  cases hc : (crd m && (crd m1 && (crd m2 && crd m3))) with
  | false => exact .inl ⟨1, by decide, fun r => rfl, fun r => rfl⟩
  | true =>
    simp only [Bool.and_eq_true, crd_iff] at hc
    obtain ⟨⟨a0, a1⟩, ⟨b0, b1⟩, ⟨c0, c1⟩, ⟨d0, d1⟩⟩ := hc
    have p1 := mul_bound (A := 1000000) (B := 1000000) a0 a1 d0 d1
    have p2 := mul_bound (A := 1000000) (B := 1000000) b0 b1 c0 c1
    have p3 := mul_bound (a := m + m3) (b := m + m3) (A := 2000000) (B := 2000000) (by omega) (by omega) (by omega) (by omega)
    have w1 : w64 (m * m3) = m * m3 := w64_of (by omega) (by omega)
    have w2 : w64 (m1 * m2) = m1 * m2 := w64_of (by omega) (by omega)
    have w3 : w64 (m * m3 - m1 * m2) = m * m3 - m1 * m2 := w64_of (by omega) (by omega)
    have w4 : w64 (m3 - m) = m3 - m := w64_of (by omega) (by omega)
    have w5 : w64 (0 - m1) = -m1 := by rw [w64_of (by omega) (by omega)]; omega
    have w6 : w64 (m + m3) = m + m3 := w64_of (by omega) (by omega)
    have w7 : w64 ((m + m3) * (m + m3)) = (m + m3) * (m + m3) := w64_of (by omega) (by omega)
    have w8 : w64 ((m + m3) * (m + m3) - 4) = (m + m3) * (m + m3) - 4 := w64_of (by omega) (by omega)
    simp only [w1, w2, w3, w4, w5, w6, w7, w8, Bool.not_true, cond_false]
    by_cases hd : m * m3 - m1 * m2 = 1
    · rcases form_cases (α := α) k hk m2 (m3 - m) (-m1) with ⟨h1, h2⟩ | ⟨d, s, hf, h1, h2⟩
      · exact .inl ⟨5, by decide, fun r => by simp [hd, h2], fun r => by simp [hd, h1]⟩
      · refine .inr ⟨m2, m3 - m, -m1, ⟨s, ?_⟩, fun r => by simp [hd, h2], fun r => by simp [hd, h1]⟩
        have hdd := hf.hd
        have : d = (m + m3) * (m + m3) - 4 := by
          rw [hdd]
          have e1 : (m3 - m) * (m3 - m) = m3 * m3 - 2 * (m * m3) + m * m := by
            rw [Int.sub_mul, Int.mul_sub, Int.mul_sub, Int.mul_comm m3 m]; omega
          have e2 : (m + m3) * (m + m3) = m * m + 2 * (m * m3) + m3 * m3 := by
            rw [Int.add_mul, Int.mul_add, Int.mul_add, Int.mul_comm m3 m]; omega
          have e3 : 4 * m2 * -m1 = -(4 * (m1 * m2)) := by rw [Int.mul_neg, Int.mul_assoc, Int.mul_comm m2 m1]
          omega
        rw [← this]
        exact hf
    · exact .inl ⟨5, by decide, fun r => by simp [hd], fun r => by simp [hd]⟩

/-- What the law's end asks for. -/
def EndF (k : Nat) (r : Bool → Option α) (x y z one two disc : Int) (red : Bool) (n0 n1 n2 : Int) (cyc : List (Int × Int × Int)) : Prop :=
  laws_FnForms_B23 k one two disc red x y z n0 n1 n2 cyc r = r true

theorem end_none (k : Nat) (r : Bool → Option α) (x y z two disc : Int) (red : Bool) (cyc : List (Int × Int × Int)) : EndF k r x y z 1 two disc red 0 0 0 cyc := by
  unfold EndF
  simp [laws_FnForms_B23, laws_FnForms_b23]

theorem end_form {x y z d s : Int} (hf : IsF x y z d s) (k : Nat) (hk : 1000100 < k) (r : Bool → Option α) : ∃ l, (∀ r : List (Int × Int × Int) → Option α, spec_l06Cycle k x y z r = r l) ∧ (∀ r : List (Int × Int × Int) → Option α, impl_Form_cycle k x y z r = r l) ∧ l.length ≤ 10000 ∧
    EndF k r x y z 0 0 d (redF x y s) (nextT d s (x, y, z)).1 (nextT d s (x, y, z)).2.1 (nextT d s (x, y, z)).2.2 l := by
  have hF : FormT d s (x, y, z) := hf
  have hg := hF.next
  obtain ⟨j, n, n1, n2, hR, hn, hback, c1, c2⟩ := cycle_full (α := α) hf
  refine ⟨_, c1 k hk, c2 k hk, by rw [listT_length]; omega, ?_⟩
  have hal := next_alike (α := α) hf k hk
  have hdisc : ∀ r : Int → Int → Option α, impl_DiscriminantOf k (nextT d s (x, y, z)).1 (nextT d s (x, y, z)).2.1 (nextT d s (x, y, z)).2.2 r = r d 0 := fun r => by
    simp only [impl_DiscriminantOf, IsF.is_impl hg k (by omega), Bool.not_true, cond_false, IsF.disc_impl hg]
  have hlen : (listT d s n (iterT d s j (x, y, z))).length = n := listT_length _ _ _ _
  have h0 := listT_get d s n 0 (iterT d s j (x, y, z)) (by omega)
  have hl := listT_get d s n (n - 1) (iterT d s j (x, y, z)) (by omega)
  have hlast : nextT d s (iterT d s (n - 1) (iterT d s j (x, y, z))) = iterT d s j (x, y, z) := by
    rw [← iterT_succ, show n - 1 + 1 = n by omega]
    exact hback
  have hFl : FormT d s (iterT d s (n - 1) (iterT d s j (x, y, z))) := hR.1.iter
  have hcy : redF x y s = true → iterT d s j (x, y, z) = (x, y, z) := fun hr => by
    have hj : j = 0 := by
      rcases Nat.eq_zero_or_pos j with h | h
      · exact h
      · have := hn 0 h
        simp only [iterT] at this
        rw [hr] at this
        cases this
    subst hj
    rfl
  generalize listT d s n (iterT d s j (x, y, z)) = L at hlen h0 hl
  generalize iterT d s (n - 1) (iterT d s j (x, y, z)) = last at hl hlast hFl
  simp only [iterT] at h0
  generalize iterT d s j (x, y, z) = g at h0 hlast hcy
  have w : w64 ((n : Int) - 1) = ((n - 1 : Nat) : Int) := by rw [w64_of (by omega) (by omega)]; omega
  have hnx : ∀ r : Int → Int → Int → Int → Option α, impl_NextForm k last.1 last.2.1 last.2.2 r = r g.1 g.2.1 g.2.2 0 := fun r => by
    have e := IsF.next_impl (α := α) hFl k (by omega)
    simp only [impl_NextForm, IsF.is_impl hFl k (by omega), Bool.not_true, cond_false]
    refine (e _).trans ?_
    rw [← hlast]
    rfl
  unfold EndF
  simp only [laws_FnForms_B23, laws_FnForms_b23, laws_FnForms_B25, laws_FnForms_b25, hdisc, hal, decide_true, Bool.not_true, cond_false, hlen]
  rw [show decide ((n : Int) = 0) = false from decide_eq_false (by omega), cond_false, w, dec_le_t (show (0 : Int) ≤ ((n - 1 : Nat) : Int) by omega), dec_lt_t (show ((n - 1 : Nat) : Int) < (n : Int) by omega), dec_lt_t (show (0 : Int) < (n : Int) by omega), Int.toNat_natCast, hl]
  simp only [Bool.and_self, cond_true, Option.bind_some, hnx, decide_true, h0]
  cases hr : redF x y s with
  | false => rfl
  | true =>
    rw [hcy hr]
    simp

theorem mid_list {d' s' : Int} (k : Nat) (hk : 64 < k) (r : Bool → Option α) (x y z one two disc : Int) (red : Bool) (n0 n1 n2 : Int) (cyc L : List (Int × Int × Int)) (hL : ∀ x ∈ L, RedT d' s' x) (hE : EndF k r x y z one two disc red n0 n1 n2 cyc) :
    laws_FnForms_B22 k one two disc red x y z n0 n1 n2 cyc L r = r true := by
  have g : ∀ i : Nat, (i : Int) < L.length → ∃ e, L[i]? = some e ∧ ∀ r : Bool → Int → Option α, impl_IsReducedForm k e.1 e.2.1 e.2.2 r = r true 0 := fun i hi => by
    have hlt : i < L.length := by omega
    obtain ⟨hf, hr⟩ := hL L[i] (List.getElem_mem hlt)
    refine ⟨L[i], List.getElem?_eq_getElem hlt, fun r => ?_⟩
    simp only [impl_IsReducedForm, IsF.is_impl hf k hk, Bool.not_true, cond_false, IsF.red_impl hf k hk, hr]
  unfold EndF at hE
  simp only [laws_FnForms_B22, laws_FnForms_b22, hE]
  by_cases h0 : (0 : Int) < L.length
  · obtain ⟨e0, a0, b0⟩ := g 0 h0
    simp only [dec_lt_t h0, cond_true, Bool.and_self, a0, Option.bind_some, b0, decide_true, Bool.not_true, cond_false]
    by_cases h1 : (1 : Int) < L.length
    · obtain ⟨e1, a1, b1⟩ := g 1 h1
      simp only [dec_lt_t h1, cond_true, Bool.and_self, a1, Option.bind_some, b1, decide_true, Bool.not_true, cond_false]
      by_cases h2 : (2 : Int) < L.length
      · obtain ⟨e2, a2, b2⟩ := g 2 h2
        simp only [dec_lt_t h2, cond_true, Bool.and_self, a2, Option.bind_some, b2, decide_true, Bool.not_true, cond_false]
        by_cases h3 : (3 : Int) < L.length
        · obtain ⟨e3, a3, b3⟩ := g 3 h3
          simp only [dec_lt_t h3, cond_true, Bool.and_self, a3, Option.bind_some, b3, decide_true, Bool.not_true, cond_false]
          cases decide (4 < (L.length : Int)) <;> rfl
        · simp only [decide_eq_false h3, cond_false]
      · simp only [decide_eq_false h2, cond_false]
    · simp only [decide_eq_false h1, cond_false]
  · simp only [decide_eq_false h0, cond_false]

theorem tail_forms {l : List Int} (hl : IsCode l) (k : Nat) (hk : 100010000 < k) (r : Bool → Option α) (x y z one two disc : Int) (red : Bool) (n0 n1 n2 : Int) (cyc : List (Int × Int × Int)) (hE : EndF k r x y z one two disc red n0 n1 n2 cyc) :
    laws_FnForms_B9 k one two disc red l x y z n0 n1 n2 cyc r = r true := by
  obtain ⟨a, b, c, d, e, f, e1⟩ := dEquiv_ok (α := α) hl k (by omega)
  obtain ⟨v, w, e2, e3⟩ := equiv_both (α := α) k (by omega) a b c d e f
  simp only [laws_FnForms_B9, laws_FnForms_b9, e1, e2, e3, decide_true, Bool.not_true, cond_false, beq_self_eq_true]
  obtain ⟨D, e4⟩ := dReducedForms_ok (α := α) hl k (by omega)
  obtain ⟨m, m1, m2, m3, e5⟩ := dFormOf_ok (α := α) hl k (by omega)
  have hE' : laws_FnForms_B23 k one two disc red x y z n0 n1 n2 cyc r = r true := hE
  have fo := formOf_both (α := α) k (by omega) m m1 m2 m3
  rcases reduced_class (α := α) k hk D with ⟨q, hq, r1, r2, r3, r4⟩ | ⟨s, L, count, hL, hlen, c1, c2, r1, r2, r3, r4⟩
  · have f9 := forms9_same (α := α) k [] (by simp) (by simp; omega)
    simp only [laws_FnForms_B11, laws_FnForms_b11, e4, r1, laws_FnForms_B12, laws_FnForms_b12, r2, laws_FnForms_B13, laws_FnForms_b13, f9, decide_true, Bool.not_true, cond_false, laws_FnForms_B15, laws_FnForms_b15, r3, r4, laws_FnForms_B17, laws_FnForms_b17, e5]
    rcases fo with ⟨p, hp, p1, p2⟩ | ⟨u0, u1, u2, ⟨s', hI⟩, p1, p2⟩
    · simp only [p1, p2, decide_true, Bool.not_true, cond_false, Bool.and_self, laws_FnForms_B19, laws_FnForms_b19, decide_eq_false hp, decide_eq_false hq, hE']
    · have hd : ∀ r : Int → Int → Option α, impl_DiscriminantOf k u0 u1 u2 r = r (w64 ((w64 ((w64 (m + m3)) * (w64 (m + m3)))) - 4)) 0 := fun r => by
        simp only [impl_DiscriminantOf, hI.is_impl k (by omega), Bool.not_true, cond_false, hI.disc_impl]
      simp only [p1, p2, decide_true, Bool.not_true, cond_false, cond_true, Bool.and_self, laws_FnForms_B19, laws_FnForms_b19, decide_eq_false hq, hd, hE']
  · have f9 := forms9_same (α := α) k L (by rw [big_val]; omega) (by omega)
    have c3 : decide (count < 1) = false := decide_eq_false (by omega)
    have c4 : decide ((L.length : Int) < count) = false := decide_eq_false (by omega)
    have hm := mid_list (α := α) k (by omega) r x y z one two disc red n0 n1 n2 cyc L hL hE
    simp only [laws_FnForms_B11, laws_FnForms_b11, e4, r1, laws_FnForms_B12, laws_FnForms_b12, r2, laws_FnForms_B13, laws_FnForms_b13, f9, decide_true, Bool.not_true, cond_false, laws_FnForms_B15, laws_FnForms_b15, r3, r4, laws_FnForms_B17, laws_FnForms_b17, e5]
    rcases fo with ⟨p, hp, p1, p2⟩ | ⟨u0, u1, u2, ⟨s', hI⟩, p1, p2⟩
    · simp only [p1, p2, decide_true, Bool.not_true, cond_false, cond_true, Bool.and_self, laws_FnForms_B19, laws_FnForms_b19, decide_eq_false hp, c3, c4, hm]
    · have hd : ∀ r : Int → Int → Option α, impl_DiscriminantOf k u0 u1 u2 r = r (w64 ((w64 ((w64 (m + m3)) * (w64 (m + m3)))) - 4)) 0 := fun r => by
        simp only [impl_DiscriminantOf, hI.is_impl k (by omega), Bool.not_true, cond_false, hI.disc_impl]
      simp only [p1, p2, decide_true, Bool.not_true, cond_false, cond_true, Bool.and_self, laws_FnForms_B19, laws_FnForms_b19, hd, c3, c4, hm]

theorem big_eqF (k : Nat) (l : List Int) (r : Bool → Option α) : laws_big k l r = r (decide (4096 < (((List.length l) : Nat) : Int))) := rfl

theorem frm_a {l : List Int} (hl : IsCode l) (k : Nat) (hk : 100010000 < k) (r : Bool → Option α) (x y z : Int) (h1 : ∀ r : Bool → Option α, spec_l06Is k x y z r = r false) (h2 : ∀ r : Bool → Option α, impl_IsForm k x y z r = r false) :
    (impl_NextForm k x y z fun v4 v5 v6 v7 => spec_NextForm k x y z fun v8 v9 v10 v11 => bif (!decide (v7 = v11)) then laws_FnForms_B1 k r else bif (!(decide (v4 = v8) && (decide (v5 = v9) && decide (v6 = v10)))) then laws_FnForms_B1 k r else
      impl_IsForm k x y z fun v12 => spec_IsForm k x y z fun v13 => bif (!(v12 == v13)) then laws_FnForms_B1 k r else
        impl_CycleOfForm k x y z (fun v14 => laws_FnForms_B2 k v7 v14 l x y z v4 v5 v6 [] r) (fun v15 v16 => laws_FnForms_B2 k v7 v16 l x y z v4 v5 v6 v15 r)) = r true := by
  have f9 := forms9_same (α := α) k [] (by simp) (by simp; omega)
  have ht := tail_forms (α := α) hl k hk r x y z 1 1 0 false 0 0 0 [] (end_none k r x y z 1 0 false [])
  have s1 : ∀ κ : Int → Int → Int → Int → Option α, impl_NextForm k x y z κ = κ 0 0 0 1 := fun κ => by rw [impl_NextForm, h2]; rfl
  have s2 : ∀ κ : Int → Int → Int → Int → Option α, spec_NextForm k x y z κ = κ 0 0 0 1 := fun κ => by rw [spec_NextForm, h1]; rfl
  have s3 : ∀ κ : Bool → Option α, spec_IsForm k x y z κ = κ false := fun κ => by rw [spec_IsForm, h1]
  have s4 : ∀ (κ : Int → Option α) κ', impl_CycleOfForm k x y z κ κ' = κ 1 := fun κ κ' => by rw [impl_CycleOfForm, h2]; rfl
  have s5 : ∀ (κ : Int → Option α) κ', spec_CycleOfForm k x y z κ κ' = κ 1 := fun κ κ' => by rw [spec_CycleOfForm, h1]; rfl
  have s6 : ∀ κ : Int → Int → Option α, impl_DiscriminantOf k x y z κ = κ 0 1 := fun κ => by rw [impl_DiscriminantOf, h2]; rfl
  have s7 : ∀ κ : Int → Int → Option α, spec_DiscriminantOf k x y z κ = κ 0 1 := fun κ => by rw [spec_DiscriminantOf, h1]; rfl
  have s8 : ∀ κ : Bool → Int → Option α, impl_IsReducedForm k x y z κ = κ false 1 := fun κ => by rw [impl_IsReducedForm, h2]; rfl
  have s9 : ∀ κ : Bool → Int → Option α, spec_IsReducedForm k x y z κ = κ false 1 := fun κ => by rw [spec_IsReducedForm, h1]; rfl
  have b7 : laws_FnForms_B7 k 1 1 0 l x y z 0 0 0 [] r = r true := by
    simp only [laws_FnForms_B7, laws_FnForms_b7, s8, s9, decide_true, Bool.not_true, cond_false, beq_self_eq_true, ht]
  have b5 : laws_FnForms_B5 k 1 1 l x y z 0 0 0 [] r = r true := by
    simp only [laws_FnForms_B5, laws_FnForms_b5, s6, s7, decide_true, Bool.not_true, cond_false, b7]
  have b3 : laws_FnForms_B3 k 1 1 1 l x y z 0 0 0 [] [] r = r true := by
    simp only [laws_FnForms_B3, laws_FnForms_b3, f9, decide_true, Bool.not_true, cond_false, b5]
  have b2 : laws_FnForms_B2 k 1 1 l x y z 0 0 0 [] r = r true := by
    simp only [laws_FnForms_B2, laws_FnForms_b2, s5, b3]
  simp only [s1, s2, decide_true, Bool.not_true, cond_false, Bool.and_self, h2, s3, beq_self_eq_true, s4, b2]

theorem frm_b {l : List Int} (hl : IsCode l) (k : Nat) (hk : 100010000 < k) (r : Bool → Option α) (x y z d s : Int) (hf : IsF x y z d s) (h1 : ∀ r : Bool → Option α, spec_l06Is k x y z r = r true) (h2 : ∀ r : Bool → Option α, impl_IsForm k x y z r = r true) :
    (impl_NextForm k x y z fun v4 v5 v6 v7 => spec_NextForm k x y z fun v8 v9 v10 v11 => bif (!decide (v7 = v11)) then laws_FnForms_B1 k r else bif (!(decide (v4 = v8) && (decide (v5 = v9) && decide (v6 = v10)))) then laws_FnForms_B1 k r else
      impl_IsForm k x y z fun v12 => spec_IsForm k x y z fun v13 => bif (!(v12 == v13)) then laws_FnForms_B1 k r else
        impl_CycleOfForm k x y z (fun v14 => laws_FnForms_B2 k v7 v14 l x y z v4 v5 v6 [] r) (fun v15 v16 => laws_FnForms_B2 k v7 v16 l x y z v4 v5 v6 v15 r)) = r true := by
  obtain ⟨L, c1, c2, hlen, hE⟩ := end_form (α := α) hf k (by omega) r
  have f9 := forms9_same (α := α) k L (by rw [big_val]; omega) (by omega)
  have ht := tail_forms (α := α) hl k hk r x y z 0 0 d (redF x y s) (nextT d s (x, y, z)).1 (nextT d s (x, y, z)).2.1 (nextT d s (x, y, z)).2.2 L hE
  have n1 : ∀ r : Int → Int → Int → Option α, spec_l06Next k x y z d s r = r (nextT d s (x, y, z)).1 (nextT d s (x, y, z)).2.1 (nextT d s (x, y, z)).2.2 := fun r => hf.next_spec k r
  have n2 : ∀ r : Int → Int → Int → Option α, impl_Form_next k x y z r = r (nextT d s (x, y, z)).1 (nextT d s (x, y, z)).2.1 (nextT d s (x, y, z)).2.2 := fun r => hf.next_impl k (by omega) r
  generalize nextT d s (x, y, z) = g at ht n1 n2
  obtain ⟨g0, g1, g2⟩ := g
  have s1 : ∀ κ : Int → Int → Int → Int → Option α, impl_NextForm k x y z κ = κ g0 g1 g2 0 := fun κ => by rw [impl_NextForm, h2, Bool.not_true, cond_false]; exact n2 _
  have s2 : ∀ κ : Int → Int → Int → Int → Option α, spec_NextForm k x y z κ = κ g0 g1 g2 0 := fun κ => by rw [spec_NextForm, h1, Bool.not_true, cond_false, hf.disc_spec, hf.root_spec k (by omega)]; exact n1 _
  have s3 : ∀ κ : Bool → Option α, spec_IsForm k x y z κ = κ true := fun κ => by rw [spec_IsForm, h1]
  have s4 : ∀ (κ : Int → Option α) κ', impl_CycleOfForm k x y z κ κ' = κ' L 0 := fun κ κ' => by rw [impl_CycleOfForm, h2]; exact c2 _
  have s5 : ∀ (κ : Int → Option α) κ', spec_CycleOfForm k x y z κ κ' = κ' L 0 := fun κ κ' => by rw [spec_CycleOfForm, h1]; exact c1 _
  have s6 : ∀ κ : Int → Int → Option α, impl_DiscriminantOf k x y z κ = κ d 0 := fun κ => by rw [impl_DiscriminantOf, h2, Bool.not_true, cond_false]; exact hf.disc_impl k _
  have s7 : ∀ κ : Int → Int → Option α, spec_DiscriminantOf k x y z κ = κ d 0 := fun κ => by rw [spec_DiscriminantOf, h1, Bool.not_true, cond_false]; exact hf.disc_spec k _
  have s8 : ∀ κ : Bool → Int → Option α, impl_IsReducedForm k x y z κ = κ (redF x y s) 0 := fun κ => by rw [impl_IsReducedForm, h2, Bool.not_true, cond_false]; exact hf.red_impl k (by omega) _
  have s9 : ∀ κ : Bool → Int → Option α, spec_IsReducedForm k x y z κ = κ (redF x y s) 0 := fun κ => by rw [spec_IsReducedForm, h1, Bool.not_true, cond_false, hf.disc_spec, hf.root_spec k (by omega), hf.red_spec]
  have b7 : laws_FnForms_B7 k 0 0 d l x y z g0 g1 g2 L r = r true := by
    simp only [laws_FnForms_B7, laws_FnForms_b7, s8, s9, decide_true, Bool.not_true, cond_false, beq_self_eq_true, ht]
  have b5 : laws_FnForms_B5 k 0 0 l x y z g0 g1 g2 L r = r true := by
    simp only [laws_FnForms_B5, laws_FnForms_b5, s6, s7, decide_true, Bool.not_true, cond_false, b7]
  have b3 : laws_FnForms_B3 k 0 0 0 l x y z g0 g1 g2 L L r = r true := by
    simp only [laws_FnForms_B3, laws_FnForms_b3, f9, decide_true, Bool.not_true, cond_false, b5]
  have b2 : laws_FnForms_B2 k 0 0 l x y z g0 g1 g2 L r = r true := by
    simp only [laws_FnForms_B2, laws_FnForms_b2, s5, b3]
  simp only [s1, s2, decide_true, Bool.not_true, cond_false, Bool.and_self, h2, s3, beq_self_eq_true, s4, b2]

theorem law_FnForms (k : Nat) (hk : 100010000 < k) (l : List Int) (r : Bool → Option α) (hb : ∀ x ∈ l, 0 ≤ x ∧ x ≤ 255) : laws_FnForms k l r = r true := by
  unfold laws_FnForms laws_FnForms_B0 laws_FnForms_b0
  rw [big_eqF]
  cases hbig : decide (4096 < (l.length : Int)) with
  | true => rfl
  | false =>
    have hl : IsCode l := ⟨by have := of_decide_eq_false hbig; omega, hb⟩
    obtain ⟨x, y, z, e0⟩ := dNextForm_ok (α := α) hl k (by omega)
    rw [cond_false, e0]
    rcases form_cases (α := α) k (by omega) x y z with ⟨h1, h2⟩ | ⟨d, s, hf, h1, h2⟩
    · exact frm_a hl k hk r x y z h1 h2
    · exact frm_b hl k hk r x y z d s hf h1 h2

end Go.Sh
