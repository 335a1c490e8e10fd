/- Plain laws: what the readings without memory answer. -/
import Derived.Test.YtoejoijickfgaaaShXClassNumber
namespace Go.Sh
open Go Go.Ev

variable {α : Type}

/-- A ring of n points. -/
structure Ring (n : Nat) (X Y : Nat → Int) : Prop where
  pos : 3 ≤ n
  px : ∀ i, X (i + n) = X i
  py : ∀ i, Y (i + n) = Y i

/-- The determinant of the sides i and j. -/
def cr (X Y : Nat → Int) (i j : Nat) : Int := (X (i + 1) - X i) * (Y (j + 1) - Y j) - (Y (i + 1) - Y i) * (X (j + 1) - X j)

/-- Does a direction go up? -/
def upV (x y : Int) : Prop := 0 < y ∨ (y = 0 ∧ 0 < x)

instance (x y : Int) : Decidable (upV x y) := by unfold upV; infer_instance

def upS (X Y : Nat → Int) (i : Nat) : Prop := upV (X (i + 1) - X i) (Y (i + 1) - Y i)

variable {n : Nat} {X Y : Nat → Int}

/-- Around once: first sides that go up, then sides that do not. -/
structure Once (n : Nat) (X Y : Nat → Int) (s m : Nat) : Prop where
  ring : Ring n X Y
  m0 : 1 ≤ m
  m1 : m < n
  turn : ∀ i, 0 < cr X Y i (i + 1)
  up : ∀ j, s ≤ j → j < s + m → upS X Y j
  low : ∀ j, s + m ≤ j → j < s + n → ¬ upS X Y j

variable {s m : Nat}

theorem spec_l01In_eq (k : Nat) (n low high : Int) (r : Bool → Option α) : spec_l01In k n low high r = r (inB n low high) := by
  unfold spec_l01In inB
  cases decide (low ≤ n) <;> rfl

theorem impl_in_eq (k : Nat) (n low high : Int) (r : Bool → Option α) : impl_in k n low high r = r (inB n low high) := by
  unfold impl_in inB
  cases decide (low ≤ n) <;> rfl

theorem spec_l01Rest_eq (k : Nat) (n x : Int) (r : Int → Option α) (hn : 0 < n) (hn2 : n ≤ 1000000000000000000) : spec_l01Rest k n x r = r (x % n) := by
  have h1 : -n < Int.tmod x n := Int.lt_tmod_of_pos x hn
  have h2 : Int.tmod x n < n := Int.tmod_lt_of_pos x hn
  simp only [spec_l01Rest, dec_eq_f (show n ≠ 0 by omega), cond_false]
  rw [w64_of (by omega) (by omega), rest_eq hn]

theorem impl_floor_eq (k : Nat) (a b : Int) (r : Int → Option α) (hb : 0 < b) (ha : -1000000000000000000 ≤ a) (ha2 : a ≤ 1000000000000000000) : impl_floor k a b r = r (a / b) := by
  have hq := tdiv_abs a b
  simp only [impl_floor, dec_eq_f (show b ≠ 0 by omega), cond_false, w64_of (n := Int.tdiv a b) (by omega) (by omega), w64_of (n := Int.tdiv a b - 1) (by omega) (by omega)]
  rw [← tdiv_floor a b hb]
  cases (!decide (Int.tmod a b = 0)) <;> cases (!(decide (a < 0) == decide (b < 0))) <;> rfl

theorem impl_mod_eq (k : Nat) (a b : Int) (r : Int → Option α) (hb : 0 < b) (hb2 : b ≤ 1000000000000000000) (ha : -1000000000000000000 ≤ a) (ha2 : a ≤ 1000000000000000000) : impl_mod k a b r = r (a % b) := by
  simp only [impl_mod, impl_floor_eq k a b _ hb ha ha2]
  have h1 := Int.emod_add_mul_ediv a b
  have h2 := Int.emod_nonneg a (b := b) (by omega)
  have h3 := Int.emod_lt_of_pos a hb
  rw [w64_of (n := b * (a / b)) (by omega) (by omega), w64_of (by omega) (by omega)]
  congr 1
  omega

theorem impl_size_eq (k : Nat) (n : Int) (r : Int → Option α) (h0 : -1000000000000000000 ≤ n) (h1 : n ≤ 1000000000000000000) : impl_size k n r = r (max n (-n)) := by
  simp only [impl_size]
  rw [w64_of (by omega) (by omega), Int.zero_sub]

/-- A form, with its discriminant and the root of that. -/
structure IsF (x y z d s : Int) : Prop where
  x0 : -1000000 ≤ x
  x1 : x ≤ 1000000
  y0 : -1000000 ≤ y
  y1 : y ≤ 1000000
  z0 : -1000000 ≤ z
  z1 : z ≤ 1000000
  hd : d = y * y - 4 * x * z
  d1 : 1 ≤ d
  d2 : d ≤ 4000
  s0 : 0 ≤ s
  hs : s * s < d
  hs1 : d < (s + 1) * (s + 1)

theorem sq_lt {a b : Int} (ha : 0 ≤ a) (hb : 0 ≤ b) (h : a * a < b * b) : a < b := by
  rcases ilt_or_ge a b with h1 | h1
  · exact h1
  · have := Int.mul_le_mul h1 h1 hb ha
    omega

theorem IsF.s2 {x y z d s : Int} (h : IsF x y z d s) : s ≤ 63 := by
  have h1 := h.hs
  have h2 := h.d2
  have := sq_lt (a := s) (b := 64) h.s0 (by omega) (by omega)
  omega

theorem IsF.zne {x y z d s : Int} (h : IsF x y z d s) : z ≠ 0 := by
  intro e
  have hd := h.hd
  rw [e, Int.mul_zero, Int.sub_zero] at hd
  have h1 := h.hs
  have h2 := h.hs1
  have h0 := h.s0
  have key : ∀ n : Int, 0 ≤ n → n * n = y * y → False := fun n hn he => by
    have a1 := sq_lt h0 hn (by omega)
    have a2 := sq_lt hn (by omega : 0 ≤ s + 1) (by omega)
    omega
  rcases Int.le_total 0 y with hy | hy
  · exact key y hy rfl
  · exact key (-y) (by omega) (Int.neg_mul_neg y y)

theorem disc_w (x y z : Int) (x0 : -1000000 ≤ x) (x1 : x ≤ 1000000) (y0 : -1000000 ≤ y) (y1 : y ≤ 1000000) (z0 : -1000000 ≤ z) (z1 : z ≤ 1000000) : w64 (w64 (y * y) - w64 (w64 (4 * x) * z)) = y * y - 4 * x * z := by
  have h1 := mul_bound (A := 1000000) (B := 1000000) y0 y1 y0 y1
  have h2 := mul_bound (A := 4000000) (B := 1000000) (a := 4 * x) (by omega) (by omega) z0 z1
  rw [w64_of (n := 4 * x) (by omega) (by omega), w64_of (n := 4 * x * z) (by omega) (by omega), w64_of (n := y * y) (by omega) (by omega), w64_of (by omega) (by omega)]

theorem root_l2 : ∀ (j k : Nat) (w d s : Int) (b : Int → Int → Option α) (r : Int → Option α), 0 ≤ w → w + j = s → s ≤ 1000000000 → s * s ≤ d → d < (s + 1) * (s + 1) → j < k → spec_l06Root_l2 k d w b r = b d s
  | 0, k + 1, w, d, s, b, r, h0, hs, hb, h1, h2, _ => by
    have hws : w = s := by omega
    subst hws
    have hm := mul_bound (a := w + 1) (b := w + 1) (A := 1000000001) (B := 1000000001) (by omega) (by omega) (by omega) (by omega)
    simp only [spec_l06Root_l2]
    rw [w64_of (n := w + 1) (by omega) (by omega), w64_of (by omega) (by omega)]
    have : decide ((w + 1) * (w + 1) ≤ d) = false := by simp; exact h2
    rw [this]
    rfl
  | j + 1, k + 1, w, d, s, b, r, h0, hs, hb, h1, h2, hk => by
    have hm := mul_bound (a := w + 1) (b := w + 1) (A := 1000000001) (B := 1000000001) (by omega) (by omega) (by omega) (by omega)
    have hle : (w + 1) * (w + 1) ≤ s * s := Int.mul_le_mul (by omega) (by omega) (by omega) (by omega)
    simp only [spec_l06Root_l2]
    rw [w64_of (n := w + 1) (by omega) (by omega), w64_of (by omega) (by omega)]
    have : decide ((w + 1) * (w + 1) ≤ d) = true := by simp; omega
    rw [this]
    exact root_l2 j k (w + 1) d s b r (by omega) (by omega) hb h1 h2 (by omega)
  | _, 0, _, _, _, _, _, _, _, _, _, _, hk => by omega

theorem impl_root_l2_same : ∀ (k : Nat) (w d : Int) (b : Int → Int → Option α) (r : Int → Option α), impl_root_l2 k d w b r = spec_l06Root_l2 k d w b r
  | 0, _, _, _, _ => rfl
  | k + 1, w, d, b, r => by
    simp only [impl_root_l2, spec_l06Root_l2, impl_root_l2_same k]

theorem spec_root_eq (k : Nat) (d s : Int) (r : Int → Option α) (h0 : 0 ≤ s) (hb : s ≤ 1000000000) (h1 : s * s ≤ d) (h2 : d < (s + 1) * (s + 1)) (hk : s.toNat < k) : spec_l06Root k d r = r s := by
  unfold spec_l06Root
  exact root_l2 s.toNat k 0 d s _ r (by omega) (by omega) hb h1 h2 hk

theorem impl_root_eq (k : Nat) (d s : Int) (r : Int → Option α) (h0 : 0 ≤ s) (hb : s ≤ 1000000000) (h1 : s * s ≤ d) (h2 : d < (s + 1) * (s + 1)) (hk : s.toNat < k) : impl_root k d r = r s := by
  unfold impl_root
  rw [impl_root_l2_same]
  exact root_l2 s.toNat k 0 d s _ r (by omega) (by omega) hb h1 h2 hk

theorem root_of (d : Int) (h0 : 1 ≤ d) (h1 : d ≤ 4000) : ∃ s : Int, 0 ≤ s ∧ s ≤ 63 ∧ s * s ≤ d ∧ d < (s + 1) * (s + 1) := by
  obtain ⟨s, e1, e2, _⟩ := root_exists d.toNat
  have f1 : ((s : Int)) * s ≤ d := by
    have : ((s * s : Nat) : Int) ≤ (d.toNat : Int) := by exact_mod_cast e1
    rw [Int.natCast_mul] at this
    omega
  have f2 : d < ((s : Int) + 1) * (s + 1) := by
    have : ((d.toNat : Nat) : Int) < (((s + 1) * (s + 1) : Nat) : Int) := by exact_mod_cast e2
    rw [Int.natCast_mul] at this
    simp at this
    omega
  refine ⟨s, by omega, ?_, f1, f2⟩
  have := sq_lt (a := (s : Int)) (b := 64) (by omega) (by omega) (by omega)
  omega

theorem IsF.disc_spec {x y z d s : Int} (h : IsF x y z d s) (k : Nat) (r : Int → Option α) : spec_l06Disc k x y z r = r d := by
  unfold spec_l06Disc
  rw [disc_w x y z h.x0 h.x1 h.y0 h.y1 h.z0 h.z1, h.hd]

theorem IsF.disc_impl {x y z d s : Int} (h : IsF x y z d s) (k : Nat) (r : Int → Option α) : impl_Form_disc k x y z r = r d := by
  unfold impl_Form_disc
  rw [disc_w x y z h.x0 h.x1 h.y0 h.y1 h.z0 h.z1, h.hd]

theorem IsF.root_spec {x y z d s : Int} (h : IsF x y z d s) (k : Nat) (hk : 64 < k) (r : Int → Option α) : spec_l06Root k d r = r s :=
  spec_root_eq k d s r h.s0 (by have := h.s2; omega) (by have := h.hs; omega) h.hs1 (by have := h.s2; omega)

theorem IsF.root_impl {x y z d s : Int} (h : IsF x y z d s) (k : Nat) (hk : 64 < k) (r : Int → Option α) : impl_root k d r = r s :=
  impl_root_eq k d s r h.s0 (by have := h.s2; omega) (by have := h.hs; omega) h.hs1 (by have := h.s2; omega)

/-- A reduced form. -/
def redF (x y s : Int) : Bool := decide (0 < y) && (decide (y ≤ s) && (decide (s - y < 2 * max x (-x)) && decide (2 * max x (-x) ≤ s + y)))

theorem IsF.red_spec {x y z d s : Int} (h : IsF x y z d s) (k : Nat) (r : Bool → Option α) : spec_l06Reduced k x y z s r = r (redF x y s) := by
  obtain ⟨hx0, hx1, hy0, hy1, hz0, hz1, _, _, _, hs0, _, _⟩ := id h
  have hs2 := h.s2
  unfold spec_l06Reduced redF
  rw [w64_of (n := 0 - x) (by omega) (by omega), Int.zero_sub, w64_of (n := 2 * max x (-x)) (by omega) (by omega), w64_of (n := s - y) (by omega) (by omega), w64_of (n := s + y) (by omega) (by omega)]
  cases decide (0 < y) <;> cases decide (y ≤ s) <;> cases decide (s - y < 2 * max x (-x)) <;> rfl

theorem IsF.red_impl {x y z d s : Int} (h : IsF x y z d s) (k : Nat) (hk : 64 < k) (r : Bool → Option α) : impl_Form_reduced k x y z r = r (redF x y s) := by
  obtain ⟨hx0, hx1, hy0, hy1, hz0, hz1, _, _, _, hs0, _, _⟩ := id h
  have hs2 := h.s2
  unfold impl_Form_reduced redF
  simp only [h.disc_impl, h.root_impl k hk, impl_in_eq, impl_size_eq k x _ (by omega) (by omega)]
  rw [w64_of (n := 2 * max x (-x)) (by omega) (by omega), w64_of (n := s - y) (by omega) (by omega), w64_of (n := s + y) (by omega) (by omega)]
  have e : inB y 1 s = (decide (0 < y) && decide (y ≤ s)) := rfl
  rw [e]
  cases decide (0 < y) <;> cases decide (y ≤ s) <;> cases decide (s - y < 2 * max x (-x)) <;> rfl

theorem mod_flip {a m : Int} (hm : 0 < m) : (-a + m - 1) % m = m - 1 - a % m := by
  have h1 := Int.emod_add_mul_ediv a m
  have h2 := Int.emod_nonneg a (b := m) (by omega)
  have h3 := Int.emod_lt_of_pos a hm
  refine ((Int.ediv_emod_unique (q := -(a / m)) hm).2 ⟨?_, by omega, by omega⟩).2
  rw [Int.mul_neg]
  omega

/-- The second number of the next form. -/
def nextB (y z s : Int) : Int := (if s < max z (-z) then max z (-z) else s) - ((if s < max z (-z) then max z (-z) else s) + y) % (2 * max z (-z))

theorem IsF.nextB_bounds {x y z d s : Int} (h : IsF x y z d s) : -1000000 ≤ nextB y z s ∧ nextB y z s ≤ 1000000 := by
  have hz := h.zne
  obtain ⟨hx0, hx1, hy0, hy1, hz0, hz1, _, _, _, hs0, _, _⟩ := id h
  have hs2 := h.s2
  unfold nextB
  generalize hc : max z (-z) = c
  have h2 := Int.emod_nonneg ((if s < c then c else s) + y) (b := 2 * c) (by omega)
  have h3 := Int.emod_lt_of_pos ((if s < c then c else s) + y) (b := 2 * c) (by omega)
  split <;> rename_i hsc <;> simp only [hsc, if_true, if_false] at h2 h3 <;> omega

/-- The third number. -/
def nextC (y z d s : Int) : Int := Int.tdiv (nextB y z s * nextB y z s - d) (4 * z)

theorem IsF.next_spec {x y z d s : Int} (h : IsF x y z d s) (k : Nat) (r : Int → Int → Int → Option α) : spec_l06Next k x y z d s r = r z (nextB y z s) (nextC y z d s) := by
  have hz := h.zne
  have hn := h.nextB_bounds
  obtain ⟨hx0, hx1, hy0, hy1, hz0, hz1, _, hd1, hd2, hs0, _, _⟩ := id h
  have hs2 := h.s2
  have hm := mul_bound (A := 1000000) (B := 1000000) hn.1 hn.2 hn.1 hn.2
  have ht := tdiv_abs (nextB y z s * nextB y z s - d) (4 * z)
  have h0 : 0 ≤ nextB y z s * nextB y z s := sq_nn _
  unfold spec_l06Next
  have hz4 : w64 (4 * z) = 4 * z := w64_of (by omega) (by omega)
  have hmz : w64 (0 - z) = -z := by rw [w64_of (by omega) (by omega), Int.zero_sub]
  rw [hz4, dec_eq_f (show 4 * z ≠ 0 by omega), hmz]
  simp only [cond_false]
  unfold nextC
  unfold nextB at hn hm ht h0 ⊢
  generalize hc : max z (-z) = c at hn hm ht h0 ⊢
  have hcp : 0 < c := by omega
  have hc2 : c ≤ 1000000 := by omega
  by_cases hsc : s < c
  · simp only [hsc, if_true, decide_true, cond_true] at hn hm ht h0 ⊢
    rw [w64_of (n := 2 * c) (by omega) (by omega), w64_of (n := c + y) (by omega) (by omega), spec_l01Rest_eq _ _ _ _ (by omega) (by omega)]
    generalize hq : (c + y) % (2 * c) = q at hn hm ht h0 ⊢
    rw [w64_of (n := c - q) (by omega) (by omega), w64_of (n := (c - q) * (c - q)) (by omega) (by omega), w64_of (n := (c - q) * (c - q) - d) (by omega) (by omega), w64_of (by omega) (by omega)]
  · simp only [hsc, if_false, decide_false, cond_false] at hn hm ht h0 ⊢
    rw [w64_of (n := 2 * c) (by omega) (by omega), w64_of (n := s + y) (by omega) (by omega), spec_l01Rest_eq _ _ _ _ (by omega) (by omega)]
    generalize hq : (s + y) % (2 * c) = q at hn hm ht h0 ⊢
    rw [w64_of (n := s - q) (by omega) (by omega), w64_of (n := (s - q) * (s - q)) (by omega) (by omega), w64_of (n := (s - q) * (s - q) - d) (by omega) (by omega), w64_of (by omega) (by omega)]

theorem IsF.next_impl {x y z d s : Int} (h : IsF x y z d s) (k : Nat) (hk : 64 < k) (r : Int → Int → Int → Option α) : impl_Form_next k x y z r = r z (nextB y z s) (nextC y z d s) := by
  have hz := h.zne
  have hn := h.nextB_bounds
  obtain ⟨hx0, hx1, hy0, hy1, hz0, hz1, _, hd1, hd2, hs0, _, _⟩ := id h
  have hs2 := h.s2
  have hm := mul_bound (A := 1000000) (B := 1000000) hn.1 hn.2 hn.1 hn.2
  have ht := tdiv_abs (nextB y z s * nextB y z s - d) (4 * z)
  have h0 : 0 ≤ nextB y z s * nextB y z s := sq_nn _
  unfold impl_Form_next
  simp only [h.disc_impl, h.root_impl k hk, impl_size_eq k z _ (by omega) (by omega)]
  have hz4 : w64 (4 * z) = 4 * z := w64_of (by omega) (by omega)
  rw [hz4, dec_eq_f (show 4 * z ≠ 0 by omega)]
  simp only [cond_false]
  unfold nextC
  unfold nextB at hn hm ht h0 ⊢
  generalize hc : max z (-z) = c at hn hm ht h0 ⊢
  have hcp : 0 < c := by omega
  have hc2 : c ≤ 1000000 := by omega
  have hw : w64 (0 - y) = -y := by rw [w64_of (by omega) (by omega), Int.zero_sub]
  by_cases hsc : s < c
  · simp only [hsc, if_true, decide_true, cond_true] at hn hm ht h0 ⊢
    rw [hw, w64_of (n := 2 * c) (by omega) (by omega), w64_of (n := 1 - c) (by omega) (by omega), w64_of (n := -y - (1 - c)) (by omega) (by omega), impl_mod_eq _ _ _ _ (by omega) (by omega) (by omega) (by omega)]
    have e : -y - (1 - c) = -(c + y) + 2 * c - 1 := by omega
    rw [e, mod_flip (by omega)]
    generalize hq : (c + y) % (2 * c) = q at hn hm ht h0 ⊢
    have e2 : 1 - c + (2 * c - 1 - q) = c - q := by omega
    rw [e2, w64_of (n := c - q) (by omega) (by omega), w64_of (n := (c - q) * (c - q)) (by omega) (by omega), w64_of (n := (c - q) * (c - q) - d) (by omega) (by omega), w64_of (by omega) (by omega)]
  · simp only [hsc, if_false, decide_false, cond_false] at hn hm ht h0 ⊢
    rw [hw, w64_of (n := 2 * c) (by omega) (by omega), w64_of (n := s - 2 * c) (by omega) (by omega), w64_of (n := s - 2 * c + 1) (by omega) (by omega), w64_of (n := -y - (s - 2 * c + 1)) (by omega) (by omega), impl_mod_eq _ _ _ _ (by omega) (by omega) (by omega) (by omega)]
    have e : -y - (s - 2 * c + 1) = -(s + y) + 2 * c - 1 := by omega
    rw [e, mod_flip (by omega)]
    generalize hq : (s + y) % (2 * c) = q at hn hm ht h0 ⊢
    have e2 : s - 2 * c + 1 + (2 * c - 1 - q) = s - q := by omega
    rw [e2, w64_of (n := s - q) (by omega) (by omega), w64_of (n := (s - q) * (s - q)) (by omega) (by omega), w64_of (n := (s - q) * (s - q) - d) (by omega) (by omega), w64_of (by omega) (by omega)]

/-- What the next form is made of. -/
theorem IsF.next_eq {x y z d s : Int} (h : IsF x y z d s) : ∃ t, nextB y z s = -y + 2 * z * t ∧ 4 * z * nextC y z d s = nextB y z s * nextB y z s - d := by
  have hz := h.zne
  have h1 := Int.emod_add_mul_ediv ((if s < max z (-z) then max z (-z) else s) + y) (2 * max z (-z))
  have hb : ∃ t, nextB y z s = -y + 2 * z * t := by
    unfold nextB
    generalize (if s < max z (-z) then max z (-z) else s) = H at h1 ⊢
    generalize (H + y) / (2 * max z (-z)) = q at h1
    generalize (H + y) % (2 * max z (-z)) = r at h1 ⊢
    rcases Int.le_total 0 z with hz0 | hz0
    · refine ⟨q, ?_⟩
      rw [show max z (-z) = z by omega] at h1
      omega
    · refine ⟨-q, ?_⟩
      rw [show max z (-z) = -z by omega] at h1
      have e : 2 * z * -q = 2 * -z * q := by grind
      omega
  obtain ⟨t, ht⟩ := hb
  refine ⟨t, ht, ?_⟩
  have e : nextB y z s * nextB y z s - d = 4 * z * (x - y * t + z * t * t) := by
    rw [ht, h.hd]
    grind
  unfold nextC
  rw [e, Int.mul_tdiv_cancel_left _ (by omega)]

/-- Where the second number of the next form lies. -/
theorem IsF.nextB_in {x y z d s : Int} (h : IsF x y z d s) : (if s < max z (-z) then max z (-z) else s) - 2 * max z (-z) < nextB y z s ∧ nextB y z s ≤ (if s < max z (-z) then max z (-z) else s) := by
  have hz := h.zne
  have h2 := Int.emod_nonneg ((if s < max z (-z) then max z (-z) else s) + y) (b := 2 * max z (-z)) (by omega)
  have h3 := Int.emod_lt_of_pos ((if s < max z (-z) then max z (-z) else s) + y) (b := 2 * max z (-z)) (by omega)
  unfold nextB
  omega

theorem sq_le_of {a b : Int} (h1 : -b ≤ a) (h2 : a ≤ b) : a * a ≤ b * b := by
  have := Int.mul_nonneg (a := b - a) (b := b + a) (by omega) (by omega)
  have e : (b - a) * (b + a) = b * b - a * a := by grind
  omega

theorem mul_lt_cancel {c a b : Int} (hc : 0 < c) (h : c * a < c * b) : a < b := by
  rcases ilt_or_ge a b with h1 | h1
  · exact h1
  · have := mul_le_l c (by omega) h1
    omega

theorem mul_le_cancel {c a b : Int} (hc : 0 < c) (h : c * a ≤ c * b) : a ≤ b := by
  rcases ilt_or_ge b a with h1 | h1
  · have := mul_le_l c (by omega) (show b + 1 ≤ a by omega)
    rw [Int.mul_add] at this
    omega
  · exact h1

/-- The size of the third number, by that of the second. -/
theorem IsF.nextC_abs {x y z d s : Int} (h : IsF x y z d s) : 4 * max z (-z) * max (nextC y z d s) (-(nextC y z d s)) = max (nextB y z s * nextB y z s - d) (-(nextB y z s * nextB y z s - d)) := by
  obtain ⟨t, _, e⟩ := h.next_eq
  rw [← e]
  generalize nextC y z d s = w
  rcases Int.le_total 0 z with h1 | h1 <;> rcases Int.le_total 0 w with h2 | h2
  · have := Int.mul_nonneg h1 h2
    rw [show max z (-z) = z by omega, show max w (-w) = w by omega, show max (4 * z * w) (-(4 * z * w)) = 4 * z * w by rw [Int.mul_assoc]; omega]
  · have := Int.mul_nonneg h1 (show 0 ≤ -w by omega)
    rw [Int.mul_neg] at this
    rw [show max z (-z) = z by omega, show max w (-w) = -w by omega, show max (4 * z * w) (-(4 * z * w)) = -(4 * z * w) by rw [Int.mul_assoc]; omega]
    grind
  · have := Int.mul_nonneg (show 0 ≤ -z by omega) h2
    rw [Int.neg_mul] at this
    rw [show max z (-z) = -z by omega, show max w (-w) = w by omega, show max (4 * z * w) (-(4 * z * w)) = -(4 * z * w) by rw [Int.mul_assoc]; omega]
    grind
  · have := Int.mul_nonneg (show 0 ≤ -z by omega) (show 0 ≤ -w by omega)
    rw [Int.neg_mul_neg] at this
    rw [show max z (-z) = -z by omega, show max w (-w) = -w by omega, show max (4 * z * w) (-(4 * z * w)) = 4 * z * w by rw [Int.mul_assoc]; omega]
    grind

/-- While the third number is great the next one is less than a quarter of it. -/
theorem IsF.nextC_less {x y z d s : Int} (h : IsF x y z d s) (hz : s < max z (-z)) : 4 * max (nextC y z d s) (-(nextC y z d s)) ≤ max z (-z) := by
  have e := h.nextC_abs
  have hb := h.nextB_in
  rw [if_pos hz] at hb
  have hs0 := h.s0
  generalize hc : max z (-z) = c at *
  generalize nextB y z s = b at *
  generalize max (nextC y z d s) (-(nextC y z d s)) = w at *
  have h1 := sq_le_of (a := b) (b := c) (by omega) (by omega)
  have h2 := sq_nn b
  have h3 := Int.mul_le_mul (show s + 1 ≤ c by omega) (show s + 1 ≤ c by omega) (by omega) (by omega)
  have h4 := h.hs1
  have hd1 := h.d1
  refine mul_le_cancel (c := c) (by omega) ?_
  have e2 : c * (4 * w) = 4 * c * w := by grind
  omega

/-- Once it is not the next one is at most half of the root's size, or the form reduced. -/
theorem IsF.nextC_small {x y z d s : Int} (h : IsF x y z d s) (hz : max z (-z) ≤ s) (h2z : s < 2 * max z (-z)) : 2 * max (nextC y z d s) (-(nextC y z d s)) ≤ s := by
  have e := h.nextC_abs
  have hb := h.nextB_in
  rw [if_neg (by omega)] at hb
  have hs0 := h.s0
  have hzn := h.zne
  generalize hc : max z (-z) = c at *
  generalize nextB y z s = b at *
  generalize max (nextC y z d s) (-(nextC y z d s)) = w at *
  have h1 := sq_le_of (a := b) (b := s) (by omega) (by omega)
  have h2 := sq_nn b
  have h4 := h.hs1
  have h5 := h.hs
  -- 4 c w = d - b b < (s + 1) (s + 1) and 2 c is at least s + 1
  have hlt : (s + 1) * (2 * w) < (s + 1) * (s + 1) := by
    have hw : 0 ≤ w := by
      rcases ilt_or_ge w 0 with g | g
      · have := Int.mul_pos (a := 4 * c) (b := -w) (by omega) (by omega)
        rw [Int.mul_neg] at this
        omega
      · exact g
    have := mul_le_r (2 * w) (by omega) (show s + 1 ≤ 2 * c by omega)
    have e2 : 2 * c * (2 * w) = 4 * c * w := by grind
    omega
  have := mul_lt_cancel (by omega) hlt
  omega

theorem IsF.next_isF {x y z d s : Int} (h : IsF x y z d s) : IsF z (nextB y z s) (nextC y z d s) d s := by
  have hb := h.nextB_bounds
  obtain ⟨t, _, e⟩ := h.next_eq
  have hs2 := h.s2
  have hzn := h.zne
  have hw : max (nextC y z d s) (-(nextC y z d s)) ≤ 1000000 := by
    have hz0 := h.z0
    have hz1 := h.z1
    rcases ilt_or_ge s (max z (-z)) with g | g
    · have := h.nextC_less g
      omega
    · have ea := h.nextC_abs
      have hbi := h.nextB_in
      rw [if_neg (by omega)] at hbi
      have h1 := sq_le_of (a := nextB y z s) (b := 63) (by omega) (by omega)
      have h2 := sq_nn (nextB y z s)
      have hd1 := h.d1
      have hd2 := h.d2
      generalize max (nextC y z d s) (-(nextC y z d s)) = w at *
      rcases ilt_or_ge 1000000 w with g2 | g2
      · have := mul_le_r w (by omega) (show 1 ≤ 4 * max z (-z) by omega)
        omega
      · exact g2
  refine ⟨h.z0, h.z1, hb.1, hb.2, by omega, by omega, ?_, h.d1, h.d2, h.s0, h.hs, h.hs1⟩
  omega

theorem redF_iff {x y s : Int} : redF x y s = true ↔ 0 < y ∧ y ≤ s ∧ s - y < 2 * max x (-x) ∧ 2 * max x (-x) ≤ s + y := by
  simp [redF]

/-- A form whose third number is at most half of the root is followed by a reduced one. -/
theorem IsF.next_red {x y z d s : Int} (h : IsF x y z d s) (hz : 2 * max z (-z) ≤ s) : redF z (nextB y z s) s = true := by
  have hb := h.nextB_in
  have hzn := h.zne
  rw [if_neg (by omega)] at hb
  rw [redF_iff]
  omega

/-- A form as three numbers. -/
def nextT (d s : Int) (f : Int × Int × Int) : Int × Int × Int := (f.2.2, nextB f.2.1 f.2.2 s, nextC f.2.1 f.2.2 d s)

def iterT (d s : Int) : Nat → Int × Int × Int → Int × Int × Int
  | 0, f => f
  | n + 1, f => iterT d s n (nextT d s f)

theorem iterT_succ (d s : Int) : ∀ (n : Nat) (f : Int × Int × Int), iterT d s (n + 1) f = nextT d s (iterT d s n f)
  | 0, _ => rfl
  | n + 1, f => iterT_succ d s n (nextT d s f)

def FormT (d s : Int) (f : Int × Int × Int) : Prop := IsF f.1 f.2.1 f.2.2 d s

def RedT (d s : Int) (f : Int × Int × Int) : Prop := FormT d s f ∧ redF f.1 f.2.1 s = true

theorem FormT.next {d s : Int} {f : Int × Int × Int} (h : FormT d s f) : FormT d s (nextT d s f) := IsF.next_isF h

theorem FormT.iter {d s : Int} : ∀ {n : Nat} {f : Int × Int × Int}, FormT d s f → FormT d s (iterT d s n f)
  | 0, _, h => h
  | n + 1, _, h => FormT.iter (n := n) h.next

/-- Some steps lead to a reduced form. -/
theorem FormT.reduces {d s : Int} : ∀ (m : Nat) {f : Int × Int × Int}, FormT d s f → max f.2.2 (-f.2.2) ≤ m → ∃ j, j ≤ m + 2 ∧ redF (iterT d s j f).1 (iterT d s j f).2.1 s = true ∧ ∀ i, i < j → redF (iterT d s i f).1 (iterT d s i f).2.1 s = false
  | m, f, h, hm => by
    cases hr : redF f.1 f.2.1 s with
    | true => exact ⟨0, by omega, hr, fun i hi => by omega⟩
    | false =>
      have hzn := IsF.zne h
      have hs0 := IsF.s0 h
      -- one step more
      have more : ∀ n, n + 1 ≤ m + 2 → (∃ j, j ≤ n ∧ redF (iterT d s j (nextT d s f)).1 (iterT d s j (nextT d s f)).2.1 s = true ∧ ∀ i, i < j → redF (iterT d s i (nextT d s f)).1 (iterT d s i (nextT d s f)).2.1 s = false) → ∃ j, j ≤ m + 2 ∧ redF (iterT d s j f).1 (iterT d s j f).2.1 s = true ∧ ∀ i, i < j → redF (iterT d s i f).1 (iterT d s i f).2.1 s = false := by
        rintro n hn ⟨j, h1, h2, h3⟩
        refine ⟨j + 1, by omega, h2, fun i hi => ?_⟩
        cases i with
        | zero => exact hr
        | succ i => exact h3 i (by omega)
      rcases ilt_or_ge s (max f.2.2 (-f.2.2)) with g | g
      · have hl := IsF.nextC_less h g
        cases m with
        | zero => omega
        | succ m =>
          obtain ⟨j, h1, h2, h3⟩ := FormT.reduces m h.next (by
            show max (nextC f.2.1 f.2.2 d s) (-(nextC f.2.1 f.2.2 d s)) ≤ m
            omega)
          exact more (m + 2) (by omega) ⟨j, h1, h2, h3⟩
      · rcases ilt_or_ge s (2 * max f.2.2 (-f.2.2)) with g2 | g2
        · have hsm := IsF.nextC_small h g g2
          cases m with
          | zero => omega
          | succ m =>
            refine more 1 (by omega) ?_
            cases hr1 : redF (nextT d s f).1 (nextT d s f).2.1 s with
            | true => exact ⟨0, by omega, hr1, fun i hi => by omega⟩
            | false =>
              refine ⟨1, by omega, IsF.next_red h.next hsm, fun i hi => ?_⟩
              have : i = 0 := by omega
              subst this
              exact hr1
        · exact more 0 (by omega) ⟨0, by omega, IsF.next_red h g2, fun i hi => by omega⟩

/-- What is known of the third number of a reduced form. -/
theorem RedT.third {d s : Int} {f : Int × Int × Int} (h : RedT d s f) : s - f.2.1 < 2 * max f.2.2 (-f.2.2) ∧ 2 * max f.2.2 (-f.2.2) ≤ s + f.2.1 := by
  obtain ⟨hf, hr⟩ := h
  rw [redF_iff] at hr
  obtain ⟨r1, r2, r3, r4⟩ := hr
  have hd := IsF.hd hf
  have hs := IsF.hs hf
  have hs1 := IsF.hs1 hf
  generalize f.1 = x at *
  generalize f.2.1 = y at *
  generalize f.2.2 = z at *
  -- x and z have different signs, or not: their product is d - y y over 4
  have hyy := sq_le_of (a := y) (b := s) (by omega) (by omega)
  have hprod : 4 * max x (-x) * max z (-z) = d - y * y := by
    have hneg : 4 * x * z < 0 := by omega
    have hxz : 4 * x * z = 4 * (x * z) := Int.mul_assoc _ _ _
    rcases Int.le_total 0 x with h1 | h1 <;> rcases Int.le_total 0 z with h2 | h2
    · have := Int.mul_nonneg h1 h2
      omega
    · rw [show max x (-x) = x by omega, show max z (-z) = -z by omega, Int.mul_neg]
      omega
    · rw [show max x (-x) = -x by omega, show max z (-z) = z by omega]
      have e : 4 * -x * z = -(4 * x * z) := by grind
      omega
    · have := Int.mul_nonneg (show 0 ≤ -x by omega) (show 0 ≤ -z by omega)
      rw [Int.neg_mul_neg] at this
      omega
  generalize max x (-x) = a at *
  generalize hcz : max z (-z) = c at *
  have hc0 : 0 ≤ c := by omega
  constructor
  · -- (s + y) 2 c is at least 2 a 2 c, which is greater than (s - y) (s + y)
    refine mul_lt_cancel (c := s + y) (by omega) ?_
    have g1 := mul_le_r (2 * c) (by omega) r4
    have e1 : 2 * a * (2 * c) = 4 * a * c := by grind
    have e2 : (s + y) * (s - y) = s * s - y * y := by grind
    omega
  · have : 2 * c < s + y + 1 := by
      refine mul_lt_cancel (c := s + 1 - y) (by omega) ?_
      have g1 := mul_le_r (2 * c) (by omega) (show s + 1 - y ≤ 2 * a by omega)
      have e1 : 2 * a * (2 * c) = 4 * a * c := by grind
      have e2 : (s + 1 - y) * (s + y + 1) = (s + 1) * (s + 1) - y * y := by grind
      omega
    omega

/-- A number of a window is told by its rest. -/
theorem window {a b c k h : Int} (hc : 0 < c) (ha : h - 2 * c < a) (ha2 : a ≤ h) (hb : h - 2 * c < b) (hb2 : b ≤ h) (e : a - b = 2 * c * k) : a = b := by
  rcases Int.lt_trichotomy k 0 with g | g | g
  · have := mul_le_l (2 * c) (by omega) (show k ≤ -1 by omega)
    omega
  · subst g
    omega
  · have := mul_le_l (2 * c) (by omega) (show 1 ≤ k by omega)
    omega

theorem RedT.next {d s : Int} {f : Int × Int × Int} (h : RedT d s f) : RedT d s (nextT d s f) := by
  obtain ⟨t1, t2⟩ := h.third
  obtain ⟨hf, hr⟩ := h
  rw [redF_iff] at hr
  refine ⟨hf.next, ?_⟩
  have hb := IsF.nextB_in hf
  obtain ⟨t, ht, _⟩ := IsF.next_eq hf
  have hzn := IsF.zne hf
  show redF f.2.2 (nextB f.2.1 f.2.2 s) s = true
  rw [redF_iff]
  generalize f.2.1 = y at *
  generalize f.2.2 = z at *
  generalize nextB y z s = b at *
  rw [if_neg (by omega)] at hb
  -- 2 c - y is in the same class, and not greater than s
  have hge : 2 * max z (-z) - y ≤ b := by
    rcases ilt_or_ge b (2 * max z (-z) - y) with g | g
    · exfalso
      rcases Int.le_total 0 z with h1 | h1
      · rw [show max z (-z) = z by omega] at *
        have e : z * t = z * t := rfl
        rcases ilt_or_ge t 1 with g2 | g2
        · have := mul_le_l (2 * z) (by omega) (show t ≤ 0 by omega)
          omega
        · have := mul_le_l (2 * z) (by omega) g2
          omega
      · rw [show max z (-z) = -z by omega] at *
        have e : 2 * z * t = 2 * -z * -t := by grind
        rcases ilt_or_ge (-t) 1 with g2 | g2
        · have := mul_le_l (2 * -z) (by omega) (show -t ≤ 0 by omega)
          omega
        · have := mul_le_l (2 * -z) (by omega) g2
          omega
    · exact g
  omega

theorem RedT.iter {d s : Int} : ∀ {n : Nat} {f : Int × Int × Int}, RedT d s f → RedT d s (iterT d s n f)
  | 0, _, h => h
  | n + 1, _, h => RedT.iter (n := n) h.next

/-- Different reduced forms have different next ones. -/
theorem RedT.inj {d s : Int} {f g : Int × Int × Int} (hf : RedT d s f) (hg : RedT d s g) (e : nextT d s f = nextT d s g) : f = g := by
  have f3 := hf.third
  have g3 := hg.third
  obtain ⟨hf1, hf2⟩ := hf
  obtain ⟨hg1, hg2⟩ := hg
  rw [redF_iff] at hf2 hg2
  have e1 : f.2.2 = g.2.2 := congrArg Prod.fst e
  have e2 : nextB f.2.1 f.2.2 s = nextB g.2.1 g.2.2 s := congrArg (fun p => p.2.1) e
  obtain ⟨t, ht, _⟩ := IsF.next_eq hf1
  obtain ⟨u, hu, _⟩ := IsF.next_eq hg1
  have hzn := IsF.zne hf1
  have d1 := IsF.hd hf1
  have d2 := IsF.hd hg1
  obtain ⟨x, y, z⟩ := f
  obtain ⟨x', y', z'⟩ := g
  simp only at *
  subst e1
  have hy : y = y' := by
    rw [← e2] at hu
    have e3 : y - y' = 2 * z * (t - u) := by rw [Int.mul_sub]; omega
    rcases Int.le_total 0 z with h1 | h1
    · rw [show max z (-z) = z by omega] at *
      exact window (c := z) (h := s) (by omega) (by omega) (by omega) (by omega) (by omega) e3
    · rw [show max z (-z) = -z by omega] at *
      refine window (c := -z) (h := s) (k := u - t) (by omega) (by omega) (by omega) (by omega) (by omega) ?_
      rw [e3]
      grind
  subst hy
  have hx : x = x' := by
    have e4 : 4 * z * (x - x') = 0 := by
      have a1 : 4 * z * (x - x') = 4 * x * z - 4 * x' * z := by grind
      omega
    rcases Int.mul_eq_zero.1 e4 with g | g
    · omega
    · omega
  rw [hx]

/-- Of more things than there are names two have one name. -/
theorem pigeon : ∀ (M : Nat) (g : Nat → Nat), (∀ i, i ≤ M → g i < M) → ∃ i j, i < j ∧ j ≤ M ∧ g i = g j
  | 0, g, h => by have := h 0 (by omega); omega
  | M + 1, g, h => by
    by_cases hd : ∃ i, i ≤ M ∧ g i = g (M + 1)
    · obtain ⟨i, h1, h2⟩ := hd
      exact ⟨i, M + 1, by omega, by omega, h2⟩
    · -- the last one's name is given away
      have hno : ∀ i, i ≤ M → g i ≠ g (M + 1) := fun i hi e => hd ⟨i, hi, e⟩
      obtain ⟨i, j, h1, h2, h3⟩ := pigeon M (fun i => if g i = M then g (M + 1) else g i) (fun i hi => by
        have := h i (by omega)
        have hl := h (M + 1) (by omega)
        have hn := hno i hi
        show (if g i = M then g (M + 1) else g i) < M
        split <;> omega)
      refine ⟨i, j, h1, by omega, ?_⟩
      have a := hno i (by omega)
      have b := hno j h2
      split at h3 <;> split at h3 <;> omega

/-- The number of a reduced form. -/
def codeT (s : Int) (f : Int × Int × Int) : Nat := ((f.1 + s) * (s + 1) + f.2.1).toNat

theorem RedT.code {d s : Int} {f : Int × Int × Int} (h : RedT d s f) : codeT s f < 8192 := by
  obtain ⟨hf, hr⟩ := h
  rw [redF_iff] at hr
  have h2 := IsF.s2 hf
  have h0 := IsF.s0 hf
  unfold codeT
  have := Int.mul_le_mul (a := f.1 + s) (b := s + 1) (c := 126) (d := 64) (by omega) (by omega) (by omega) (by omega)
  omega

theorem RedT.code_inj {d s : Int} {f g : Int × Int × Int} (hf : RedT d s f) (hg : RedT d s g) (e : codeT s f = codeT s g) : f = g := by
  have hzf := IsF.hd hf.1
  have hzg := IsF.hd hg.1
  have r1 := redF_iff.1 hf.2
  have r2 := redF_iff.1 hg.2
  have h0 := IsF.s0 hf.1
  unfold codeT at e
  have n1 := Int.mul_nonneg (a := f.1 + s) (b := s + 1) (by omega) (by omega)
  have n2 := Int.mul_nonneg (a := g.1 + s) (b := s + 1) (by omega) (by omega)
  have e' : (f.1 + s) * (s + 1) + f.2.1 = (g.1 + s) * (s + 1) + g.2.1 := by omega
  obtain ⟨x, y, z⟩ := f
  obtain ⟨x', y', z'⟩ := g
  simp only at *
  have hx : x = x' := by
    have e3 : (s + 1) * (x - x') = y' - y := by
      have a1 : (s + 1) * (x - x') = (x + s) * (s + 1) - (x' + s) * (s + 1) := by grind
      omega
    rcases Int.lt_trichotomy (x - x') 0 with g | g | g
    · have := mul_le_l (s + 1) (by omega) (show x - x' ≤ -1 by omega)
      omega
    · omega
    · have := mul_le_l (s + 1) (by omega) (show 1 ≤ x - x' by omega)
      omega
  subst hx
  have hy : y = y' := by omega
  subst hy
  have hz : z = z' := by
    have e4 : 4 * x * (z - z') = 0 := by rw [Int.mul_sub]; omega
    rcases Int.mul_eq_zero.1 e4 with g | g
    · omega
    · omega
  rw [hz]

/-- A reduced form comes back. -/
theorem RedT.back {d s : Int} {f : Int × Int × Int} (h : RedT d s f) : ∃ n, 1 ≤ n ∧ n ≤ 8192 ∧ iterT d s n f = f ∧ ∀ i, 1 ≤ i → i < n → iterT d s i f ≠ f := by
  obtain ⟨i, j, h1, h2, h3⟩ := pigeon 8192 (fun i => codeT s (iterT d s i f)) (fun i _ => (h.iter (n := i)).code)
  have hij := RedT.code_inj (h.iter (n := i)) (h.iter (n := j)) h3
  -- from the i-th and j-th back to the first
  have down : ∀ i k, iterT d s i f = iterT d s (i + k) f → iterT d s k f = f := by
    intro i
    induction i with
    | zero => intro k e; rw [Nat.zero_add] at e; exact e.symm
    | succ i ih =>
      intro k e
      rw [show i + 1 + k = (i + k) + 1 by omega, iterT_succ, iterT_succ] at e
      exact ih k (RedT.inj (h.iter (n := i)) (h.iter (n := i + k)) e)
  have hback := down i (j - i) (by rw [show i + (j - i) = j by omega]; exact hij)
  -- the first time
  have first : ∀ m, 1 ≤ m → iterT d s m f = f → ∃ n, 1 ≤ n ∧ n ≤ m ∧ iterT d s n f = f ∧ ∀ i, 1 ≤ i → i < n → iterT d s i f ≠ f := by
    intro m
    induction m using Nat.strongRecOn with
    | ind m ih =>
      intro hm he
      by_cases hx : ∃ i, 1 ≤ i ∧ i < m ∧ iterT d s i f = f
      · obtain ⟨i, a, b, c⟩ := hx
        obtain ⟨n, n1, n2, n3, n4⟩ := ih i b a c
        exact ⟨n, n1, by omega, n3, n4⟩
      · exact ⟨m, hm, Nat.le_refl _, he, fun i a b c => hx ⟨i, a, b, c⟩⟩
  obtain ⟨n, n1, n2, n3, n4⟩ := first (j - i) (by omega) hback
  exact ⟨n, n1, by omega, n3, n4⟩

theorem laws_eqT (f g : Int × Int × Int) : (decide (f.1 = g.1) && (decide (f.2.1 = g.2.1) && decide (f.2.2 = g.2.2))) = decide (f = g) := by
  obtain ⟨a, b, c⟩ := f
  obtain ⟨x, y, z⟩ := g
  simp [Prod.ext_iff]

theorem cyc_l3 {d s : Int} : ∀ (j k : Nat) (f : Int × Int × Int) (b : Int → Int → Int → Int → Int → Option α) (r : List (Int × Int × Int) → Option α), FormT d s f → redF (iterT d s j f).1 (iterT d s j f).2.1 s = true → (∀ i, i < j → redF (iterT d s i f).1 (iterT d s i f).2.1 s = false) → j + 65 < k →
    spec_l06Cycle_l3 k d s f.1 f.2.1 f.2.2 b r = b d s (iterT d s j f).1 (iterT d s j f).2.1 (iterT d s j f).2.2
  | 0, k + 1, f, b, r, hf, hr, _, hk => by
    simp only [iterT] at hr ⊢
    rw [spec_l06Cycle_l3, IsF.red_spec hf, hr]
    rfl
  | j + 1, k + 1, f, b, r, hf, hr, hn, hk => by
    have h0 := hn 0 (by omega)
    simp only [iterT] at h0
    rw [spec_l06Cycle_l3, IsF.red_spec hf, h0, Bool.not_false, cond_true, IsF.next_spec hf]
    exact cyc_l3 j k (nextT d s f) b r hf.next hr (fun i hi => hn (i + 1) (by omega)) (by omega)
  | _, 0, _, _, _, _, _, _, hk => by omega

theorem cyc_l1 {d s : Int} : ∀ (j k : Nat) (f : Int × Int × Int) (b : Int → Int → Int → Option α) (r : List (Int × Int × Int) → Option α), FormT d s f → redF (iterT d s j f).1 (iterT d s j f).2.1 s = true → (∀ i, i < j → redF (iterT d s i f).1 (iterT d s i f).2.1 s = false) → j + 65 < k →
    impl_Form_cycle_l1 k f.1 f.2.1 f.2.2 b r = b (iterT d s j f).1 (iterT d s j f).2.1 (iterT d s j f).2.2
  | 0, k + 1, f, b, r, hf, hr, _, hk => by
    simp only [iterT] at hr ⊢
    rw [impl_Form_cycle_l1, IsF.red_impl hf k (by omega), hr]
    rfl
  | j + 1, k + 1, f, b, r, hf, hr, hn, hk => by
    have h0 := hn 0 (by omega)
    simp only [iterT] at h0
    rw [impl_Form_cycle_l1, IsF.red_impl hf k (by omega), h0, Bool.not_false, cond_true, IsF.next_impl hf k (by omega)]
    exact cyc_l1 j k (nextT d s f) b r hf.next hr (fun i hi => hn (i + 1) (by omega)) (by omega)
  | _, 0, _, _, _, _, _, _, hk => by omega

def listT (d s : Int) : Nat → Int × Int × Int → List (Int × Int × Int)
  | 0, _ => []
  | n + 1, f => f :: listT d s n (nextT d s f)

theorem listT_length (d s : Int) : ∀ (n : Nat) (f : Int × Int × Int), (listT d s n f).length = n
  | 0, _ => rfl
  | n + 1, f => by simp [listT, listT_length d s n]

theorem cyc_l7 {d s : Int} {g : Int × Int × Int} : ∀ (m k : Nat) (f : Int × Int × Int) (out : List (Int × Int × Int)) (b : Int → Int → Int → Int → Int → List (Int × Int × Int) → Int → Int → Int → Option α) (r : List (Int × Int × Int) → Option α), FormT d s f → iterT d s m f = g → (∀ i, i < m → iterT d s i f ≠ g) → out.length + m ≤ big → m < k →
    spec_l06Cycle_l7 k d s g.1 g.2.1 g.2.2 out f.1 f.2.1 f.2.2 b r = b d s g.1 g.2.1 g.2.2 (out ++ listT d s m f) g.1 g.2.1 g.2.2
  | 0, k + 1, f, out, b, r, hf, hg, _, hb, hk => by
    simp only [iterT] at hg
    subst hg
    rw [spec_l06Cycle_l7, laws_eqT]
    simp [listT]
  | m + 1, k + 1, f, out, b, r, hf, hg, hn, hb, hk => by
    have h0 := hn 0 (by omega)
    simp only [iterT] at h0
    have hl : decide (out.length + 1 ≤ big) = true := decide_eq_true (by omega)
    rw [spec_l06Cycle_l7, laws_eqT, decide_eq_false h0, Bool.not_false, cond_true, hl, cond_true, IsF.next_spec hf]
    have := cyc_l7 m k (nextT d s f) (out ++ [f]) b r hf.next hg (fun i hi => hn (i + 1) (by omega)) (by simp; omega) (by omega)
    simp only [List.append_assoc, List.singleton_append] at this
    exact this
  | _, 0, _, _, _, _, _, _, _, _, hk => by omega

theorem cyc_l5 {d s : Int} {g : Int × Int × Int} : ∀ (m k : Nat) (f : Int × Int × Int) (out : List (Int × Int × Int)) (b : Int → Int → Int → List (Int × Int × Int) → Int → Int → Int → Option α) (r : List (Int × Int × Int) → Option α), FormT d s f → iterT d s m f = g → (∀ i, i < m → iterT d s i f ≠ g) → out.length + m ≤ big → m + 65 < k →
    impl_Form_cycle_l5 k g.1 g.2.1 g.2.2 out f.1 f.2.1 f.2.2 b r = b g.1 g.2.1 g.2.2 (out ++ listT d s m f) g.1 g.2.1 g.2.2
  | 0, k + 1, f, out, b, r, hf, hg, _, hb, hk => by
    simp only [iterT] at hg
    subst hg
    rw [impl_Form_cycle_l5, laws_eqT]
    simp [listT]
  | m + 1, k + 1, f, out, b, r, hf, hg, hn, hb, hk => by
    have h0 := hn 0 (by omega)
    simp only [iterT] at h0
    have hl : decide (out.length + 1 ≤ big) = true := decide_eq_true (by omega)
    rw [impl_Form_cycle_l5, laws_eqT, decide_eq_false h0, Bool.not_false, cond_true, hl, cond_true, IsF.next_impl hf k (by omega)]
    have := cyc_l5 m k (nextT d s f) (out ++ [f]) b r hf.next hg (fun i hi => hn (i + 1) (by omega)) (by simp; omega) (by omega)
    simp only [List.append_assoc, List.singleton_append] at this
    exact this
  | _, 0, _, _, _, _, _, _, _, _, hk => by omega

/-- The cycle of a form: the same list from both. -/
theorem cycle_eq {d s x y z : Int} (hf : IsF x y z d s) : ∃ n g, 1 ≤ n ∧ n ≤ 8192 ∧ RedT d s g ∧ (∀ k, 1000100 < k → ∀ r : List (Int × Int × Int) → Option α, spec_l06Cycle k x y z r = r (listT d s n g)) ∧ (∀ k, 1000100 < k → ∀ r : List (Int × Int × Int) → Option α, impl_Form_cycle k x y z r = r (listT d s n g)) := by
  have hF : FormT d s (x, y, z) := hf
  have hz0 := hf.z0
  have hz1 := hf.z1
  obtain ⟨j, hj, hr, hn⟩ := hF.reduces 1000000 (by show max z (-z) ≤ _; omega)
  have hR : RedT d s (iterT d s j (x, y, z)) := ⟨hF.iter, hr⟩
  obtain ⟨n, n1, n2, n3, n4⟩ := hR.back
  refine ⟨n, iterT d s j (x, y, z), n1, n2, hR, fun k hk r => ?_, fun k hk r => ?_⟩
  · obtain ⟨m, rfl⟩ : ∃ m, n = m + 1 := ⟨n - 1, by omega⟩
    unfold spec_l06Cycle
    rw [IsF.disc_spec hf, IsF.root_spec hf k (by omega)]
    have e := cyc_l3 j k (x, y, z) (fun d1 w1 x6 x7 x8 => spec_l06Next k x6 x7 x8 d1 w1 fun v6 v7 v8 => spec_l06Cycle_l7 k d1 w1 x6 x7 x8 [(x6, x7, x8)] v6 v7 v8 (fun _ _ _ _ _ out1 _ _ _ => r out1) r) r hF hr hn (by omega)
    refine e.trans ?_
    rw [IsF.next_spec hR.1]
    have e2 := cyc_l7 m k (nextT d s (iterT d s j (x, y, z))) [iterT d s j (x, y, z)] (fun _ _ _ _ _ out1 _ _ _ => r out1) r hR.1.next n3 (fun i hi => n4 (i + 1) (by omega) (by omega)) (by rw [big_val]; simp; omega) (by omega)
    exact e2
  · obtain ⟨m, rfl⟩ : ∃ m, n = m + 1 := ⟨n - 1, by omega⟩
    unfold impl_Form_cycle
    have e := cyc_l1 j k (x, y, z) (fun x6 x7 x8 => impl_Form_next k x6 x7 x8 fun v4 v5 v6 => impl_Form_cycle_l5 k x6 x7 x8 [(x6, x7, x8)] v4 v5 v6 (fun _ _ _ out1 _ _ _ => r out1) r) r hF hr hn (by omega)
    refine e.trans ?_
    rw [IsF.next_impl hR.1 k (by omega)]
    have e2 := cyc_l5 m k (nextT d s (iterT d s j (x, y, z))) [iterT d s j (x, y, z)] (fun _ _ _ out1 _ _ _ => r out1) r hR.1.next n3 (fun i hi => n4 (i + 1) (by omega) (by omega)) (by rw [big_val]; simp; omega) (by omega)
    exact e2

theorem has_l2 (x : Int × Int × Int) : ∀ (rest : List (Int × Int × Int)) (k i : Nat) (l : List (Int × Int × Int)) (r : Bool → Option α), l.drop i = rest → l.length ≤ big → i ≤ l.length → rest.length < k →
    spec_l06Has_l2 k i l x.1 x.2.1 x.2.2 (fun _ _ _ _ _ => r false) r = r (decide (x ∈ rest))
  | [], k + 1, i, l, r, hd, hb, hi, _ => by
    have h1 := drop_nil hd
    rw [spec_l06Has_l2, dec_lt_f (by omega)]
    simp
  | e :: rest, k + 1, i, l, r, hd, hb, hi, hk => by
    obtain ⟨h1, h2, h3⟩ := drop_cons hd
    rw [big_val] at hb
    rw [spec_l06Has_l2, dec_lt_t (by omega), dec_le_t (by omega), cond_true, Bool.and_true, cond_true, Int.toNat_natCast, h1, Option.bind_some, laws_eqT]
    have e1 : w64 ((i : Int) + 1) = ((i + 1 : Nat) : Int) := by rw [w64_of (by omega) (by omega)]; omega
    by_cases he : e = x
    · subst he; simp
    · rw [decide_eq_false he, cond_false, e1, has_l2 x rest k (i + 1) l r h2 (by rw [big_val]; omega) (by omega) (by simp at hk; omega)]
      simp [Ne.symm he]
  | _, 0, _, _, _, _, _, _, hk => by omega

theorem has_eq (x : Int × Int × Int) (k : Nat) (l : List (Int × Int × Int)) (r : Bool → Option α) (hb : l.length ≤ big) (hk : l.length < k) : spec_l06Has k l x.1 x.2.1 x.2.2 r = r (decide (x ∈ l)) := by
  unfold spec_l06Has
  exact has_l2 x l k 0 l r (by simp) hb (by omega) hk

instance (X Y : Nat → Int) (i : Nat) : Decidable (upS X Y i) := by unfold upS; infer_instance

theorem keyEq_tr (x y : Int × Int × Int) : keyEq .tr x y = decide (x = y) := by
  obtain ⟨a, b, c⟩ := x
  obtain ⟨d, e, f⟩ := y
  simp [keyEq, Prod.ext_iff]

theorem putK_tr_len : ∀ (ks : List (Int × Int × Int)) (vs : List Bool) (k : Int × Int × Int), ks.length = vs.length → (putK .tr ks k).length = (putV .tr .bool ks vs k true).length
  | [], [], k, _ => rfl
  | x :: ks, v :: vs, k, h => by
    simp only [putK, putV]
    cases keyEq .tr k x with
    | true => simpa using h
    | false =>
      have := putK_tr_len ks vs k (by simpa using h)
      simpa using this
  | [], _ :: _, _, h => by simp at h
  | _ :: _, [], _, h => by simp at h

theorem getM_tr_put : ∀ (ks : List (Int × Int × Int)) (vs : List Bool) (k x : Int × Int × Int), ks.length = vs.length → getM .tr .bool (putK .tr ks k) (putV .tr .bool ks vs k true) x false = (decide (x = k) || getM .tr .bool ks vs x false)
  | [], [], k, x, _ => by
    simp only [putK, putV, getM, keyEq_tr]
    cases decide (x = k) <;> rfl
  | y :: ks, v :: vs, k, x, h => by
    simp only [putK, putV]
    by_cases hk : k = y
    · subst hk
      rw [keyEq_tr, decide_eq_true rfl]
      simp only [cond_true, getM, keyEq_tr]
      by_cases hx : x = k
      · simp [hx]
      · simp [hx]
    · rw [keyEq_tr, decide_eq_false hk]
      simp only [cond_false, getM, keyEq_tr]
      by_cases hx : x = y
      · have : ¬ x = k := fun e => hk (e.symm.trans hx)
        simp [hx, this, Ne.symm hk]
      · simp only [decide_eq_false hx, cond_false]
        exact getM_tr_put ks vs k x (by simpa using h)
  | [], _ :: _, _, _, h => by simp at h
  | _ :: _, [], _, _, h => by simp at h

/-- The map holds what the list holds. -/
def SeenF (ks : List (Int × Int × Int)) (vs : List Bool) (met : List (Int × Int × Int)) : Prop :=
  ks.length = vs.length ∧ ∀ x, getM .tr .bool ks vs x false = decide (x ∈ met)

theorem SeenF.nil : SeenF [] [] [] := ⟨rfl, fun x => by simp [getM]⟩

theorem SeenF.add {ks : List (Int × Int × Int)} {vs : List Bool} {met : List (Int × Int × Int)} (h : SeenF ks vs met) (k : Int × Int × Int) : SeenF (putK .tr ks k) (putV .tr .bool ks vs k true) (met ++ [k]) :=
  ⟨putK_tr_len ks vs k h.1, fun x => by
    rw [getM_tr_put ks vs k x h.1, h.2 x]
    by_cases h1 : x = k <;> by_cases h2 : x ∈ met <;> simp [h1, h2]⟩

theorem cls_l11 (C : List (Int × Int × Int)) (many x3 x4 : Int) (L : List (Int × Int × Int)) (hb : C.length ≤ big) :
    ∀ (rest : List (Int × Int × Int)) (k i : Nat) (ks : List (Int × Int × Int)) (vs : List Bool) (met : List (Int × Int × Int)), C.drop i = rest → i ≤ C.length → SeenF ks vs met → rest.length < k →
    ∃ ks' vs', SeenF ks' vs' (met ++ rest) ∧ ∀ (b2 : Int → Int → Int → Int → Int → (List (Int × Int × Int)) → List Bool → (List (Int × Int × Int)) → (List (Int × Int × Int)) → Option α) (r : Int → Int → Option α), impl_ClassNumber_l11 k many x3 x4 C.length i ks vs L C b2 r = b2 many x3 x4 C.length C.length ks' vs' L C
  | [], k + 1, i, ks, vs, met, hd, hi, hS, _ => by
    have h1 := drop_nil hd
    have h2 : i = C.length := by omega
    subst h2
    refine ⟨ks, vs, by simpa using hS, fun b2 r => ?_⟩
    rw [impl_ClassNumber_l11, dec_lt_f (by omega)]
    rfl
  | e :: rest, k + 1, i, ks, vs, met, hd, hi, hS, hk => by
    obtain ⟨h1, h2, h3⟩ := drop_cons hd
    have hb' := hb
    rw [big_val] at hb'
    have e1 : w64 ((i : Int) + 1) = ((i + 1 : Nat) : Int) := by rw [w64_of (by omega) (by omega)]; omega
    obtain ⟨ks', vs', g1, g2⟩ := cls_l11 C many x3 x4 L hb rest k (i + 1) _ _ _ h2 (by omega) (hS.add e) (by simp at hk; omega)
    refine ⟨ks', vs', by simpa using g1, fun b2 r => ?_⟩
    rw [impl_ClassNumber_l11, dec_lt_t (by omega), dec_le_t (by omega), cond_true, Bool.and_true, cond_true, Int.toNat_natCast, h1, Option.bind_some, e1]
    exact g2 b2 r
  | _, 0, _, _, _, _, _, _, _, hk => by omega

theorem forms_inner {d s : Int} (d1 : 1 ≤ d) (d2 : d ≤ 4000) (s0 : 0 ≤ s) (s63 : s ≤ 63) (hs : s * s < d) (hs1 : d < (s + 1) * (s + 1)) (a : Int) (a0 : -63 ≤ a) (a1 : a ≤ 63) : ∀ (n : Nat) (b : Int) (out : List (Int × Int × Int)), 1 ≤ b → b + n = s + 1 → (∀ x ∈ out, RedT d s x) → out.length + n ≤ 100000 →
    ∃ b' out', (∀ x ∈ out', RedT d s x) ∧ out'.length ≤ out.length + n ∧ (∀ k, n < k → ∀ (b2 : Int → Int → Int → Int → (List (Int × Int × Int)) → Option α) r0 r1, spec_l06All_l11 k d s a b out b2 r0 r1 = b2 d s a b' out') ∧
      (∀ k, n + 65 < k → ∀ (b2 : Int → Int → Int → Int → (List (Int × Int × Int)) → Option α) r0, impl_reducedForms_l6 k d s a b out b2 r0 = b2 d s a b' out')
  | 0, b, out, b1, hn, hF, hl => by
    refine ⟨b, out, hF, by omega, fun k hk b2 r0 r1 => ?_, fun k hk b2 r0 => ?_⟩
    · obtain ⟨k, rfl⟩ : ∃ m, k = m + 1 := ⟨k - 1, by omega⟩
      rw [spec_l06All_l11, dec_le_f (by omega)]
      rfl
    · obtain ⟨k, rfl⟩ : ∃ m, k = m + 1 := ⟨k - 1, by omega⟩
      rw [impl_reducedForms_l6, dec_le_f (by omega)]
      rfl
  | n + 1, b, out, b1, hn, hF, hl => by
    by_cases ha : a = 0
    · refine ⟨b, out, hF, by omega, fun k hk b2 r0 r1 => ?_, fun k hk b2 r0 => ?_⟩
      · obtain ⟨k, rfl⟩ : ∃ m, k = m + 1 := ⟨k - 1, by omega⟩
        rw [spec_l06All_l11, dec_le_t (by omega), decide_eq_true ha]
        rfl
      · obtain ⟨k, rfl⟩ : ∃ m, k = m + 1 := ⟨k - 1, by omega⟩
        rw [impl_reducedForms_l6, dec_le_t (by omega), decide_eq_true ha]
        rfl
    · have hbb := mul_bound (a := b) (b := b) (A := 63) (B := 63) (by omega) (by omega) (by omega) (by omega)
      have w1 : w64 (b * b) = b * b := w64_of (by omega) (by omega)
      have w2 : w64 (b * b - d) = b * b - d := w64_of (by omega) (by omega)
      have w3 : w64 (4 * a) = 4 * a := w64_of (by omega) (by omega)
      have w4 : w64 (b + 1) = b + 1 := w64_of (by omega) (by omega)
      have n4 : decide (4 * a = 0) = false := decide_eq_false (by omega)
      by_cases hm : Int.tmod (b * b - d) (4 * a) = 0
      · have hdv : (4 * a) ∣ (b * b - d) := Int.dvd_of_tmod_eq_zero hm
        have hc : 4 * a * Int.tdiv (b * b - d) (4 * a) = b * b - d := Int.mul_tdiv_cancel' hdv
        have hcb : (Int.tdiv (b * b - d) (4 * a)).natAbs ≤ (b * b - d).natAbs := by
          rw [Int.natAbs_tdiv]
          exact Nat.div_le_self _ _
        generalize hcc : Int.tdiv (b * b - d) (4 * a) = c at hc hcb
        have w5 : w64 c = c := w64_of (by omega) (by omega)
        have hI : IsF a b c d s := ⟨by omega, by omega, by omega, by omega, by omega, by omega, by omega, d1, d2, s0, hs, hs1⟩
        cases hr : redF a b s with
        | true =>
          obtain ⟨b', out', g1, g2, g3, g4⟩ := forms_inner d1 d2 s0 s63 hs hs1 a a0 a1 n (b + 1) (out ++ [(a, b, c)]) (by omega) (by omega) (fun x hx => by
            rcases List.mem_append.1 hx with hx | hx
            · exact hF x hx
            · rw [List.mem_singleton.1 hx]; exact ⟨hI, hr⟩) (by simp; omega)
          have hlb : decide (out.length + 1 ≤ big) = true := decide_eq_true (by rw [big_val]; omega)
          refine ⟨b', out', g1, by simp at g2; omega, fun k hk b2 r0 r1 => ?_, fun k hk b2 r0 => ?_⟩
          · obtain ⟨k, rfl⟩ : ∃ m, k = m + 1 := ⟨k - 1, by omega⟩
            rw [spec_l06All_l11, dec_le_t (by omega), decide_eq_false ha, w1, w2, w3, n4, w4, hcc, w5, decide_eq_true hm, hI.red_spec, hr, hlb]
            exact g3 k (by omega) b2 r0 r1
          · obtain ⟨k, rfl⟩ : ∃ m, k = m + 1 := ⟨k - 1, by omega⟩
            rw [impl_reducedForms_l6, dec_le_t (by omega), decide_eq_false ha, w1, w2, w3, n4, w4, hcc, w5, decide_eq_true hm, hI.red_impl k (by omega), hr, hlb]
            exact g4 k (by omega) b2 r0
        | false =>
          obtain ⟨b', out', g1, g2, g3, g4⟩ := forms_inner d1 d2 s0 s63 hs hs1 a a0 a1 n (b + 1) out (by omega) (by omega) hF (by omega)
          refine ⟨b', out', g1, by omega, fun k hk b2 r0 r1 => ?_, fun k hk b2 r0 => ?_⟩
          · obtain ⟨k, rfl⟩ : ∃ m, k = m + 1 := ⟨k - 1, by omega⟩
            rw [spec_l06All_l11, dec_le_t (by omega), decide_eq_false ha, w1, w2, w3, n4, w4, hcc, w5, decide_eq_true hm, hI.red_spec, hr]
            exact g3 k (by omega) b2 r0 r1
          · obtain ⟨k, rfl⟩ : ∃ m, k = m + 1 := ⟨k - 1, by omega⟩
            rw [impl_reducedForms_l6, dec_le_t (by omega), decide_eq_false ha, w1, w2, w3, n4, w4, hcc, w5, decide_eq_true hm, hI.red_impl k (by omega), hr]
            exact g4 k (by omega) b2 r0
      · obtain ⟨b', out', g1, g2, g3, g4⟩ := forms_inner d1 d2 s0 s63 hs hs1 a a0 a1 n (b + 1) out (by omega) (by omega) hF (by omega)
        refine ⟨b', out', g1, by omega, fun k hk b2 r0 r1 => ?_, fun k hk b2 r0 => ?_⟩
        · obtain ⟨k, rfl⟩ : ∃ m, k = m + 1 := ⟨k - 1, by omega⟩
          rw [spec_l06All_l11, dec_le_t (by omega), decide_eq_false ha, w1, w2, w3, n4, w4, decide_eq_false hm]
          exact g3 k (by omega) b2 r0 r1
        · obtain ⟨k, rfl⟩ : ∃ m, k = m + 1 := ⟨k - 1, by omega⟩
          rw [impl_reducedForms_l6, dec_le_t (by omega), decide_eq_false ha, w1, w2, w3, n4, w4, decide_eq_false hm]
          exact g4 k (by omega) b2 r0

theorem forms_outer {d s : Int} (d1 : 1 ≤ d) (d2 : d ≤ 4000) (s0 : 0 ≤ s) (s63 : s ≤ 63) (hs : s * s < d) (hs1 : d < (s + 1) * (s + 1)) : ∀ (n : Nat) (a : Int) (out : List (Int × Int × Int)), -63 ≤ a → a + n = s + 1 → (∀ x ∈ out, RedT d s x) → out.length + n * 64 ≤ 100000 →
    ∃ a' out', (∀ x ∈ out', RedT d s x) ∧ out'.length ≤ out.length + n * 64 ∧ (∀ k, n + 64 < k → ∀ (b0 : Int → Int → Int → (List (Int × Int × Int)) → Option α) r0 r1, spec_l06All_l8 k d s a out b0 r0 r1 = b0 d s a' out') ∧
      (∀ k, n + 130 < k → ∀ (b0 : Int → Int → Int → (List (Int × Int × Int)) → Option α) r0, impl_reducedForms_l3 k d s a out b0 r0 = b0 d s a' out')
  | 0, a, out, a0, hn, hF, hl => by
    refine ⟨a, out, hF, by omega, fun k hk b2 r0 r1 => ?_, fun k hk b2 r0 => ?_⟩
    · obtain ⟨k, rfl⟩ : ∃ m, k = m + 1 := ⟨k - 1, by omega⟩
      rw [spec_l06All_l8, dec_le_f (by omega)]
      rfl
    · obtain ⟨k, rfl⟩ : ∃ m, k = m + 1 := ⟨k - 1, by omega⟩
      rw [impl_reducedForms_l3, dec_le_f (by omega)]
      rfl
  | n + 1, a, out, a0, hn, hF, hl => by
    obtain ⟨b', o1, f1, f2, f3, f4⟩ := forms_inner (α := α) d1 d2 s0 s63 hs hs1 a a0 (by omega) s.toNat 1 out (by omega) (by omega) hF (by omega)
    have w4 : w64 (a + 1) = a + 1 := w64_of (by omega) (by omega)
    obtain ⟨a', out', g1, g2, g3, g4⟩ := forms_outer d1 d2 s0 s63 hs hs1 n (a + 1) o1 (by omega) (by omega) f1 (by omega)
    refine ⟨a', out', g1, by omega, fun k hk b2 r0 r1 => ?_, fun k hk b2 r0 => ?_⟩
    · obtain ⟨k, rfl⟩ : ∃ m, k = m + 1 := ⟨k - 1, by omega⟩
      rw [spec_l06All_l8, dec_le_t (by omega), cond_true, f3 k (by omega), w4]
      exact g3 k (by omega) b2 r0 r1
    · obtain ⟨k, rfl⟩ : ∃ m, k = m + 1 := ⟨k - 1, by omega⟩
      rw [impl_reducedForms_l3, dec_le_t (by omega), cond_true, f4 k (by omega), w4]
      exact g4 k (by omega) b2 r0

/-- The reduced forms, from both: a fault, or one list. -/
theorem forms_both (d : Int) : (∃ e : Int, e ≠ 0 ∧ (∀ k, 1000 < k → ∀ (r0 : Int → Option α) r1, spec_l06All k d r0 r1 = r0 e) ∧ (∀ k, 1000 < k → ∀ r : Int → Option α, impl_discFault k d r = r e)) ∨
    ∃ s l, (∀ x ∈ l, RedT d s x) ∧ l.length ≤ 10000 ∧ (∀ k, 1000 < k → ∀ (r0 : Int → Option α) r1, spec_l06All k d r0 r1 = r1 l 0) ∧ (∀ k, 1000 < k → ∀ r : Int → Option α, impl_discFault k d r = r 0) ∧ (∀ k, 1000 < k → ∀ r : List (Int × Int × Int) → Option α, impl_reducedForms k d r = r l) := by
  cases hb : inB d 1 4000 with
  | false => exact .inl ⟨2, by decide, fun k hk r0 r1 => by simp [spec_l06All, spec_l01In_eq, hb], fun k hk r => by simp [impl_discFault, impl_in_eq, hb]⟩
  | true =>
    have hb2 := hb
    rw [inB_iff] at hb2
    obtain ⟨s, h0, h1, h2, h3⟩ := root_of d hb2.1 hb2.2
    have hm := mul_bound (A := 63) (B := 63) (a := s) (b := s) (by omega) h1 (by omega) h1
    have ws : w64 (s * s) = s * s := w64_of (by omega) (by omega)
    by_cases he : s * s = d
    · have wd : w64 d = d := by rw [← he]; exact ws
      refine .inl ⟨5, by decide, fun k hk r0 r1 => ?_, fun k hk r => ?_⟩
      · simp [spec_l06All, spec_l01In_eq, hb, spec_root_eq k d s _ h0 (by omega) h2 h3 (by omega), he, wd]
      · simp [impl_discFault, impl_discOk, impl_in_eq, hb, impl_root_eq k d s _ h0 (by omega) h2 h3 (by omega), he, wd]
    · by_cases h4 : 1 < Int.tmod d 4
      · refine .inl ⟨5, by decide, fun k hk r0 r1 => ?_, fun k hk r => ?_⟩
        · simp [spec_l06All, spec_l01In_eq, hb, spec_root_eq k d s _ h0 (by omega) h2 h3 (by omega), ws, he, h4]
        · simp [impl_discFault, impl_discOk, impl_in_eq, hb, impl_root_eq k d s _ h0 (by omega) h2 h3 (by omega), ws, he, h4]
      · obtain ⟨a', l, g1, g2, g3, g4⟩ := forms_outer (α := α) hb2.1 hb2.2 h0 h1 (by omega) h3 (2 * s + 1).toNat (-s) [] (by omega) (by omega) (fun x hx => by simp at hx) (by simp; omega)
        have wn : w64 (0 - s) = -s := by rw [w64_of (by omega) (by omega)]; omega
        refine .inr ⟨s, l, g1, by simp at g2; omega, fun k hk r0 r1 => ?_, fun k hk r => ?_, fun k hk r => ?_⟩
        · simp only [spec_l06All, spec_l01In_eq, hb, spec_root_eq k d s _ h0 (by omega) h2 h3 (by omega), ws, decide_eq_false he, decide_eq_false h4, Bool.not_true, cond_false, wn]
          exact g3 k (by omega) _ r0 r1
        · simp [impl_discFault, impl_discOk, impl_in_eq, hb, impl_root_eq k d s _ h0 (by omega) h2 h3 (by omega), ws, he, h4]
        · simp only [impl_reducedForms, impl_root_eq k d s _ h0 (by omega) h2 h3 (by omega), wn]
          exact g4 k (by omega) _ r

theorem cls_loop {d s : Int} (L : List (Int × Int × Int)) (hL : ∀ x ∈ L, RedT d s x) (hl : L.length ≤ 10000) :
    ∀ (rest : List (Int × Int × Int)) (k i : Nat) (count : Int) (ks : List (Int × Int × Int)) (vs : List Bool) (met : List (Int × Int × Int)), L.drop i = rest → i ≤ L.length → SeenF ks vs met → met.length ≤ 8192 * i → 0 ≤ count → count ≤ i → 100000000 + rest.length < k →
    ∃ count' ks' vs' met', (count ≤ count' ∧ count' ≤ count + rest.length ∧ ∀ e r, rest = e :: r → e ∉ met → count + 1 ≤ count') ∧ (∀ (b0 : Int → Int → (List (Int × Int × Int)) → (List (Int × Int × Int)) → Option α) r0, spec_ClassNumber_l6 k count i L met b0 r0 = b0 count' L.length L met') ∧
      (∀ (b0 : Int → Int → Int → (List (Int × Int × Int)) → List Bool → (List (Int × Int × Int)) → Option α) r0, impl_ClassNumber_l6 k count L.length i ks vs L b0 r0 = b0 count' L.length L.length ks' vs' L)
  | [], k + 1, i, count, ks, vs, met, hd, hi, hS, hm, _, _, hk => by
    have h1 := drop_nil hd
    have h2 : i = L.length := by omega
    subst h2
    refine ⟨count, ks, vs, met, ⟨by omega, by simp, fun e r h => by cases h⟩, fun b0 r0 => ?_, fun b0 r0 => ?_⟩
    · rw [spec_ClassNumber_l6, dec_lt_f (by omega)]
      rfl
    · rw [impl_ClassNumber_l6, dec_lt_f (by omega)]
      rfl
  | e :: rest, k + 1, i, count, ks, vs, met, hd, hi, hS, hm, hc0, hc1, hk => by
    obtain ⟨h1, h2, h3⟩ := drop_cons hd
    simp only [List.length_cons] at hk
    have e1 : w64 ((i : Int) + 1) = ((i + 1 : Nat) : Int) := by rw [w64_of (by omega) (by omega)]; omega
    have e2 : w64 (count + 1) = count + 1 := w64_of (by omega) (by omega)
    have hmb : met.length ≤ big := by rw [big_val]; omega
    have hF : FormT d s e := (hL e (List.mem_of_getElem? h1)).1
    have hg : getM .tr .bool ks vs (e.1, e.2.1, e.2.2) false = decide (e ∈ met) := hS.2 e
    by_cases hmem : e ∈ met
    · obtain ⟨count', ks', vs', met', ⟨q1, q2, _⟩, g1, g2⟩ := cls_loop L hL hl rest k (i + 1) count ks vs met h2 (by omega) hS (by omega) hc0 (by omega) (by omega)
      refine ⟨count', ks', vs', met', ⟨q1, by simp; omega, fun e' r' he hn => by cases he; exact absurd hmem hn⟩, fun b0 r0 => ?_, fun b0 r0 => ?_⟩
      · rw [spec_ClassNumber_l6, dec_lt_t (by omega), dec_le_t (by omega), cond_true, Bool.and_true, cond_true, Int.toNat_natCast, h1, Option.bind_some, has_eq e k met _ hmb (by omega), decide_eq_true hmem, Bool.not_true, cond_false, e1]
        exact g1 b0 r0
      · rw [impl_ClassNumber_l6, dec_lt_t (by omega), dec_le_t (by omega), cond_true, Bool.and_true, cond_true, Int.toNat_natCast, h1, Option.bind_some, hg, decide_eq_true hmem]
        show (bif true then impl_ClassNumber_l6 k count L.length (w64 ((i : Int) + 1)) ks vs L b0 r0 else _) = _
        rw [cond_true, e1]
        exact g2 b0 r0
    · obtain ⟨n, g, n1, n2, _, c1, c2⟩ := cycle_eq (α := α) hF
      have hCl : (listT d s n g).length = n := listT_length _ _ _ _
      generalize listT d s n g = C at c1 c2 hCl
      have hCb : C.length ≤ big := by rw [big_val]; omega
      have hdec : decide (met.length + C.length ≤ big) = true := decide_eq_true (by rw [big_val]; omega)
      obtain ⟨ks1, vs1, hS1, hin⟩ := cls_l11 (α := α) C (count + 1) L.length i L hCb C k 0 ks vs met (by simp) (by omega) hS (by omega)
      obtain ⟨count', ks', vs', met', ⟨q1, q2, _⟩, g1, g2⟩ := cls_loop L hL hl rest k (i + 1) (count + 1) ks1 vs1 (met ++ C) h2 (by omega) hS1 (by simp; omega) (by omega) (by omega) (by omega)
      refine ⟨count', ks', vs', met', ⟨by omega, by simp; omega, fun _ _ _ _ => q1⟩, fun b0 r0 => ?_, fun b0 r0 => ?_⟩
      · rw [spec_ClassNumber_l6, dec_lt_t (by omega), dec_le_t (by omega), cond_true, Bool.and_true, cond_true, Int.toNat_natCast, h1, Option.bind_some, has_eq e k met _ hmb (by omega), decide_eq_false hmem, Bool.not_false, cond_true, Option.bind_some, c1 k (by omega), hdec, cond_true, e1, e2]
        exact g1 b0 r0
      · rw [impl_ClassNumber_l6, dec_lt_t (by omega), dec_le_t (by omega), cond_true, Bool.and_true, cond_true, Int.toNat_natCast, h1, Option.bind_some, hg, decide_eq_false hmem]
        show (bif false then _ else impl_Form_cycle k e.1 e.2.1 e.2.2 _) = _
        rw [cond_false, c2 k (by omega), e2]
        have := hin (fun many2 x9 x10 _ _ seen4 seen5 x13 _ => impl_ClassNumber_l6 k many2 x9 (w64 (x10 + 1)) seen4 seen5 x13 b0 r0) r0
        refine this.trans ?_
        rw [e1]
        exact g2 b0 r0
  | _, 0, _, _, _, _, _, _, _, _, _, _, _, hk => by omega

theorem law_ClassNumber (k : Nat) (hk : 100010000 < k) (d : Int) (r : Bool → Option α) : laws_FnExactClassNumber k d r = r true := by
  unfold laws_FnExactClassNumber spec_ClassNumber impl_ClassNumber
  rcases forms_both (α := α) d with ⟨e, he, h1, h2⟩ | ⟨s, l, hl, hll, h1, h2, h3⟩
  · simp [h1 k (by omega), h2 k (by omega), he]
  · obtain ⟨count', ks', vs', met', _, g1, g2⟩ := cls_loop (α := α) l hl hll l k 0 0 [] [] [] (by simp) (by omega) SeenF.nil (by simp) (by omega) (by omega) (by omega)
    have g1' : ∀ (b0 : Int → Int → (List (Int × Int × Int)) → (List (Int × Int × Int)) → Option α) r0, spec_ClassNumber_l6 k 0 0 l [] b0 r0 = b0 count' l.length l met' := g1
    have g2' : ∀ (b0 : Int → Int → Int → (List (Int × Int × Int)) → List Bool → (List (Int × Int × Int)) → Option α) r0, impl_ClassNumber_l6 k 0 l.length 0 [] [] l b0 r0 = b0 count' l.length l.length ks' vs' l := g2
    simp only [h1 k (by omega), h2 k (by omega), h3 k (by omega), decide_true, Bool.not_true, cond_false]
    rw [g1', g2']
    simp

end Go.Sh
