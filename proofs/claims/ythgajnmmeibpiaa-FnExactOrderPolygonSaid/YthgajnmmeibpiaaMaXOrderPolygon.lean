/- Plain laws: what the readings without memory answer. -/
import Derived.Test.YthgajnmmeibpiaaShXOrderPolygon
namespace Go.Sh
open Go Go.Ev

variable {α : Type}

/-- A ring of n points. -/
structure Ring (n : Nat) (X Y : Nat → Int) : Prop where
  pos : 3 ≤ n
  px : ∀ i, X (i + n) = X i
  py : ∀ i, Y (i + n) = Y i

/-- The determinant of the sides i and j. -/
def cr (X Y : Nat → Int) (i j : Nat) : Int := (X (i + 1) - X i) * (Y (j + 1) - Y j) - (Y (i + 1) - Y i) * (X (j + 1) - X j)

/-- Does a direction go up? -/
def upV (x y : Int) : Prop := 0 < y ∨ (y = 0 ∧ 0 < x)

instance (x y : Int) : Decidable (upV x y) := by unfold upV; infer_instance

def upS (X Y : Nat → Int) (i : Nat) : Prop := upV (X (i + 1) - X i) (Y (i + 1) - Y i)

theorem up_neg {x y : Int} (h : ¬ upV x y) (h0 : x ≠ 0 ∨ y ≠ 0) : upV (-x) (-y) := by
  unfold upV at h ⊢
  omega

/-- Directions that go up are in order. -/
theorem up_trans {a b c d e f : Int} (h1 : upV a b) (h2 : upV c d) (h3 : upV e f) (k1 : 0 ≤ a * d - b * c) (k2 : 0 < c * f - d * e) : 0 < a * f - b * e := by
  have key : d * (a * f - b * e) = b * (c * f - d * e) + f * (a * d - b * c) := by grind
  unfold upV at h1 h2 h3
  have hf : 0 ≤ f := by omega
  have hb : 0 ≤ b := by omega
  rcases h2 with hd | ⟨hd, hc⟩
  · rcases h1 with hb1 | ⟨hb1, ha⟩
    · have g1 := Int.mul_pos hb1 k2
      have g2 := Int.mul_nonneg hf k1
      rcases ilt_or_ge 0 (a * f - b * e) with h | h
      · exact h
      · have := Int.mul_nonneg (show 0 ≤ d by omega) (show 0 ≤ -(a * f - b * e) by omega)
        rw [Int.mul_neg] at this
        omega
    · subst hb1
      have hf1 : 0 < f := by
        rcases h3 with h3 | ⟨h3, he⟩
        · exact h3
        · exfalso
          subst h3
          have := Int.mul_pos hd he
          simp at k2
          omega
      have := Int.mul_pos ha hf1
      simp
      exact this
  · subst hd
    have hf1 : 0 < f := by
      rcases h3 with h3 | ⟨h3, he⟩
      · exact h3
      · exfalso
        subst h3
        simp at k2
    have hb0 : b = 0 := by
      rcases ilt_or_ge 0 b with h | h
      · have := Int.mul_pos h hc
        simp at k1
        omega
      · omega
    subst hb0
    have ha : 0 < a := by omega
    have := Int.mul_pos ha hf1
    simp
    exact this

theorem cr_anti (X Y : Nat → Int) (i j : Nat) : cr X Y j i = -(cr X Y i j) := by
  unfold cr
  grind

variable {n : Nat} {X Y : Nat → Int}

theorem Ring.cr_r (h : Ring n X Y) (i j : Nat) : cr X Y i (j + n) = cr X Y i j := by
  unfold cr
  have e : j + n + 1 = j + 1 + n := by omega
  rw [e, h.px, h.px, h.py, h.py]

theorem Ring.cr_l (h : Ring n X Y) (i j : Nat) : cr X Y (i + n) j = cr X Y i j := by
  unfold cr
  have e : i + n + 1 = i + 1 + n := by omega
  rw [e, h.px, h.px, h.py, h.py]

theorem Ring.up_p (h : Ring n X Y) (i : Nat) : upS X Y (i + n) ↔ upS X Y i := by
  unfold upS
  have e : i + n + 1 = i + 1 + n := by omega
  rw [e, h.px, h.px, h.py, h.py]

/-- Around once: first sides that go up, then sides that do not. -/
structure Once (n : Nat) (X Y : Nat → Int) (s m : Nat) : Prop where
  ring : Ring n X Y
  m0 : 1 ≤ m
  m1 : m < n
  turn : ∀ i, 0 < cr X Y i (i + 1)
  up : ∀ j, s ≤ j → j < s + m → upS X Y j
  low : ∀ j, s + m ≤ j → j < s + n → ¬ upS X Y j

theorem side_ne (h : ∀ i, 0 < cr X Y i (i + 1)) (i : Nat) : X (i + 1) - X i ≠ 0 ∨ Y (i + 1) - Y i ≠ 0 := by
  have := h i
  rcases Classical.em (X (i + 1) - X i = 0) with h1 | h1
  · rcases Classical.em (Y (i + 1) - Y i = 0) with h2 | h2
    · exfalso
      unfold cr at this
      rw [h1, h2] at this
      simp at this
    · exact .inr h2
  · exact .inl h1

theorem low_neg (h : ∀ i, 0 < cr X Y i (i + 1)) {i : Nat} (hl : ¬ upS X Y i) : upV (-(X (i + 1) - X i)) (-(Y (i + 1) - Y i)) := up_neg hl (side_ne h i)

theorem tr_up {i j k : Nat} (h1 : upS X Y i) (h2 : upS X Y j) (h3 : upS X Y k) (k1 : 0 ≤ cr X Y i j) (k2 : 0 < cr X Y j k) : 0 < cr X Y i k := up_trans h1 h2 h3 k1 k2

theorem neg_mul2 (a b c d : Int) : -a * -d - -b * -c = a * d - b * c := by grind

theorem tr_low (h : ∀ i, 0 < cr X Y i (i + 1)) {i j k : Nat} (h1 : ¬ upS X Y i) (h2 : ¬ upS X Y j) (h3 : ¬ upS X Y k) (k1 : 0 ≤ cr X Y i j) (k2 : 0 < cr X Y j k) : 0 < cr X Y i k := by
  have := up_trans (low_neg h h1) (low_neg h h2) (low_neg h h3) (by rw [neg_mul2]; exact k1) (by rw [neg_mul2]; exact k2)
  rw [neg_mul2] at this
  exact this

/-- Of a side that goes up, and two that do not. -/
theorem tr_ull (h : ∀ i, 0 < cr X Y i (i + 1)) {i j k : Nat} (h1 : upS X Y i) (h2 : ¬ upS X Y j) (h3 : ¬ upS X Y k) (k1 : cr X Y i j ≤ 0) (k2 : 0 < cr X Y j k) : cr X Y i k < 0 := by
  have := up_trans h1 (low_neg h h2) (low_neg h h3) (by unfold cr at k1; rw [Int.mul_neg, Int.mul_neg]; omega) (by rw [neg_mul2]; exact k2)
  rw [Int.mul_neg, Int.mul_neg] at this
  unfold cr
  omega

theorem tr_luu (h : ∀ i, 0 < cr X Y i (i + 1)) {i j k : Nat} (h1 : ¬ upS X Y i) (h2 : upS X Y j) (h3 : upS X Y k) (k1 : cr X Y i j ≤ 0) (k2 : 0 < cr X Y j k) : cr X Y i k < 0 := by
  have := up_trans (low_neg h h1) h2 h3 (by unfold cr at k1; rw [Int.neg_mul, Int.neg_mul]; omega) k2
  rw [Int.neg_mul, Int.neg_mul] at this
  unfold cr
  omega

variable {s m : Nat}

theorem Once.mono_up (h : Once n X Y s m) {i : Nat} (hi : s ≤ i) : ∀ d, i + d + 1 < s + m → 0 < cr X Y i (i + d + 1)
  | 0, _ => h.turn i
  | d + 1, hd => tr_up (h.up i hi (by omega)) (h.up (i + d + 1) (by omega) (by omega)) (h.up (i + (d + 1) + 1) (by omega) (by omega)) (Int.le_of_lt (h.mono_up hi d (by omega))) (h.turn (i + d + 1))

theorem Once.mono_low (h : Once n X Y s m) {i : Nat} (hi : s + m ≤ i) : ∀ d, i + d + 1 < s + n → 0 < cr X Y i (i + d + 1)
  | 0, _ => h.turn i
  | d + 1, hd => tr_low h.turn (h.low i hi (by omega)) (h.low (i + d + 1) (by omega) (by omega)) (h.low (i + (d + 1) + 1) (by omega) (by omega)) (Int.le_of_lt (h.mono_low hi d (by omega))) (h.turn (i + d + 1))

theorem Once.up_lt (h : Once n X Y s m) {i j : Nat} (hi : s ≤ i) (hij : i < j) (hj : j < s + m) : 0 < cr X Y i j := by
  have := h.mono_up hi (j - i - 1) (by omega)
  rwa [show i + (j - i - 1) + 1 = j by omega] at this

theorem Once.low_lt (h : Once n X Y s m) {i j : Nat} (hi : s + m ≤ i) (hij : i < j) (hj : j < s + n) : 0 < cr X Y i j := by
  have := h.mono_low hi (j - i - 1) (by omega)
  rwa [show i + (j - i - 1) + 1 = j by omega] at this

/-- Behind the first side that is not to the left all are to the right. -/
theorem Once.falls (h : Once n X Y s m) {i j : Nat} (hi : s ≤ i) (hi2 : i < s + n) (hij : i < j) (hj : j + 1 < i + n) (hc : cr X Y i j ≤ 0) : cr X Y i (j + 1) < 0 := by
  have hr := h.ring
  have hm := h.m1
  rcases Nat.lt_or_ge i (s + m) with hu | hu
  · -- the side goes up
    have hiu := h.up i hi hu
    rcases Nat.lt_or_ge j (s + m) with h1 | h1
    · have := h.up_lt hi hij h1
      omega
    · rcases Nat.lt_or_ge (j + 1) (s + n) with h2 | h2
      · exact tr_ull h.turn hiu (h.low j h1 (by omega)) (h.low (j + 1) (by omega) h2) hc (h.turn j)
      · have e : j + 1 = (j + 1 - n) + n := by omega
        rw [e, hr.cr_r, cr_anti]
        have := h.up_lt (i := j + 1 - n) (j := i) (by omega) (by omega) hu
        omega
  · have hil := h.low i hu hi2
    rcases Nat.lt_or_ge j (s + n) with h1 | h1
    · have := h.low_lt hu hij h1
      omega
    · have e0 : j = (j - n) + n := by omega
      have e : j + 1 = (j + 1 - n) + n := by omega
      rcases Nat.lt_or_ge (j + 1) (s + n + m) with h2 | h2
      · have u1 : upS X Y j := by rw [e0, hr.up_p]; exact h.up _ (by omega) (by omega)
        have u2 : upS X Y (j + 1) := by rw [e, hr.up_p]; exact h.up _ (by omega) (by omega)
        exact tr_luu h.turn hil u1 u2 hc (h.turn j)
      · rw [e, hr.cr_r, cr_anti]
        have := h.low_lt (i := j + 1 - n) (j := i) (by omega) (by omega) hi2
        omega

/-- The determinant of side i and the way from its end to a point. -/
def ori (X Y : Nat → Int) (i k : Nat) : Int := (X (i + 1) - X i) * (Y k - Y (i + 1)) - (Y (i + 1) - Y i) * (X k - X (i + 1))

theorem ori_step (i k : Nat) : ori X Y i (k + 1) = ori X Y i k + cr X Y i k := by
  unfold ori cr
  grind

theorem Ring.ori_p (h : Ring n X Y) (i k : Nat) : ori X Y i (k + n) = ori X Y i k := by
  unfold ori
  rw [h.px, h.py]

theorem Ring.ori_l (h : Ring n X Y) (i k : Nat) : ori X Y (i + n) k = ori X Y i k := by
  unfold ori
  have e : i + n + 1 = i + 1 + n := by omega
  rw [e, h.px, h.px, h.py, h.py]

theorem ori_self (i : Nat) : ori X Y i i = 0 ∧ ori X Y i (i + 1) = 0 := by
  unfold ori
  grind

/-- All of them are to the right from a place on. -/
theorem Once.falls_on (h : Once n X Y s m) {i j : Nat} (hi : s ≤ i) (hi2 : i < s + n) (hij : i < j) (hc : cr X Y i j ≤ 0) : ∀ d, j + d + 1 < i + n → cr X Y i (j + d + 1) < 0
  | 0, hd => h.falls hi hi2 hij hd hc
  | d + 1, hd => h.falls hi hi2 (by omega) hd (Int.le_of_lt (h.falls_on hi hi2 hij hc d (by omega)))

/-- To the left of a side lie all other points. -/
theorem Once.left (h : Once n X Y s m) {i : Nat} (hi : s ≤ i) (hi2 : i < s + n) : ∀ d, i + d + 2 < i + n → 0 < ori X Y i (i + d + 2) := by
  have hr := h.ring
  -- as long as sides turn left the determinant grows
  have grow : ∀ d, (∀ j, i < j → j ≤ i + d + 1 → 0 < cr X Y i j) → 0 < ori X Y i (i + d + 2) := by
    intro d
    induction d with
    | zero =>
      intro hj
      rw [ori_step (i := i) (k := i + 1), (ori_self i).2]
      have := hj (i + 1) (by omega) (by omega)
      omega
    | succ d ih =>
      intro hj
      rw [show i + (d + 1) + 2 = (i + d + 2) + 1 by omega, ori_step]
      have h1 := ih fun j a b => hj j a (by omega)
      have h2 := hj (i + d + 2) (by omega) (by omega)
      omega
  -- once they turn right it is greater than 0 till the end
  have back : ∀ d, ∀ k, k + d + 1 = i + n → i < k → (∀ j, k ≤ j → j < i + n → cr X Y i j < 0) → 0 < ori X Y i k := by
    intro d
    induction d with
    | zero =>
      intro k hk hik hj
      have h1 := ori_step (X := X) (Y := Y) i k
      rw [show k + 1 = i + n by omega, hr.ori_p, (ori_self i).1] at h1
      have := hj k (by omega) (by omega)
      omega
    | succ d ih =>
      intro k hk hik hj
      have h1 := ori_step (X := X) (Y := Y) i k
      have h2 := ih (k + 1) (by omega) (by omega) fun j a b => hj j (by omega) b
      have := hj k (by omega) (by omega)
      omega
  intro d hd
  by_cases hall : ∀ j, i < j → j ≤ i + d + 1 → 0 < cr X Y i j
  · exact grow d hall
  · obtain ⟨j, hj⟩ := Classical.not_forall.1 hall
    simp only [Classical.not_imp, Int.not_lt] at hj
    obtain ⟨h1, h2, h3⟩ := hj
    refine back (n - d - 3) (i + d + 2) (by omega) (by omega) fun l a b => ?_
    have := h.falls_on hi hi2 h1 h3 (l - j - 1) (by omega)
    rwa [show j + (l - j - 1) + 1 = l by omega] at this

/-- All points to the left of all sides. -/
def Glob (n : Nat) (X Y : Nat → Int) : Prop := ∀ i d, d + 2 < n → 0 < ori X Y i (i + d + 2)

/-- Left turns alone, and once around. -/
def Loc (n : Nat) (X Y : Nat → Int) : Prop := (∀ i, 0 < cr X Y i (i + 1)) ∧ ∃ t, t < n ∧ ¬ upS X Y t ∧ upS X Y (t + 1) ∧ ∀ j, j < n → ¬ upS X Y j → upS X Y (j + 1) → j = t

theorem least_of (P : Nat → Prop) : ∀ N, P N → ∃ d, d ≤ N ∧ P d ∧ ∀ e, e < d → ¬ P e
  | 0, h => ⟨0, by omega, h, fun e he => by omega⟩
  | N + 1, h => by
    by_cases hl : ∃ e, e ≤ N ∧ P e
    · obtain ⟨e, he, hp⟩ := hl
      obtain ⟨d, h1, h2, h3⟩ := least_of (fun x => P x ∧ x ≤ e) e ⟨hp, Nat.le_refl _⟩ |> fun ⟨d, a, b, c⟩ => (⟨d, a, b.1, fun x hx hPx => c x hx ⟨hPx, by omega⟩⟩ : ∃ d, d ≤ e ∧ P d ∧ ∀ x, x < d → ¬ P x)
      exact ⟨d, by omega, h2, h3⟩
    · exact ⟨N + 1, by omega, h, fun e he hp => hl ⟨e, by omega, hp⟩⟩

theorem Loc.once (hr : Ring n X Y) (h : Loc n X Y) : ∃ s m, Once n X Y s m := by
  obtain ⟨ht, t, htn, hlow, hup, huniq⟩ := h
  have hlow2 : ¬ upS X Y (t + n) := fun h => hlow ((hr.up_p t).1 h)
  have hp := hr.pos
  obtain ⟨m, hm1, hm2, hm3⟩ := least_of (fun d => ¬ upS X Y (t + 1 + d)) (n - 1) (by
    rw [show t + 1 + (n - 1) = t + n by omega]
    exact hlow2)
  have hm0 : 1 ≤ m := by
    rcases Nat.lt_or_ge 0 m with h | h
    · exact h
    · exfalso
      have : m = 0 := by omega
      subst this
      exact hm2 hup
  refine ⟨t + 1, m, ⟨hr, hm0, by omega, ht, fun j h1 h2 => ?_, fun j h1 h2 => ?_⟩⟩
  · have := hm3 (j - (t + 1)) (by omega)
    rw [show t + 1 + (j - (t + 1)) = j by omega] at this
    exact Classical.not_not.1 this
  · have key : ∀ d, t + 1 + m + d < t + 1 + n → ¬ upS X Y (t + 1 + m + d) := by
      intro d
      induction d with
      | zero => intro _; exact hm2
      | succ d ih =>
        intro hd hu
        have h1 := ih (by omega)
        rcases Nat.lt_or_ge (t + 1 + m + d) n with h3 | h3
        · have := huniq _ h3 h1 hu
          omega
        · have e1 : t + 1 + m + d = (t + 1 + m + d - n) + n := by omega
          have e2 : t + 1 + m + (d + 1) = (t + 1 + m + d - n + 1) + n := by omega
          rw [e1, hr.up_p] at h1
          rw [e2, hr.up_p] at hu
          have := huniq _ (by omega) h1 hu
          omega
    have := key (j - (t + 1 + m)) (by omega)
    rwa [show t + 1 + m + (j - (t + 1 + m)) = j by omega] at this

theorem Loc.glob (hr : Ring n X Y) (h : Loc n X Y) : Glob n X Y := by
  obtain ⟨s, m, ho⟩ := h.once hr
  have hp := hr.pos
  -- each number has a neighbour in the round from s on
  have key : ∀ q i d, s ≤ i + n * q → i + n * q < s + n → d + 2 < n → 0 < ori X Y i (i + d + 2) := by
    intro q
    induction q with
    | zero => intro i d h1 h2 hd; exact ho.left (by simpa using h1) (by simpa using h2) d (by omega)
    | succ q ih =>
      intro i d h1 h2 hd
      have := ih (i + n) d (by rw [Nat.mul_add] at h1; omega) (by rw [Nat.mul_add] at h2; omega) hd
      rw [hr.ori_l, show i + n + d + 2 = i + d + 2 + n by omega, hr.ori_p] at this
      exact this
  have down : ∀ q i d, s ≤ i → i < s + n * q → d + 2 < n → 0 < ori X Y i (i + d + 2) := by
    intro q
    induction q with
    | zero => intro i d h1 h2; omega
    | succ q ih =>
      intro i d h1 h2 hd
      rcases Nat.lt_or_ge i (s + n) with h3 | h3
      · exact ho.left h1 h3 d (by omega)
      · have := ih (i - n) d (by omega) (by rw [Nat.mul_add] at h2; omega) hd
        rw [← hr.ori_l, ← hr.ori_p, show i - n + n = i by omega, show i - n + d + 2 + n = i + d + 2 by omega] at this
        exact this
  intro i d hd
  rcases Nat.lt_or_ge i s with h1 | h1
  · -- ahead of s
    have up : ∀ q i d, i < s → s ≤ i + n * q → d + 2 < n → 0 < ori X Y i (i + d + 2) := by
      intro q
      induction q with
      | zero => intro i d h1 h2; omega
      | succ q ih =>
        intro i d h1 h2 hd
        have : 0 < ori X Y (i + n) (i + n + d + 2) := by
          rcases Nat.lt_or_ge (i + n) s with h3 | h3
          · exact ih (i + n) d h3 (by rw [Nat.mul_add] at h2; omega) hd
          · exact down 1 (i + n) d h3 (by omega) hd
        rw [hr.ori_l, show i + n + d + 2 = i + d + 2 + n by omega, hr.ori_p] at this
        exact this
    refine up s i d h1 ?_ hd
    have : s * 1 ≤ s * n := Nat.mul_le_mul_left _ (by omega)
    rw [Nat.mul_comm n s]
    omega
  · refine down (i + 1) i d h1 ?_ hd
    have : (i + 1) * 1 ≤ (i + 1) * n := Nat.mul_le_mul_left _ (by omega)
    rw [Nat.mul_comm n (i + 1)]
    omega

theorem Glob.turn (hr : Ring n X Y) (h : Glob n X Y) (i : Nat) : 0 < cr X Y i (i + 1) := by
  have hp := hr.pos
  have := h i 0 (by omega)
  rw [show i + 0 + 2 = (i + 1) + 1 by omega, ori_step, (ori_self i).2] at this
  omega

/-- Where a side that does not go up is followed by one that does there is the least point. -/
theorem Glob.least (hr : Ring n X Y) (h : Glob n X Y) {t : Nat} (hl : ¬ upS X Y t) (hu : upS X Y (t + 1)) : ∀ d, 1 ≤ d → d < n → upV (X (t + 1 + d) - X (t + 1)) (Y (t + 1 + d) - Y (t + 1)) := by
  have ht := h.turn hr
  intro d hd hdn
  have hln := low_neg ht hl
  rcases Nat.lt_or_ge d 2 with h1 | h1
  · have : d = 1 := by omega
    subst this
    exact hu
  · rcases Nat.lt_or_ge d (n - 1) with h2 | h2
    · have o1 := h t (d - 1) (by omega)
      have o2 := h (t + 1) (d - 2) (by omega)
      rw [show t + (d - 1) + 2 = t + 1 + d by omega] at o1
      rw [show t + 1 + (d - 2) + 2 = t + 1 + d by omega] at o2
      rcases Classical.em (upV (X (t + 1 + d) - X (t + 1)) (Y (t + 1 + d) - Y (t + 1))) with hv | hv
      · exact hv
      · exfalso
        have hne : X (t + 1 + d) - X (t + 1) ≠ 0 ∨ Y (t + 1 + d) - Y (t + 1) ≠ 0 := by
          rcases Classical.em (X (t + 1 + d) - X (t + 1) = 0) with g1 | g1
          · rcases Classical.em (Y (t + 1 + d) - Y (t + 1) = 0) with g2 | g2
            · exfalso
              unfold ori at o1
              rw [g1, g2] at o1
              simp at o1
            · exact .inr g2
          · exact .inl g1
        have hw := up_neg hv hne
        have hh := ht t
        unfold upS at hu
        have := up_trans hln hw hu (by unfold ori at o1; rw [neg_mul2]; exact Int.le_of_lt o1) (by unfold ori at o2; grind)
        unfold cr at hh
        rw [Int.neg_mul, Int.neg_mul] at this
        omega
    · have : d = n - 1 := by omega
      subst this
      rw [show t + 1 + (n - 1) = t + n by omega, hr.px, hr.py]
      rw [Int.neg_sub, Int.neg_sub] at hln
      exact hln

theorem up_both {x y : Int} (h1 : upV x y) (h2 : upV (-x) (-y)) : False := by
  unfold upV at h1 h2
  omega

theorem Glob.loc (hr : Ring n X Y) (h : Glob n X Y) : Loc n X Y := by
  have hp := hr.pos
  have ht := h.turn hr
  refine ⟨ht, ?_⟩
  -- there is a place where sides begin to go up
  have hex : ∃ t, t < n ∧ ¬ upS X Y t ∧ upS X Y (t + 1) := by
    rcases Classical.em (∃ t, t < n ∧ ¬ upS X Y t ∧ upS X Y (t + 1)) with g | g
    · exact g
    · exfalso
      have gno : ∀ j, ¬ upS X Y j → ¬ upS X Y (j + 1) := by
        have : ∀ q j, j < n + n * q → ¬ upS X Y j → ¬ upS X Y (j + 1) := by
          intro q
          induction q with
          | zero => intro j hj h1 h2; exact g ⟨j, by simpa using hj, h1, h2⟩
          | succ q ih =>
            intro j hj h1 h2
            rcases Nat.lt_or_ge j n with h3 | h3
            · exact g ⟨j, h3, h1, h2⟩
            · have e1 : j = (j - n) + n := by omega
              have e2 : j + 1 = (j - n + 1) + n := by omega
              rw [e1, hr.up_p] at h1
              rw [e2, hr.up_p] at h2
              exact ih (j - n) (by rw [Nat.mul_add] at hj; omega) h1 h2
        intro j
        refine this j j ?_
        have : j * 1 ≤ j * n := Nat.mul_le_mul_left _ (by omega)
        rw [Nat.mul_comm n j]
        omega
      by_cases ha : ∃ j, ¬ upS X Y j
      · obtain ⟨j, hj⟩ := ha
        -- none goes up behind it
        have all : ∀ d, ¬ upS X Y (j + d) := by
          intro d
          induction d with
          | zero => exact hj
          | succ d ih => exact gno _ ih
        have mono : ∀ d, Y (j + d) ≤ Y j ∧ (Y (j + d) = Y j → X (j + d) ≤ X j ∧ (1 ≤ d → X (j + d) < X j)) := by
          intro d
          induction d with
          | zero => simp
          | succ d ih =>
            have h1 := low_neg ht (all d)
            unfold upV at h1
            rw [← Nat.add_assoc]
            refine ⟨by omega, fun e => ?_⟩
            have h2 : Y (j + d) = Y j := by omega
            have h3 := ih.2 h2
            refine ⟨by omega, fun _ => by omega⟩
        have := (mono n).2 (hr.py j)
        have h2 := this.2 (by omega)
        rw [hr.px] at h2
        omega
      · have all : ∀ j, upS X Y j := fun j => by
          rcases Classical.em (upS X Y j) with h1 | h1
          · exact h1
          · exact absurd ⟨j, h1⟩ ha
        have mono : ∀ d, Y 0 ≤ Y d ∧ (Y d = Y 0 → X 0 ≤ X d ∧ (1 ≤ d → X 0 < X d)) := by
          intro d
          induction d with
          | zero => simp
          | succ d ih =>
            have h1 := all d
            unfold upS upV at h1
            refine ⟨by omega, fun e => ?_⟩
            have h2 : Y d = Y 0 := by omega
            have h3 := ih.2 h2
            refine ⟨by omega, fun _ => by omega⟩
        have e1 := hr.py 0
        have e2 := hr.px 0
        rw [Nat.zero_add] at e1 e2
        have := ((mono n).2 e1).2 (by omega)
        omega
  obtain ⟨t, htn, hl, hu⟩ := hex
  refine ⟨t, htn, hl, hu, fun j hj hjl hju => ?_⟩
  rcases Nat.lt_trichotomy j t with h1 | h1 | h1
  · exfalso
    have a1 := h.least hr hjl hju (t - j) (by omega) (by omega)
    have a2 := h.least hr hl hu (n + j - t) (by omega) (by omega)
    rw [show j + 1 + (t - j) = t + 1 by omega] at a1
    rw [show t + 1 + (n + j - t) = j + 1 + n by omega, hr.px, hr.py] at a2
    refine up_both a1 ?_
    rw [Int.neg_sub, Int.neg_sub]
    exact a2
  · exact h1
  · exfalso
    have a1 := h.least hr hl hu (j - t) (by omega) (by omega)
    have a2 := h.least hr hjl hju (n + t - j) (by omega) (by omega)
    rw [show t + 1 + (j - t) = j + 1 by omega] at a1
    rw [show j + 1 + (n + t - j) = t + 1 + n by omega, hr.px, hr.py] at a2
    refine up_both a1 ?_
    rw [Int.neg_sub, Int.neg_sub]
    exact a2

/-- Both tests of a polygon come to the same. -/
theorem ring_iff (hr : Ring n X Y) : Loc n X Y ↔ Glob n X Y := ⟨fun h => h.glob hr, fun h => h.loc hr⟩

theorem spec_l01In_eq (k : Nat) (n low high : Int) (r : Bool → Option α) : spec_l01In k n low high r = r (inB n low high) := by
  unfold spec_l01In inB
  cases decide (low ≤ n) <;> rfl

theorem spec_l01Fits_eq (k : Nat) (n : Int) (r : Bool → Option α) : spec_l01Fits k n r = r (crd n) := by
  simp only [spec_l01Fits, spec_l01In_eq]; rfl

theorem spec_l01Is_eq (k : Nat) (a b : Int) (r : Bool → Option α) : spec_l01Is k a b r = r (crd a && crd b) := by
  simp only [spec_l01Is, spec_l01Fits_eq]
  cases crd a <;> rfl

theorem impl_in_eq (k : Nat) (n low high : Int) (r : Bool → Option α) : impl_in k n low high r = r (inB n low high) := by
  unfold impl_in inB
  cases decide (low ≤ n) <;> rfl

theorem set_mid {β : Type} (pre : List β) (x y : β) (rest : List β) : (pre ++ x :: rest).set pre.length y = pre ++ [y] ++ rest := by
  rw [List.set_append_right _ _ (Nat.le_refl _)]
  simp

/-- The same for points. -/
def markedP : Nat → Int → List (Int × Int)
  | 0, _ => []
  | n + 1, m => (m, m + 1) :: markedP n (m + 2)

theorem markedP_length : ∀ (n : Nat) (m : Int), (markedP n m).length = n
  | 0, _ => rfl
  | n + 1, m => by simp [markedP, markedP_length n]

theorem laws_eqPoint_eq (k : Nat) (a b c d : Int) (r : Bool → Option α) : laws_eqPoint k a b c d r = r (decide (a = c) && decide (b = d)) := by
  unfold laws_eqPoint
  cases decide (a = c) <;> cases decide (b = d) <;> rfl

theorem eqPointS_l4_same : ∀ (rest : List (Int × Int)) (k i : Nat) (s : List (Int × Int)) b (r : Bool → Option α), s.drop i = rest → s.length ≤ big → i ≤ s.length → rest.length < k → laws_eqPointS_l4 k i s s b r = b s.length s s
  | [], k + 1, i, s, b, r, hd, hb, hi, _ => by
    have h1 := drop_nil hd
    have h2 : i = s.length := by omega
    subst h2
    rw [laws_eqPointS_l4, dec_lt_f (by omega)]
    rfl
  | e :: rest, k + 1, i, s, b, r, hd, hb, hi, hk => by
    obtain ⟨h1, h2, h3⟩ := drop_cons hd
    rw [big_val] at hb
    rw [laws_eqPointS_l4, dec_lt_t (by omega), dec_le_t (by omega), cond_true, Bool.and_true, cond_true, Int.toNat_natCast, h1, Option.bind_some, cond_true]
    have e1 : w64 ((i : Int) + 1) = ((i + 1 : Nat) : Int) := by rw [w64_of (by omega) (by omega)]; omega
    simp only [Option.bind_some, laws_eqPoint_eq, decide_true, Bool.and_true, Bool.not_true, cond_false, e1]
    exact eqPointS_l4_same rest k (i + 1) s b r h2 (by rw [big_val]; omega) (by omega) (by simp at hk; omega)
  | _, 0, _, _, _, _, _, _, _, hk => by omega

theorem eqPointS_same (k : Nat) (s : List (Int × Int)) (r : Bool → Option α) (hs : s.length ≤ big) (hk : s.length < k) : laws_eqPointS k s s r = r true := by
  unfold laws_eqPointS
  have h := eqPointS_l4_same (α := α) s k 0 s (fun _ _ _ => r true) r (by simp) hs (by omega) hk
  simpa using h

theorem markPointS_l2_ok : ∀ (rest : List (Int × Int)) (k : Nat) (pre : List (Int × Int)) (m : Int) b (r : Int → List (Int × Int) → Option α), pre.length + rest.length ≤ big → 0 ≤ m → m + 2 * rest.length ≤ 1000000000000000 → rest.length < k →
    laws_markPointS_l2 k m pre.length (pre ++ rest) b r = b (m + 2 * rest.length) (pre.length + rest.length : Nat) (pre ++ markedP rest.length m)
  | [], k + 1, pre, m, b, r, hb, h0, hm, _ => by
    rw [laws_markPointS_l2, dec_lt_f (by simp)]
    simp [markedP]
  | e :: rest, k + 1, pre, m, b, r, hb, h0, hm, hk => by
    rw [big_val] at hb
    simp only [List.length_cons] at hb hk hm
    have hl : (pre ++ e :: rest).length = pre.length + (rest.length + 1) := by simp
    have e1 : w64 ((pre.length : Int) + 1) = ((pre ++ [(m, m + 1)]).length : Int) := by rw [w64_of (by omega) (by omega)]; simp
    have e2 : w64 (m + 1) = m + 1 := w64_of (by omega) (by omega)
    have e3 : w64 (m + 1 + 1) = m + 2 := by rw [w64_of (by omega) (by omega)]; omega
    have hg : (pre ++ e :: rest)[pre.length]? = some e := by simp
    have hg2 : ((pre ++ e :: rest).set pre.length (m, e.2))[pre.length]? = some (m, e.2) := by rw [set_mid]; simp
    have hs2 : ((pre ++ e :: rest).set pre.length (m, e.2)).set pre.length (m, m + 1) = (pre ++ [(m, m + 1)]) ++ rest := by
      rw [List.set_set, set_mid]
    rw [laws_markPointS_l2, hl, dec_lt_t (by omega), dec_le_t (by omega), cond_true, Bool.and_true, cond_true, Int.toNat_natCast, hg, Option.bind_some, List.length_set, hl, dec_lt_t (by omega), Bool.and_self, cond_true, hg2, Option.bind_some, e2, hs2, e1, e3]
    rw [markPointS_l2_ok rest k (pre ++ [(m, m + 1)]) (m + 2) b r (by rw [big_val]; simp; omega) (by omega) (by omega) (by omega)]
    simp only [markedP, List.append_assoc, List.singleton_append, List.length_cons, List.length_append, List.length_nil]
    congr 1
    · omega
    · omega
  | _, 0, _, _, _, _, _, _, _, hk => by omega

theorem markPointS_ok (k : Nat) (s : List (Int × Int)) (m : Int) (r : Int → List (Int × Int) → Option α) (hs : s.length ≤ big) (h0 : 0 ≤ m) (hm : m + 2 * s.length ≤ 1000000000000000) (hk : s.length < k) : laws_markPointS k s m r = r (m + 2 * s.length) (markedP s.length m) := by
  unfold laws_markPointS
  have h := markPointS_l2_ok (α := α) s k [] m (fun a _ c => r a c) r (by simpa using hs) h0 hm hk
  simpa using h

theorem heldPointS_l2_ok : ∀ (n : Nat) (k : Nat) (pre : List (Int × Int)) (m : Int) b (r : Int → Option α), pre.length + n ≤ big → 0 ≤ m → m + 2 * n ≤ 1000000000000000 → n < k →
    laws_heldPointS_l2 k m pre.length (pre ++ markedP n m) b r = b (m + 2 * n) (pre.length + n : Nat) (pre ++ markedP n m)
  | 0, k + 1, pre, m, b, r, hb, h0, hm, _ => by
    rw [laws_heldPointS_l2, dec_lt_f (by simp [markedP])]
    simp [markedP]
  | n + 1, k + 1, pre, m, b, r, hb, h0, hm, hk => by
    rw [big_val] at hb
    have hl : (pre ++ markedP (n + 1) m).length = pre.length + (n + 1) := by simp [markedP_length]
    have e1 : w64 ((pre.length : Int) + 1) = ((pre ++ [(m, m + 1)]).length : Int) := by rw [w64_of (by omega) (by omega)]; simp
    have e2 : w64 (m + 1) = m + 1 := w64_of (by omega) (by omega)
    have e3 : w64 (m + 1 + 1) = m + 2 := by rw [w64_of (by omega) (by omega)]; omega
    have hg : (pre ++ markedP (n + 1) m)[pre.length]? = some (m, m + 1) := by simp [markedP]
    have ha : pre ++ markedP (n + 1) m = (pre ++ [(m, m + 1)]) ++ markedP n (m + 2) := by simp [markedP]
    rw [laws_heldPointS_l2, hl, dec_lt_t (by omega), dec_le_t (by omega), cond_true, Bool.and_true, cond_true, Int.toNat_natCast, hg, Option.bind_some]
    simp only [decide_true, Bool.not_true, cond_false, cond_true, Option.bind_some, e2, e3, e1]
    rw [ha, heldPointS_l2_ok n k (pre ++ [(m, m + 1)]) (m + 2) b r (by rw [big_val]; simp; omega) (by omega) (by omega) (by omega)]
    congr 1
    · omega
    · simp; omega
  | _, 0, _, _, _, _, _, _, _, hk => by omega

theorem heldPointS_ok (k n : Nat) (m : Int) (r : Int → Option α) (hs : n ≤ big) (h0 : 0 ≤ m) (hm : m + 2 * n ≤ 1000000000000000) (hk : n < k) : laws_heldPointS k (markedP n m) m r = r (m + 2 * n) := by
  unfold laws_heldPointS
  have h := heldPointS_l2_ok (α := α) n k [] m (fun a _ _ => r a) r (by simpa using hs) h0 hm hk
  simpa using h

/-- The numbers of a ring of points. -/
def ringX (l : List (Int × Int)) (i : Nat) : Int := (l.getD (i % l.length) (0, 0)).1

def ringY (l : List (Int × Int)) (i : Nat) : Int := (l.getD (i % l.length) (0, 0)).2

theorem ring_of {l : List (Int × Int)} (h : 3 ≤ l.length) : Ring l.length (ringX l) (ringY l) := ⟨h, fun i => by simp [ringX], fun i => by simp [ringY]⟩

theorem ring_get {l : List (Int × Int)} {i : Nat} (h : 0 < l.length) : l[i % l.length]? = some (ringX l i, ringY l i) := by
  have hlt : i % l.length < l.length := Nat.mod_lt _ h
  simp [ringX, ringY, List.getD_eq_getElem?_getD, List.getElem?_eq_getElem hlt]

theorem ring_get' {l : List (Int × Int)} {i : Nat} (h : i < l.length) : l[i]? = some (ringX l i, ringY l i) := by
  have := ring_get (l := l) (i := i) (by omega)
  rwa [Nat.mod_eq_of_lt h] at this

theorem tmod_nat (i n : Nat) (hi : (i : Int) ≤ 1000000000000) (c : Nat) (hc : c ≤ 2) : Int.tmod (w64 ((i : Int) + (c : Int))) (n : Int) = (((i + c) % n : Nat) : Int) := by
  rw [w64_of (by omega) (by omega)]
  have : (i : Int) + (c : Int) = ((i + c : Nat) : Int) := by omega
  rw [this]
  rfl

def sm (x : Int) : Bool := inB x (-1000) 1000

theorem sm_crd {x : Int} (h : sm x = true) : crd x = true := by
  unfold sm at h
  rw [inB_iff] at h
  rw [crd_iff]
  omega

/-- What is looked at from a corner on. -/
def atC (X Y : Nat → Int) (i : Nat) : Bool := sm (X i) && (sm (Y i) && ((crd (X (i + 1)) && crd (Y (i + 1))) && ((crd (X (i + 2)) && crd (Y (i + 2))) && decide (0 < cr X Y i (i + 1)))))

instance (X Y : Nat → Int) (i : Nat) : Decidable (upS X Y i) := by unfold upS; infer_instance

def turnsUp (X Y : Nat → Int) (i : Nat) : Bool := !decide (upS X Y i) && decide (upS X Y (i + 1))

def allF (ok : Nat → Bool) : Nat → Nat → Bool
  | _, 0 => true
  | i, m + 1 => ok i && allF ok (i + 1) m

def cntF (p : Nat → Bool) : Nat → Nat → Int
  | _, 0 => 0
  | i, m + 1 => (bif p i then 1 else 0) + cntF p (i + 1) m

theorem allF_iff {ok : Nat → Bool} : ∀ {m i : Nat}, allF ok i m = true ↔ ∀ j, i ≤ j → j < i + m → ok j = true
  | 0, i => by simp [allF]; intro j h1 h2; omega
  | m + 1, i => by
    simp only [allF, Bool.and_eq_true, allF_iff]
    constructor
    · rintro ⟨h1, h2⟩ j h3 h4
      by_cases e : j = i
      · subst e; exact h1
      · exact h2 j (by omega) (by omega)
    · intro h
      exact ⟨h i (by omega) (by omega), fun j h1 h2 => h j (by omega) (by omega)⟩

theorem cntF_nn {p : Nat → Bool} : ∀ {m i : Nat}, 0 ≤ cntF p i m ∧ cntF p i m ≤ m
  | 0, i => by simp [cntF]
  | m + 1, i => by
    have := cntF_nn (p := p) (m := m) (i := i + 1)
    simp only [cntF]
    cases p i <;> simp <;> omega

theorem cntF_zero {p : Nat → Bool} : ∀ {m i : Nat}, cntF p i m = 0 ↔ ∀ j, i ≤ j → j < i + m → p j = false
  | 0, i => by simp [cntF]; intro j h1 h2; omega
  | m + 1, i => by
    have hn := cntF_nn (p := p) (m := m) (i := i + 1)
    have ih := cntF_zero (p := p) (m := m) (i := i + 1)
    simp only [cntF]
    cases hp : p i with
    | true =>
      simp only [cond_true]
      constructor
      · intro h; omega
      · intro h
        have := h i (by omega) (by omega)
        rw [hp] at this; cases this
    | false =>
      simp only [cond_false, Int.zero_add]
      rw [ih]
      constructor
      · intro h j h1 h2
        by_cases e : j = i
        · subst e; exact hp
        · exact h j (by omega) (by omega)
      · intro h j h1 h2
        exact h j (by omega) (by omega)

theorem cntF_one {p : Nat → Bool} : ∀ {m i : Nat}, cntF p i m = 1 ↔ ∃ t, i ≤ t ∧ t < i + m ∧ p t = true ∧ ∀ j, i ≤ j → j < i + m → p j = true → j = t
  | 0, i => by
    simp only [cntF]
    constructor
    · intro h; omega
    · rintro ⟨t, h1, h2, _⟩; omega
  | m + 1, i => by
    have ih := cntF_one (p := p) (m := m) (i := i + 1)
    have iz := cntF_zero (p := p) (m := m) (i := i + 1)
    simp only [cntF]
    cases hp : p i with
    | true =>
      simp only [cond_true]
      constructor
      · intro h
        have hz := iz.1 (by omega)
        refine ⟨i, by omega, by omega, hp, fun j h1 h2 h3 => ?_⟩
        by_cases e : j = i
        · exact e
        · have := hz j (by omega) (by omega)
          rw [this] at h3; cases h3
      · rintro ⟨t, h1, h2, h3, h4⟩
        have ht := h4 i (by omega) (by omega) hp
        subst ht
        have := iz.2 fun j h5 h6 => by
          cases hj : p j with
          | false => rfl
          | true => have := h4 j (by omega) (by omega) hj; omega
        omega
    | false =>
      simp only [cond_false, Int.zero_add]
      rw [ih]
      constructor
      · rintro ⟨t, h1, h2, h3, h4⟩
        refine ⟨t, by omega, by omega, h3, fun j h5 h6 h7 => ?_⟩
        by_cases e : j = i
        · subst e; rw [hp] at h7; cases h7
        · exact h4 j (by omega) (by omega) h7
      · rintro ⟨t, h1, h2, h3, h4⟩
        have hne : t ≠ i := fun e => by subst e; rw [hp] at h3; cases h3
        exact ⟨t, by omega, by omega, h3, fun j h5 h6 h7 => h4 j (by omega) (by omega) h7⟩

theorem sub_wP {a b : Int} (ha : -1000000 ≤ a ∧ a ≤ 1000000) (hb : -1000000 ≤ b ∧ b ≤ 1000000) : w64 (b + w64 (-1 * a)) = b - a := by
  rw [w64_of (n := -1 * a) (by omega) (by omega), w64_of (by omega) (by omega)]
  omega

theorem det_wP {a b c d : Int} (ha : -2000000 ≤ a ∧ a ≤ 2000000) (hb : -2000000 ≤ b ∧ b ≤ 2000000) (hc : -2000000 ≤ c ∧ c ≤ 2000000) (hd : -2000000 ≤ d ∧ d ≤ 2000000) : w64 (w64 (a * d) - w64 (b * c)) = a * d - b * c := by
  have h1 := mul_bound ha.1 ha.2 hd.1 hd.2
  have h2 := mul_bound hb.1 hb.2 hc.1 hc.2
  rw [w64_of (n := a * d) (by omega) (by omega), w64_of (n := b * c) (by omega) (by omega), w64_of (by omega) (by omega)]

theorem spec_side_eq {a b c d e f : Int} (ha : crd a = true) (hb : crd b = true) (hc : crd c = true) (hd : crd d = true) (he : crd e = true) (hf : crd f = true) (k : Nat) (r : Int → Option α) : spec_l09Side k a b c d e f r = r ((c - a) * (f - d) - (d - b) * (e - c)) := by
  rw [crd_iff] at ha hb hc hd he hf
  simp only [spec_l09Side, spec_l01Plus, spec_l01Det]
  rw [sub_wP ha hc, sub_wP hb hd, sub_wP hc he, sub_wP hd hf, det_wP (by omega) (by omega) (by omega) (by omega)]

theorem spec_half_eq (x y : Int) (k : Nat) (r : Int → Option α) : spec_l09Half k x y r = r (if upV x y then 0 else 1) := by
  simp only [spec_l09Half]
  by_cases h : 0 < y
  · simp [h, upV]
  · by_cases h0 : y = 0
    · subst h0
      by_cases h1 : 0 < x
      · simp [h1, upV]
      · simp [h1, upV]
    · simp [h, h0, upV]

theorem spec_l6 {l : List (Int × Int)} (hl : 3 ≤ l.length) (hl2 : l.length ≤ 12) : ∀ (m k i : Nat) (t : Int) (r : Bool → Option α), i + m = l.length → m < k → 0 ≤ t → t ≤ i →
    spec_l09Is_l6 k l.length t i l (fun _ t _ _ => r (decide (t = 1))) r = r (allF (atC (ringX l) (ringY l)) i m && decide (t + cntF (turnsUp (ringX l) (ringY l)) i m = 1))
  | 0, k + 1, i, t, r, hi, _, _, _ => by
    rw [spec_l09Is_l6, dec_lt_f (by omega)]
    simp [allF, cntF]
  | m + 1, k + 1, i, t, r, hi, hk, h0, h1 => by
    have e1 := tmod_nat i l.length (by omega) 1 (by omega)
    have e2 := tmod_nat i l.length (by omega) 2 (by omega)
    simp only [Int.cast_ofNat_Int] at e1 e2
    have b1 : (i + 1) % l.length < l.length := Nat.mod_lt _ (by omega)
    have b2 : (i + 2) % l.length < l.length := Nat.mod_lt _ (by omega)
    have g0 := ring_get' (l := l) (i := i) (by omega)
    have g1 := ring_get (l := l) (i := i + 1) (by omega)
    have g2 := ring_get (l := l) (i := i + 2) (by omega)
    have hn : decide ((l.length : Int) = 0) = false := decide_eq_false (by omega)
    have en : w64 ((i : Int) + 1) = (i : Int) + 1 := w64_of (by omega) (by omega)
    have et : w64 (t + 1) = t + 1 := w64_of (by omega) (by omega)
    rw [spec_l09Is_l6, dec_lt_t (by omega), dec_le_t (by omega), cond_true, Bool.and_true, cond_true, Int.toNat_natCast, g0, Option.bind_some, hn, cond_false]
    simp only [e1, e2, cond_false, Int.toNat_natCast, g1, g2, Option.bind_some, dec_le_t (Int.natCast_nonneg ((i + 1) % l.length)), dec_le_t (Int.natCast_nonneg ((i + 2) % l.length)), dec_lt_t (Int.ofNat_lt.2 b1), dec_lt_t (Int.ofNat_lt.2 b2), Bool.and_self, cond_true, spec_l01In_eq, spec_l01Is_eq, allF, cntF, atC]
    cases s0 : sm (ringX l i) with
    | false => unfold sm at s0; simp [s0]
    | true =>
      cases s1 : sm (ringY l i) with
      | false => unfold sm at s0 s1; simp [s0, s1]
      | true =>
        have c0 := sm_crd s0
        have c1 := sm_crd s1
        unfold sm at s0 s1
        cases c2 : (crd (ringX l (i + 1)) && crd (ringY l (i + 1))) with
        | false => simp [s0, s1]
        | true =>
          cases c3 : (crd (ringX l (i + 2)) && crd (ringY l (i + 2))) with
          | false => simp [s0, s1]
          | true =>
            simp only [Bool.and_eq_true] at c2 c3
            simp only [s0, s1, Bool.not_true, cond_false, Bool.true_and]
            rw [spec_side_eq c0 c1 c2.1 c2.2 c3.1 c3.2]
            have ec : (ringX l (i + 1) - ringX l i) * (ringY l (i + 2) - ringY l (i + 1)) - (ringY l (i + 1) - ringY l i) * (ringX l (i + 2) - ringX l (i + 1)) = cr (ringX l) (ringY l) i (i + 1) := rfl
            rw [ec]
            rcases ilt_or_ge 0 (cr (ringX l) (ringY l) i (i + 1)) with hc | hc
            · rw [dec_le_f hc, dec_lt_t hc, cond_false, Bool.true_and]
              have k0 := crd_iff.1 c0
              have k1 := crd_iff.1 c1
              have k2 := crd_iff.1 c2.1
              have k3 := crd_iff.1 c2.2
              have k4 := crd_iff.1 c3.1
              have k5 := crd_iff.1 c3.2
              simp only [spec_l01Plus, spec_half_eq]
              rw [sub_wP k0 k2, sub_wP k1 k3, sub_wP k2 k4, sub_wP k3 k5, et, en]
              have u0 : upV (ringX l (i + 1) - ringX l i) (ringY l (i + 1) - ringY l i) ↔ upS (ringX l) (ringY l) i := Iff.rfl
              have u1 : upV (ringX l (i + 2) - ringX l (i + 1)) (ringY l (i + 2) - ringY l (i + 1)) ↔ upS (ringX l) (ringY l) (i + 1) := Iff.rfl
              have ih1 := spec_l6 hl hl2 m k (i + 1) (t + 1) r (by omega) (by omega) (by omega) (by omega)
              have ih2 := spec_l6 hl hl2 m k (i + 1) t r (by omega) (by omega) h0 (by omega)
              rw [show ((i + 1 : Nat) : Int) = (i : Int) + 1 by omega] at ih1 ih2
              by_cases p0 : upS (ringX l) (ringY l) i
              · rw [if_pos (u0.2 p0)]
                simp [ih2, turnsUp, p0]
              · rw [if_neg fun h => p0 (u0.1 h)]
                by_cases p1 : upS (ringX l) (ringY l) (i + 1)
                · rw [if_pos (u1.2 p1)]
                  simp [ih1, turnsUp, p0, p1, Int.add_assoc]
                · rw [if_neg fun h => p1 (u1.1 h)]
                  simp [ih2, turnsUp, p0, p1]
            · rw [dec_le_t hc, dec_lt_f hc, cond_true, Bool.false_and, Bool.false_and]
  | _, 0, _, _, _, _, hk, _, _ => by omega

def polyB (l : List (Int × Int)) : Bool := inB (l.length : Int) 3 12 && (l.all (fun e => sm e.1 && sm e.2) && (allF (fun i => decide (0 < cr (ringX l) (ringY l) i (i + 1))) 0 l.length && decide (cntF (turnsUp (ringX l) (ringY l)) 0 l.length = 1)))

theorem small_iff {l : List (Int × Int)} (h : 0 < l.length) : (l.all (fun e => sm e.1 && sm e.2) = true) ↔ ∀ i, sm (ringX l i) = true ∧ sm (ringY l i) = true := by
  rw [List.all_eq_true]
  constructor
  · intro ha i
    have hg := ring_get (l := l) (i := i) h
    have := ha _ (List.mem_of_getElem? hg)
    simpa using this
  · intro ha e he
    obtain ⟨i, hi, rfl⟩ := List.mem_iff_getElem.1 he
    have hg := ring_get' hi
    rw [List.getElem?_eq_getElem hi] at hg
    have := Option.some.inj hg
    rw [this]
    simpa using ha i

theorem spec_is_eq (k : Nat) (hk : 13 < k) (l : List (Int × Int)) (r : Bool → Option α) : spec_l09Is k l r = r (polyB l) := by
  simp only [spec_l09Is, polyB, inB]
  rcases ilt_or_ge (l.length : Int) 3 with h | h
  · rw [dec_lt_t h, dec_le_f h]; rfl
  · rw [dec_lt_f h, dec_le_t h, cond_false]
    rcases ilt_or_ge 12 (l.length : Int) with h2 | h2
    · rw [dec_lt_t h2, dec_le_f h2]; rfl
    · rw [dec_lt_f h2, dec_le_t h2, cond_false, Bool.and_self, Bool.true_and]
      have e := spec_l6 (α := α) (l := l) (by omega) (by omega) l.length k 0 0 r (by omega) (by omega) (by omega) (by omega)
      rw [Int.zero_add] at e
      refine Eq.trans e ?_
      congr 1
      rw [Bool.eq_iff_iff, Bool.and_eq_true, Bool.and_eq_true, Bool.and_eq_true, ← and_assoc]
      refine and_congr_left fun _ => ?_
      rw [allF_iff, allF_iff, small_iff (by omega)]
      constructor
      · intro ha
        have hs : ∀ i, i < l.length → sm (ringX l i) = true ∧ sm (ringY l i) = true := fun i hi => by
          have := ha i (by omega) (by omega)
          simp only [atC, Bool.and_eq_true] at this
          exact ⟨this.1, this.2.1⟩
        refine ⟨fun i => ?_, fun j h3 h4 => ?_⟩
        · have := hs (i % l.length) (Nat.mod_lt _ (by omega))
          simpa [ringX, ringY] using this
        · have := ha j h3 h4
          simp only [atC, Bool.and_eq_true] at this
          exact this.2.2.2.2
      · rintro ⟨hs, hc⟩ j h3 h4
        simp only [atC, Bool.and_eq_true]
        exact ⟨(hs j).1, (hs j).2, ⟨sm_crd (hs (j + 1)).1, sm_crd (hs (j + 1)).2⟩, ⟨sm_crd (hs (j + 2)).1, sm_crd (hs (j + 2)).2⟩, hc j h3 h4⟩

def farOK (l : List (Int × Int)) (i j : Nat) : Bool := decide (j = i) || (decide (j = (i + 1) % l.length) || decide (0 < ori (ringX l) (ringY l) i j))

theorem plus_eq {a b c d : Int} (ha : crd a = true) (hb : crd b = true) (hc : crd c = true) (hd : crd d = true) (k : Nat) (r : Int → Int → Option α) : impl_Point_less k a b c d r = r (a - c) (b - d) := by
  rw [crd_iff] at ha hb hc hd
  simp only [impl_Point_less, impl_Point_plus]
  rw [sub_wP hc ha, sub_wP hd hb]

theorem impl_turn_eq {a b c d e f : Int} (ha : crd a = true) (hb : crd b = true) (hc : crd c = true) (hd : crd d = true) (he : crd e = true) (hf : crd f = true) (k : Nat) (r : Int → Option α) : impl_turn k a b c d e f r = r ((c - a) * (f - d) - (d - b) * (e - c)) := by
  simp only [impl_turn, impl_det]
  rw [plus_eq hc hd ha hb, plus_eq he hf hc hd]
  rw [crd_iff] at ha hb hc hd he hf
  rw [det_wP (by omega) (by omega) (by omega) (by omega)]

theorem impl_l6 {l : List (Int × Int)} (hl : 3 ≤ l.length) (hl2 : l.length ≤ 12) (hs : ∀ i, sm (ringX l i) = true ∧ sm (ringY l i) = true) (i : Nat) (hi : i < l.length) : ∀ (m k j : Nat) (x : Int) b (r : Bool → Option α), j + m = l.length → m < k →
    impl_polygon_convex_l6 k i x i l.length j l (ringX l i) (ringY l i) (ringX l (i + 1)) (ringY l (i + 1)) b r = bif allF (farOK l i) j m then b i x i l.length l.length l (ringX l i) (ringY l i) (ringX l (i + 1)) (ringY l (i + 1)) else r false
  | 0, k + 1, j, x, b, r, hj, _ => by
    have : j = l.length := by omega
    subst this
    rw [impl_polygon_convex_l6, dec_lt_f (by omega)]
    rfl
  | m + 1, k + 1, j, x, b, r, hj, hk => by
    have e1 := tmod_nat i l.length (by omega) 1 (by omega)
    simp only [Int.natCast_one] at e1
    have g0 := ring_get' (l := l) (i := j) (by omega)
    have hn : decide ((l.length : Int) = 0) = false := decide_eq_false (by omega)
    have en : w64 ((j : Int) + 1) = ((j + 1 : Nat) : Int) := by rw [w64_of (by omega) (by omega)]; omega
    have ih := impl_l6 hl hl2 hs i hi m k (j + 1) x b r (by omega) (by omega)
    have d1 : decide ((j : Int) = (i : Int)) = decide (j = i) := decide_eq_decide.2 (by omega)
    have d2 : decide ((j : Int) = (((i + 1) % l.length : Nat) : Int)) = decide (j = (i + 1) % l.length) := decide_eq_decide.2 (by omega)
    rw [impl_polygon_convex_l6, dec_lt_t (by omega), dec_le_t (by omega), cond_true, Bool.and_true, cond_true, Int.toNat_natCast, g0, Option.bind_some, hn, e1, d1, d2, en, ih]
    simp only [allF, farOK, cond_false]
    cases decide (j = i) with
    | true => simp
    | false =>
      cases decide (j = (i + 1) % l.length) with
      | true => simp
      | false =>
        simp only [Bool.not_false, cond_true, Bool.false_or]
        rw [impl_turn_eq (sm_crd (hs i).1) (sm_crd (hs i).2) (sm_crd (hs (i + 1)).1) (sm_crd (hs (i + 1)).2) (sm_crd (hs j).1) (sm_crd (hs j).2)]
        have ec : (ringX l (i + 1) - ringX l i) * (ringY l j - ringY l (i + 1)) - (ringY l (i + 1) - ringY l i) * (ringX l j - ringX l (i + 1)) = ori (ringX l) (ringY l) i j := rfl
        rw [ec]
        rcases ilt_or_ge 0 (ori (ringX l) (ringY l) i j) with hc | hc
        · rw [dec_le_f hc, dec_lt_t hc, Bool.true_and]; rfl
        · rw [dec_le_t hc, dec_lt_f hc, Bool.false_and]; rfl
  | _, 0, _, _, _, _, _, hk => by omega

theorem impl_l2 {l : List (Int × Int)} (hl : 3 ≤ l.length) (hl2 : l.length ≤ 12) (hs : ∀ i, sm (ringX l i) = true ∧ sm (ringY l i) = true) : ∀ (m k i : Nat) (r : Bool → Option α), i + m = l.length → m + 13 < k →
    impl_polygon_convex_l2 k l.length i l (fun _ _ _ => r true) r = r (allF (fun i => allF (farOK l i) 0 l.length) i m)
  | 0, k + 1, i, r, hi, _ => by
    rw [impl_polygon_convex_l2, dec_lt_f (by omega)]
    rfl
  | m + 1, k + 1, i, r, hi, hk => by
    have e1 := tmod_nat i l.length (by omega) 1 (by omega)
    simp only [Int.natCast_one] at e1
    have b1 : (i + 1) % l.length < l.length := Nat.mod_lt _ (by omega)
    have g0 := ring_get' (l := l) (i := i) (by omega)
    have g1 := ring_get (l := l) (i := i + 1) (by omega)
    have hn : decide ((l.length : Int) = 0) = false := decide_eq_false (by omega)
    have en : w64 ((i : Int) + 1) = ((i + 1 : Nat) : Int) := by rw [w64_of (by omega) (by omega)]; omega
    have ih := impl_l2 hl hl2 hs m k (i + 1) r (by omega) (by omega)
    rw [impl_polygon_convex_l2, dec_lt_t (by omega), dec_le_t (by omega), cond_true, Bool.and_true, cond_true, Int.toNat_natCast, g0, Option.bind_some]
    simp only [impl_polygon_next, hn, cond_false, e1, Int.toNat_natCast, g1, Option.bind_some, dec_le_t (Int.natCast_nonneg ((i + 1) % l.length)), dec_lt_t (Int.ofNat_lt.2 b1), Bool.and_self, cond_true]
    have h6 := impl_l6 (α := α) hl hl2 hs i (by omega) l.length k 0 l.length (fun i1 x6 x7 x8 x9 p_3 a2 a3 b_2 b_3 => impl_polygon_convex_l2 k x6 (w64 (x7 + 1)) p_3 (fun _ _ _ => r true) r) r (by omega) (by omega)
    rw [Int.natCast_zero] at h6
    rw [h6, en, ih]
    simp only [allF]
    cases allF (farOK l i) 0 l.length <;> rfl
  | _, 0, _, _, _, hk => by omega

theorem glob_iff {l : List (Int × Int)} (hl : 3 ≤ l.length) : allF (fun i => allF (farOK l i) 0 l.length) 0 l.length = true ↔ Glob l.length (ringX l) (ringY l) := by
  have hr := ring_of hl
  rw [allF_iff]
  constructor
  · intro h i
    induction i using Nat.strongRecOn with
    | ind i ih =>
      intro d hd
      rcases Nat.lt_or_ge i l.length with hi | hi
      · have := allF_iff.1 (h i (by omega) (by omega))
        rcases Nat.lt_or_ge (i + d + 2) l.length with hj | hj
        · have := this (i + d + 2) (by omega) (by omega)
          rw [farOK, Bool.or_eq_true, Bool.or_eq_true, decide_eq_true_eq, decide_eq_true_eq, decide_eq_true_eq, Nat.mod_eq_of_lt (show i + 1 < l.length by omega)] at this
          rcases this with h1 | h1 | h1
          · omega
          · omega
          · exact h1
        · have := this (i + d + 2 - l.length) (by omega) (by omega)
          rw [farOK, Bool.or_eq_true, Bool.or_eq_true, decide_eq_true_eq, decide_eq_true_eq, decide_eq_true_eq] at this
          rcases this with h1 | h1 | h1
          · omega
          · rcases Nat.lt_or_ge (i + 1) l.length with h2 | h2
            · rw [Nat.mod_eq_of_lt h2] at h1; omega
            · have : i + 1 = l.length := by omega
              rw [this, Nat.mod_self] at h1; omega
          · have e := hr.ori_p i (i + d + 2 - l.length)
            rw [show i + d + 2 - l.length + l.length = i + d + 2 by omega] at e
            rw [e]; exact h1
      · have := ih (i - l.length) (by omega) d hd
        have e1 := hr.ori_l (i - l.length) (i + d + 2)
        have e2 := hr.ori_p (i - l.length) (i - l.length + d + 2)
        rw [show i - l.length + l.length = i by omega] at e1
        rw [show i - l.length + d + 2 + l.length = i + d + 2 by omega] at e2
        rw [e1, e2]; exact this
  · intro h i h1 h2
    rw [allF_iff]
    intro j h3 h4
    rw [farOK, Bool.or_eq_true, Bool.or_eq_true, decide_eq_true_eq, decide_eq_true_eq, decide_eq_true_eq]
    by_cases e1 : j = i
    · exact .inl e1
    · by_cases e2 : j = (i + 1) % l.length
      · exact .inr (.inl e2)
      · refine .inr (.inr ?_)
        rcases Nat.lt_or_ge i j with hij | hij
        · have hne : j ≠ i + 1 := fun e => e2 (by rw [Nat.mod_eq_of_lt (by omega)]; exact e)
          have := h i (j - i - 2) (by omega)
          rwa [show i + (j - i - 2) + 2 = j by omega] at this
        · have hne : j + l.length ≠ i + 1 := fun e => e2 (by
            have : i + 1 = l.length := by omega
            rw [this, Nat.mod_self]; omega)
          have := h i (j + l.length - i - 2) (by omega)
          rw [show i + (j + l.length - i - 2) + 2 = j + l.length by omega, hr.ori_p] at this
          exact this

theorem loc_iff {l : List (Int × Int)} (hl : 3 ≤ l.length) : (allF (fun i => decide (0 < cr (ringX l) (ringY l) i (i + 1))) 0 l.length = true ∧ cntF (turnsUp (ringX l) (ringY l)) 0 l.length = 1) ↔ Loc l.length (ringX l) (ringY l) := by
  have hr := ring_of hl
  rw [allF_iff, cntF_one, Loc]
  refine and_congr ⟨fun h i => ?_, fun h j _ _ => decide_eq_true (h j)⟩ ⟨?_, ?_⟩
  · induction i using Nat.strongRecOn with
    | ind i ih =>
      rcases Nat.lt_or_ge i l.length with hi | hi
      · exact of_decide_eq_true (h i (by omega) (by omega))
      · have := ih (i - l.length) (by omega)
        have e1 := hr.cr_l (i - l.length) (i + 1)
        have e2 := hr.cr_r (i - l.length) (i - l.length + 1)
        rw [show i - l.length + l.length = i by omega] at e1
        rw [show i - l.length + 1 + l.length = i + 1 by omega] at e2
        rw [e1, e2]; exact this
  · rintro ⟨t, h1, h2, h3, h4⟩
    simp only [turnsUp, Bool.and_eq_true, Bool.not_eq_true', decide_eq_false_iff_not, decide_eq_true_eq] at h3 h4
    exact ⟨t, by omega, h3.1, h3.2, fun j hj a b => h4 j (by omega) (by omega) ⟨a, b⟩⟩
  · rintro ⟨t, h1, h2, h3, h4⟩
    refine ⟨t, by omega, by omega, ?_, fun j _ hj hp => ?_⟩
    · simp [turnsUp, h2, h3]
    · simp only [turnsUp, Bool.and_eq_true, Bool.not_eq_true', decide_eq_false_iff_not, decide_eq_true_eq] at hp
      exact h4 j (by omega) hp.1 hp.2

theorem impl_is_eq (k : Nat) (hk : 30 < k) (l : List (Int × Int)) (r : Bool → Option α) : impl_IsPolygon k l r = r (polyB l) := by
  simp only [impl_IsPolygon, impl_in_eq, polyB]
  cases hin : inB (l.length : Int) 3 12 with
  | false => rfl
  | true =>
    rw [inB_iff] at hin
    simp only [Bool.not_true, cond_false, Bool.true_and]
    unfold slices_ContainsFunc_impl_Point_impl_Point_1F_impl_IsPolygon_1 slices_IndexFunc_impl_Point_impl_Point_1F_impl_IsPolygon_1
    have h := find_loop (α := α) (p := fun e : Int × Int => !(sm e.1 && sm e.2)) (L := slices_IndexFunc_impl_Point_impl_Point_1F_impl_IsPolygon_1_l2)
      (fun k x i s b r => by
        simp only [slices_IndexFunc_impl_Point_impl_Point_1F_impl_IsPolygon_1_l2, impl_IsPolygon_1, impl_small, impl_in_eq]
        congr 1; congr 1; congr 1; funext e
        unfold sm
        cases inB e.1 (-1000) 1000 <;> cases inB e.2 (-1000) 1000 <;> rfl) l k 0 l
    rw [Int.natCast_zero] at h
    rw [h _ _ (by simp) (by rw [big_val]; omega) (by omega) (by omega)]
    cases hf : l.findIdx? (fun e : Int × Int => !(sm e.1 && sm e.2)) with
    | some j =>
      rw [List.findIdx?_eq_some_iff_getElem] at hf
      obtain ⟨hj, hp, _⟩ := hf
      have : (l.all fun e => sm e.1 && sm e.2) = false := by
        rw [List.all_eq_false]
        exact ⟨l[j], List.getElem_mem hj, by
          intro h
          have h' : (sm l[j].1 && sm l[j].2) = true := h
          have hp' : (!(sm l[j].1 && sm l[j].2)) = true := hp
          rw [h'] at hp'
          cases hp'⟩
      rw [this]
      simp
    | none =>
      rw [List.findIdx?_eq_none_iff] at hf
      have hall : (l.all fun e => sm e.1 && sm e.2) = true := List.all_eq_true.2 fun e he => by simpa using hf e he
      have hs := (small_iff (by omega)).1 hall
      rw [hall, Bool.true_and]
      have h2 := impl_l2 (α := α) (l := l) (by omega) (by omega) hs l.length k 0 r (by omega) (by omega)
      rw [Int.natCast_zero] at h2
      simp only [show decide ((0 : Int) ≤ -1) = false from rfl, cond_false, impl_polygon_convex]
      refine h2.trans ?_
      congr 1
      rw [Bool.eq_iff_iff, Bool.and_eq_true, decide_eq_true_eq, glob_iff (by omega), loc_iff (by omega)]
      exact (ring_iff (ring_of (by omega))).symm

theorem toPointS_l3_ok : ∀ (rest : List (Int × Int)) (k : Nat) (pre out : List (Int × Int)) b (r : List (Int × Int) → Option α), out.length = rest.length → pre.length + rest.length ≤ big → rest.length < k →
    laws_toPointS_l3 k pre.length (pre ++ rest) (pre ++ out) b r = b (pre.length + rest.length : Nat) (pre ++ rest) (pre ++ rest)
  | [], k + 1, pre, out, b, r, ho, hb, _ => by
    have : out = [] := List.eq_nil_of_length_eq_zero (by simpa using ho)
    subst this
    rw [laws_toPointS_l3, dec_lt_f (by simp)]
    simp
  | e :: rest, k + 1, pre, [], b, r, ho, hb, _ => by simp at ho
  | e :: rest, k + 1, pre, o :: out, b, r, ho, hb, hk => by
    rw [big_val] at hb
    simp only [List.length_cons] at hb hk ho
    have hl : (pre ++ e :: rest).length = pre.length + (rest.length + 1) := by simp
    have hl2 : (pre ++ o :: out).length = pre.length + (rest.length + 1) := by simp; omega
    have e1 : w64 ((pre.length : Int) + 1) = ((pre ++ [e]).length : Int) := by rw [w64_of (by omega) (by omega)]; simp
    have hg : (pre ++ e :: rest)[pre.length]? = some e := by simp
    have hg2 : (pre ++ o :: out)[pre.length]? = some o := by simp
    rw [laws_toPointS_l3, hl, dec_lt_t (by omega), dec_le_t (by omega), cond_true, Bool.and_true, cond_true, Int.toNat_natCast, hg, Option.bind_some]
    simp only [laws_toPoint]
    rw [hl2, dec_lt_t (by omega), Bool.and_self, cond_true, hg2, Option.bind_some, set_mid, e1]
    have := toPointS_l3_ok rest k (pre ++ [e]) out b r (by omega) (by rw [big_val]; simp; omega) (by omega)
    simp only [List.append_assoc, List.singleton_append, List.length_append, List.length_cons, List.length_nil] at this ⊢
    refine this.trans ?_
    congr 1
    omega
  | _, 0, _, _, _, _, _, _, hk => by omega

theorem toPointS_ok (k : Nat) (l : List (Int × Int)) (r : List (Int × Int) → Option α) (hl : l.length ≤ 1048576) (hk : l.length < k) : laws_toPointS k l r = r l := by
  have hb : l.length ≤ big := by rw [big_val]; omega
  unfold laws_toPointS
  rw [dec_le_t (by omega), dec_le_t (by omega), Bool.and_self, cond_true, Int.toNat_natCast]
  have := toPointS_l3_ok (α := α) l k [] (List.replicate l.length (0, 0)) (fun _ _ o => r o) r (by simp) (by simpa using hb) hk
  simpa using this

theorem polyB_len {l : List (Int × Int)} (h : polyB l = true) : 3 ≤ l.length ∧ l.length ≤ 12 := by
  unfold polyB at h
  rw [Bool.and_eq_true] at h
  have := inB_iff.1 h.1
  omega

theorem sz_cases (k : Nat) (l : List (Int × Int)) (hlen : l.length ≤ maxLen) (t : Option α) (e : Int → Option α) (h1 : l.length ≤ 1048576 → ∀ v : Int, 0 ≤ v → e v = t) : (laws_szPointS k l 1048576 fun v => bif decide (v < 0) then t else e v) = t := by
  have hlen : (l.length : Int) ≤ 9223372036854775807 := by
    have : maxLen = 9223372036854775807 := rfl
    omega
  simp only [laws_szPointS]
  rw [w64_of (n := 1048576 - (l.length : Int)) (by omega) (by omega)]
  rcases ilt_or_ge (1048576 - (l.length : Int)) 0 with h | h
  · rw [dec_lt_t h, cond_true]; rfl
  · rw [dec_lt_f h, cond_false, cond_false]
    exact h1 (by omega) _ h

def cmpI (x y : Int) : Int := if x < y then -1 else if y < x then 1 else 0

theorem cmp_Compare_eq (k : Nat) (x y : Int) (r : Int → Option α) : cmp_Compare_int64 k x y r = r (cmpI x y) := by
  simp only [cmp_Compare_int64, cmp_isNaN_int64, decide_true, Bool.not_true, cond_false]
  unfold cmpI
  by_cases h : x < y
  · simp [h]
  · by_cases h2 : y < x <;> simp [h, h2]

/-- Which point comes ahead. -/
def ptBef (x y : Int × Int) : Bool := decide (x.1 < y.1) || (decide (x.1 = y.1) && decide (x.2 < y.2))

theorem ptBef_iff {x y : Int × Int} : ptBef x y = true ↔ x.1 < y.1 ∨ (x.1 = y.1 ∧ x.2 < y.2) := by simp [ptBef]

theorem ptBef_trans {x y z : Int × Int} (h1 : ptBef x y = true) (h2 : ptBef y z = true) : ptBef x z = true := by
  rw [ptBef_iff] at *
  omega

theorem ptBef_irr (x : Int × Int) : ptBef x x = false := by simp [ptBef]

/-- Not ahead of what is ahead of another one. -/
theorem ptBef_le {x y z : Int × Int} (h1 : ptBef x y = true) (h2 : ¬ ptBef z y = true) : ptBef x z = true := by
  rw [ptBef_iff] at *
  omega

theorem spec_ptBefore_eq (k : Nat) (a b c d : Int) (r : Bool → Option α) : spec_l09Before k a b c d r = r (ptBef (a, b) (c, d)) := by
  simp only [spec_l09Before, ptBef]
  by_cases h1 : a < c
  · simp [h1]
  · by_cases h2 : a = c <;> simp [h1, h2]

def or2 (a b : Int) : Int := if a ≠ 0 then a else b

theorem cmp_Or2 (k : Nat) (hk : 3 ≤ k) (a b : Int) (r : Int → Option α) : cmp_Or_int k [a, b] r = r (or2 a b) := by
  obtain ⟨k, rfl⟩ : ∃ k', k = k' + 3 := ⟨k - 3, by omega⟩
  have w1 : w64 (0 + 1) = 1 := by decide
  have w2 : w64 (1 + 1) = 2 := by decide
  unfold cmp_Or_int or2
  rw [cmp_Or_int_l3]
  simp only [List.length_cons, List.length_nil, w1]
  by_cases ha : a = 0
  · rw [cmp_Or_int_l3]
    simp only [List.length_cons, List.length_nil, w2]
    by_cases hb : b = 0
    · rw [cmp_Or_int_l3]
      simp [ha, hb]
    · simp [ha, hb]
  · simp [ha]

def ordP (x y : Int × Int) : Int := or2 (cmpI x.1 y.1) (cmpI x.2 y.2)

theorem impl_pointOrder_eq (k : Nat) (hk : 3 ≤ k) (a b c d : Int) (r : Int → Option α) : impl_pointOrder k a b c d r = r (ordP (a, b) (c, d)) := by
  simp only [impl_pointOrder, cmp_Compare_eq]
  rw [cmp_Or2 k hk]
  rfl

theorem ordP_bef (x y : Int × Int) : decide (ordP x y < 0) = ptBef x y := by
  unfold ordP or2 cmpI ptBef
  by_cases h1 : x.1 < y.1
  · simp [h1]
  · by_cases h2 : y.1 < x.1
    · have : x.1 ≠ y.1 := by omega
      simp [h1, h2, this]
    · have e1 : x.1 = y.1 := by omega
      by_cases h3 : x.2 < y.2
      · simp [e1, h3]
      · by_cases h4 : y.2 < x.2 <;> simp [e1, h3, h4]

def gP (l : List (Int × Int)) (i : Nat) : Int × Int := l.getD i (0, 0)

theorem gP_get {l : List (Int × Int)} {i : Nat} (h : i < l.length) : l[i]? = some (gP l i) := by
  simp [gP, List.getD_eq_getElem?_getD, List.getElem?_eq_getElem h]

def minI (l : List (Int × Int)) : Nat → Nat → Nat → Nat
  | _, 0, f => f
  | i, m + 1, f => minI l (i + 1) m (bif ptBef (gP l i) (gP l f) then i else f)

/-- The first of the least ones so far. -/
def FirstMin (l : List (Int × Int)) (i f : Nat) : Prop := f < i ∧ (∀ j, j < f → ptBef (gP l f) (gP l j) = true) ∧ ∀ j, j < i → ¬ ptBef (gP l j) (gP l f) = true

theorem minI_first (l : List (Int × Int)) : ∀ (m i f : Nat), FirstMin l i f → FirstMin l (i + m) (minI l i m f)
  | 0, i, f, h => h
  | m + 1, i, f, ⟨h1, h2, h3⟩ => by
    rw [minI, show i + (m + 1) = (i + 1) + m by omega]
    apply minI_first l m (i + 1)
    cases hb : ptBef (gP l i) (gP l f) with
    | true =>
      refine ⟨by simp, fun j hj => ?_, fun j hj => ?_⟩
      · exact ptBef_le hb (h3 j (by simpa using hj))
      · intro hc
        by_cases e : j = i
        · subst e; simp [ptBef_irr] at hc
        · exact h3 j (by omega) (ptBef_trans (by simpa using hc) hb)
    | false =>
      refine ⟨by simp; omega, by simpa using h2, fun j hj => ?_⟩
      by_cases e : j = i
      · subst e; simp [hb]
      · exact h3 j (by omega)

/-- The place of a list's least point. -/
def leastI (l : List (Int × Int)) : Nat := minI l 0 l.length 0

theorem minI_self (l : List (Int × Int)) (m : Nat) : minI l 0 (m + 1) 0 = minI l 1 m 0 := by
  rw [minI, ptBef_irr]
  rfl

theorem least_first {l : List (Int × Int)} (h : 0 < l.length) : FirstMin l l.length (leastI l) := by
  unfold leastI
  obtain ⟨m, hm⟩ : ∃ m, l.length = m + 1 := ⟨l.length - 1, by omega⟩
  rw [hm, minI_self]
  have h0 : FirstMin l 1 0 := ⟨by omega, fun j hj => by omega, fun j hj => by
    have e : j = 0 := by omega
    subst e
    simp [ptBef_irr]⟩
  have := minI_first l m 1 0 h0
  rwa [Nat.add_comm 1 m] at this

theorem spec_order_l3 {l : List (Int × Int)} (hl : l.length ≤ 12) : ∀ (m k i f : Nat) b (r : List (Int × Int) → Option α), i + m = l.length → f < l.length → m < k →
    spec_l09Order_l3 k f i l b r = b (minI l i m f : Nat) l.length l
  | 0, k + 1, i, f, b, r, hi, _, _ => by
    rw [spec_l09Order_l3, dec_lt_f (by omega)]
    have : i = l.length := by omega
    subst this
    rfl
  | m + 1, k + 1, i, f, b, r, hi, hf, hk => by
    have en : w64 ((i : Int) + 1) = ((i + 1 : Nat) : Int) := by rw [w64_of (by omega) (by omega)]; omega
    rw [spec_l09Order_l3, dec_lt_t (by omega), dec_le_t (by omega), cond_true, Bool.and_true, cond_true, Int.toNat_natCast, gP_get (by omega), Option.bind_some, dec_lt_t (by omega), dec_le_t (by omega), Bool.and_true, cond_true, Int.toNat_natCast, gP_get hf, Option.bind_some, spec_ptBefore_eq, en]
    change (bif ptBef (gP l i) (gP l f) then _ else _) = _
    rw [minI]
    cases hb : ptBef (gP l i) (gP l f) with
    | true => exact spec_order_l3 hl m k (i + 1) i b r (by omega) (by omega) (by omega)
    | false => exact spec_order_l3 hl m k (i + 1) f b r (by omega) hf (by omega)
  | _, 0, _, _, _, _, _, _, hk => by omega

theorem min_l5 {l : List (Int × Int)} (hl : l.length ≤ 12) : ∀ (m k i f : Nat) (x2 x3 : Int) b (r : Int → Int → Option α), i + m = l.length → f < l.length → m + 3 < k →
    slices_MinFunc_impl_polygon_impl_Point_1F_impl_pointOrder_l5 k i l x2 x3 (gP l f).1 (gP l f).2 b r = b l.length l x2 x3 (gP l (minI l i m f)).1 (gP l (minI l i m f)).2
  | 0, k + 1, i, f, x2, x3, b, r, hi, _, _ => by
    rw [slices_MinFunc_impl_polygon_impl_Point_1F_impl_pointOrder_l5, dec_lt_f (by omega)]
    have : i = l.length := by omega
    subst this
    rfl
  | m + 1, k + 1, i, f, x2, x3, b, r, hi, hf, hk => by
    have en : w64 ((i : Int) + 1) = ((i + 1 : Nat) : Int) := by rw [w64_of (by omega) (by omega)]; omega
    rw [slices_MinFunc_impl_polygon_impl_Point_1F_impl_pointOrder_l5, dec_lt_t (by omega), dec_le_t (by omega), cond_true, Bool.and_true, cond_true, Int.toNat_natCast, gP_get (by omega), Option.bind_some, Option.bind_some, impl_pointOrder_eq k (by omega), ordP_bef, en]
    change (bif ptBef (gP l i) (gP l f) then _ else _) = _
    rw [minI]
    cases hb : ptBef (gP l i) (gP l f) with
    | true => exact min_l5 hl m k (i + 1) i x2 x3 b r (by omega) (by omega) (by omega)
    | false => exact min_l5 hl m k (i + 1) f x2 x3 b r (by omega) hf (by omega)
  | _, 0, _, _, _, _, _, _, _, _, hk => by omega

theorem minFunc_eq {l : List (Int × Int)} (h0 : 0 < l.length) (hl : l.length ≤ 12) (k : Nat) (hk : 20 ≤ k) (r : Int → Int → Option α) :
    slices_MinFunc_impl_polygon_impl_Point_1F_impl_pointOrder k l r = r (gP l (leastI l)).1 (gP l (leastI l)).2 := by
  obtain ⟨m, hm⟩ : ∃ m, l.length = m + 1 := ⟨l.length - 1, by omega⟩
  unfold slices_MinFunc_impl_polygon_impl_Point_1F_impl_pointOrder
  rw [dec_lt_f (by omega), cond_false, dec_lt_t (by omega), Bool.and_self, cond_true, gP_get h0, Option.bind_some]
  have := min_l5 (α := α) (l := l) hl m k 1 0 0 0 (fun _ _ _ _ m2 m3 => r m2 m3) r (by omega) (by omega) (by omega)
  simp only [Int.natCast_one] at this
  rw [this]
  unfold leastI
  rw [hm, minI_self]

theorem index_pt {l : List (Int × Int)} (hl : l.length ≤ big) (k : Nat) (hk : l.length < k) (x y : Int) (r : Int → Option α) :
    slices_Index_impl_polygon_impl_Point k l x y r = match l.findIdx? (fun e => decide (x = e.1) && decide (y = e.2)) with
      | some j => r ((j : Nat) : Int)
      | none => r (-1) := by
  unfold slices_Index_impl_polygon_impl_Point
  have := find_loop (α := α) (p := fun e : Int × Int => decide (x = e.1) && decide (y = e.2)) (L := fun k X i s b r => slices_Index_impl_polygon_impl_Point_l2 k X i s x y (fun X i s _ _ => b X i s) r) (fun k X i s b r => by
    rw [slices_Index_impl_polygon_impl_Point_l2]) l k 0 l (fun _ _ _ => r (-1)) r rfl hl (by omega) hk
  simp only [Int.natCast_zero, Nat.zero_add] at this
  exact this

/-- Turned so that the least point is the first one. -/
def orderedL (l : List (Int × Int)) : List (Int × Int) := l.drop (leastI l) ++ l.take (leastI l)

theorem index_least {l : List (Int × Int)} (h0 : 0 < l.length) : l.findIdx? (fun e => decide ((gP l (leastI l)).1 = e.1) && decide ((gP l (leastI l)).2 = e.2)) = some (leastI l) := by
  obtain ⟨h1, h2, _⟩ := least_first h0
  rw [List.findIdx?_eq_some_iff_getElem]
  have hg : ∀ j (h : j < l.length), l[j] = gP l j := fun j h => by simp [gP, List.getD_eq_getElem?_getD, List.getElem?_eq_getElem h]
  refine ⟨h1, by rw [hg]; simp, fun j hj => ?_⟩
  rw [hg]
  have := h2 j hj
  rw [ptBef_iff] at this
  simp
  intro h3 h4
  omega

theorem take_all_sub {l : List (Int × Int)} (n : Nat) : List.take (l.length - n) (List.drop n l) = List.drop n l := List.take_of_length_le (by simp)

theorem concat2_eq (k : Nat) (a b : List (Int × Int)) (h0 : 0 < a.length + b.length) (hl : a.length + b.length ≤ 12) (r : List (Int × Int) → Option α) : slices_Concat_impl_polygon_impl_Point_0M2 k a b r = r (a ++ b) := by
  unfold slices_Concat_impl_polygon_impl_Point_0M2
  simp only [slices_Grow_impl_polygon_impl_Point_0N, Int.zero_add]
  rw [w64_of (n := (a.length : Int)) (by omega) (by omega), w64_of (n := (a.length : Int) + b.length) (by omega) (by omega), Int.sub_zero, w64_of (n := (a.length : Int) + b.length) (by omega) (by omega)]
  have n1 : decide (((a.length : Nat) : Int) < 0) = false := dec_lt_f (by omega)
  have n2 : decide (((a.length : Nat) : Int) + b.length < 0) = false := dec_lt_f (by omega)
  have n3 : decide (0 < ((a.length : Nat) : Int) + b.length) = true := dec_lt_t (by omega)
  have n4 : decide (1 ≤ ((a.length : Nat) : Int) + b.length) = true := dec_le_t (by omega)
  have n5 : decide (((a.length : Nat) : Int) + b.length ≤ (big : Int)) = true := dec_le_t (by rw [big_val]; omega)
  have n6 : decide (a.length ≤ big) = true := dec_nle_t (by rw [big_val]; omega)
  have n7 : decide (a.length + b.length ≤ big) = true := dec_nle_t (by rw [big_val]; omega)
  have n8 : decide (0 ≤ max (((a.length : Nat) : Int) + b.length) 0) = true := dec_le_t (by omega)
  simp [n1, n2, n3, n4, n5, n6, n7, n8]

theorem spec_order_eq {l : List (Int × Int)} (h0 : 0 < l.length) (hl : l.length ≤ 12) (k : Nat) (hk : 20 ≤ k) (r : List (Int × Int) → Option α) : spec_l09Order k l r = r (orderedL l) := by
  obtain ⟨h1, _, _⟩ := least_first h0
  unfold spec_l09Order
  have := spec_order_l3 (α := α) (l := l) hl l.length k 0 0 (fun first1 _ list2 =>
      bif (decide (0 ≤ first1) && decide (first1 ≤ (((List.length list2) : Nat) : Int))) then
        bif (decide (0 ≤ first1) && decide (first1 ≤ (((List.length list2) : Nat) : Int))) then
          bif decide ((0 + (List.length (List.take ((List.length list2) - first1.toNat) (List.drop first1.toNat list2)))) ≤ big) then
            bif decide (((List.length ([] ++ (List.take ((List.length list2) - first1.toNat) (List.drop first1.toNat list2)))) + (List.length (List.take (first1.toNat - 0) (List.drop 0 list2)))) ≤ big) then
              r (([] ++ (List.take ((List.length list2) - first1.toNat) (List.drop first1.toNat list2))) ++ (List.take (first1.toNat - 0) (List.drop 0 list2)))
            else
              none
          else
            none
        else
          none
      else
        none) r (by omega) h0 (by omega)
  simp only [Int.natCast_zero] at this
  rw [this]
  change (bif (decide (0 ≤ ((leastI l : Nat) : Int)) && decide (((leastI l : Nat) : Int) ≤ l.length)) then _ else _) = _
  have hm : minI l 0 l.length 0 = leastI l := rfl
  rw [dec_le_t (by omega), dec_le_t (by omega), Bool.and_self, cond_true]
  rw [hm, dec_le_t (by omega), dec_le_t (by omega), Bool.and_self, cond_true, Int.toNat_natCast, take_all_sub, List.drop_zero, Nat.sub_zero, List.nil_append, dec_nle_t (by rw [big_val]; simp; omega), dec_nle_t (by rw [big_val]; simp; omega), cond_true, cond_true]
  rfl

theorem impl_ordered_eq {l : List (Int × Int)} (h0 : 0 < l.length) (hl : l.length ≤ 12) (k : Nat) (hk : 20 ≤ k) (r : List (Int × Int) → Option α) : impl_polygon_ordered k l r = r (orderedL l) := by
  obtain ⟨h1, _, _⟩ := least_first h0
  unfold impl_polygon_ordered
  rw [minFunc_eq h0 hl k hk, index_pt (by rw [big_val]; omega) k (by omega), index_least h0]
  simp only
  rw [dec_le_t (by omega), dec_le_t (by omega), Bool.and_self, cond_true, cond_true, Int.toNat_natCast, take_all_sub, List.drop_zero, Nat.sub_zero, concat2_eq _ _ _ (by simp; omega) (by simp; omega)]
  rfl

theorem orderedL_len (l : List (Int × Int)) : (orderedL l).length = l.length := by simp [orderedL]; omega

theorem order_both (k : Nat) (hk : 1000000100 < k) (l : List (Int × Int)) :
    (∃ v, (∀ (r0 : Int → Option α) r1, spec_OrderPolygon k l r0 r1 = r0 v) ∧ ∀ (r0 : Int → Option α) r1, impl_OrderPolygon k l r0 r1 = r0 v) ∨
    (∃ d : List (Int × Int), d.length ≤ 12 ∧ (∀ (r0 : Int → Option α) r1, spec_OrderPolygon k l r0 r1 = r1 d 0) ∧ ∀ (r0 : Int → Option α) r1, impl_OrderPolygon k l r0 r1 = r1 d 0) := by
  simp only [spec_OrderPolygon, impl_OrderPolygon, spec_l09Code_0M1, spec_is_eq k (by omega), impl_is_eq k (by omega)]
  cases hp : polyB l with
  | false => exact .inl ⟨1, fun _ _ => by simp, fun _ _ => by simp⟩
  | true =>
    obtain ⟨p1, p2⟩ := polyB_len hp
    refine .inr ⟨orderedL l, by rw [orderedL_len]; exact p2, fun r0 r1 => ?_, fun r0 r1 => ?_⟩
    · simp [spec_order_eq (l := l) (by omega) p2 k (by omega)]
    · simp [impl_ordered_eq (l := l) (by omega) p2 k (by omega)]

theorem law_OrderPolygon (k : Nat) (hk : 1000000100 < k) (l : List (Int × Int)) (r : Bool → Option α) (hlen : l.length ≤ maxLen) : laws_FnExactOrderPolygon k l r = r true := by
  unfold laws_FnExactOrderPolygon
  refine sz_cases k l hlen _ _ fun hl _ _ => ?_
  have hb : l.length ≤ big := by rw [big_val]; omega
  simp only [toPointS_ok k l _ hl (by omega)]
  rcases order_both (α := α) k hk l with ⟨v, h1, h2⟩ | ⟨d, hd, h1, h2⟩
  · simp only [h1, h2, eqPointS_same k l _ hb (by omega), markPointS_ok k l 1 _ hb (by omega) (by omega) (by omega)]
    rw [dec_lt_f (by omega)]
    simp [laws_eqPointS_0N_1N, laws_markPointS_0N, laws_heldPointS_0N]
  · have hdb : d.length ≤ big := by rw [big_val]; omega
    simp only [h1, h2, eqPointS_same k l _ hb (by omega), eqPointS_same k d _ hdb (by omega), markPointS_ok k l 1 _ hb (by omega) (by omega) (by omega), markPointS_ok k d 1 _ hdb (by omega) (by omega) (by omega), heldPointS_ok k d.length 1 _ hdb (by omega) (by omega) (by omega)]
    rw [dec_lt_f (by omega), dec_lt_f (by omega)]
    simp

end Go.Sh
