/- Plain laws: what the readings without memory answer. -/
import Derived.Test.YtgfnlccaleialaaShXMapPolygon
namespace Go.Sh
open Go Go.Ev

variable {α : Type}

/-- A ring of n points. -/
structure Ring (n : Nat) (X Y : Nat → Int) : Prop where
  pos : 3 ≤ n
  px : ∀ i, X (i + n) = X i
  py : ∀ i, Y (i + n) = Y i

/-- The determinant of the sides i and j. -/
def cr (X Y : Nat → Int) (i j : Nat) : Int := (X (i + 1) - X i) * (Y (j + 1) - Y j) - (Y (i + 1) - Y i) * (X (j + 1) - X j)

/-- Does a direction go up? -/
def upV (x y : Int) : Prop := 0 < y ∨ (y = 0 ∧ 0 < x)

instance (x y : Int) : Decidable (upV x y) := by unfold upV; infer_instance

def upS (X Y : Nat → Int) (i : Nat) : Prop := upV (X (i + 1) - X i) (Y (i + 1) - Y i)

theorem up_neg {x y : Int} (h : ¬ upV x y) (h0 : x ≠ 0 ∨ y ≠ 0) : upV (-x) (-y) := by
  unfold upV at h ⊢
  omega

/-- Directions that go up are in order. -/
theorem up_trans {a b c d e f : Int} (h1 : upV a b) (h2 : upV c d) (h3 : upV e f) (k1 : 0 ≤ a * d - b * c) (k2 : 0 < c * f - d * e) : 0 < a * f - b * e := by
  have key : d * (a * f - b * e) = b * (c * f - d * e) + f * (a * d - b * c) := by grind
  unfold upV at h1 h2 h3
  have hf : 0 ≤ f := by omega
  have hb : 0 ≤ b := by omega
  rcases h2 with hd | ⟨hd, hc⟩
  · rcases h1 with hb1 | ⟨hb1, ha⟩
    · have g1 := Int.mul_pos hb1 k2
      have g2 := Int.mul_nonneg hf k1
      rcases ilt_or_ge 0 (a * f - b * e) with h | h
      · exact h
      · have := Int.mul_nonneg (show 0 ≤ d by omega) (show 0 ≤ -(a * f - b * e) by omega)
        rw [Int.mul_neg] at this
        omega
    · subst hb1
      have hf1 : 0 < f := by
        rcases h3 with h3 | ⟨h3, he⟩
        · exact h3
        · exfalso
          subst h3
          have := Int.mul_pos hd he
          simp at k2
          omega
      have := Int.mul_pos ha hf1
      simp
      exact this
  · subst hd
    have hf1 : 0 < f := by
      rcases h3 with h3 | ⟨h3, he⟩
      · exact h3
      · exfalso
        subst h3
        simp at k2
    have hb0 : b = 0 := by
      rcases ilt_or_ge 0 b with h | h
      · have := Int.mul_pos h hc
        simp at k1
        omega
      · omega
    subst hb0
    have ha : 0 < a := by omega
    have := Int.mul_pos ha hf1
    simp
    exact this

theorem cr_anti (X Y : Nat → Int) (i j : Nat) : cr X Y j i = -(cr X Y i j) := by
  unfold cr
  grind

variable {n : Nat} {X Y : Nat → Int}

theorem Ring.cr_r (h : Ring n X Y) (i j : Nat) : cr X Y i (j + n) = cr X Y i j := by
  unfold cr
  have e : j + n + 1 = j + 1 + n := by omega
  rw [e, h.px, h.px, h.py, h.py]

theorem Ring.cr_l (h : Ring n X Y) (i j : Nat) : cr X Y (i + n) j = cr X Y i j := by
  unfold cr
  have e : i + n + 1 = i + 1 + n := by omega
  rw [e, h.px, h.px, h.py, h.py]

theorem Ring.up_p (h : Ring n X Y) (i : Nat) : upS X Y (i + n) ↔ upS X Y i := by
  unfold upS
  have e : i + n + 1 = i + 1 + n := by omega
  rw [e, h.px, h.px, h.py, h.py]

/-- Around once: first sides that go up, then sides that do not. -/
structure Once (n : Nat) (X Y : Nat → Int) (s m : Nat) : Prop where
  ring : Ring n X Y
  m0 : 1 ≤ m
  m1 : m < n
  turn : ∀ i, 0 < cr X Y i (i + 1)
  up : ∀ j, s ≤ j → j < s + m → upS X Y j
  low : ∀ j, s + m ≤ j → j < s + n → ¬ upS X Y j

theorem side_ne (h : ∀ i, 0 < cr X Y i (i + 1)) (i : Nat) : X (i + 1) - X i ≠ 0 ∨ Y (i + 1) - Y i ≠ 0 := by
  have := h i
  rcases Classical.em (X (i + 1) - X i = 0) with h1 | h1
  · rcases Classical.em (Y (i + 1) - Y i = 0) with h2 | h2
    · exfalso
      unfold cr at this
      rw [h1, h2] at this
      simp at this
    · exact .inr h2
  · exact .inl h1

theorem low_neg (h : ∀ i, 0 < cr X Y i (i + 1)) {i : Nat} (hl : ¬ upS X Y i) : upV (-(X (i + 1) - X i)) (-(Y (i + 1) - Y i)) := up_neg hl (side_ne h i)

theorem tr_up {i j k : Nat} (h1 : upS X Y i) (h2 : upS X Y j) (h3 : upS X Y k) (k1 : 0 ≤ cr X Y i j) (k2 : 0 < cr X Y j k) : 0 < cr X Y i k := up_trans h1 h2 h3 k1 k2

theorem neg_mul2 (a b c d : Int) : -a * -d - -b * -c = a * d - b * c := by grind

theorem tr_low (h : ∀ i, 0 < cr X Y i (i + 1)) {i j k : Nat} (h1 : ¬ upS X Y i) (h2 : ¬ upS X Y j) (h3 : ¬ upS X Y k) (k1 : 0 ≤ cr X Y i j) (k2 : 0 < cr X Y j k) : 0 < cr X Y i k := by
  have := up_trans (low_neg h h1) (low_neg h h2) (low_neg h h3) (by rw [neg_mul2]; exact k1) (by rw [neg_mul2]; exact k2)
  rw [neg_mul2] at this
  exact this

/-- Of a side that goes up, and two that do not. -/
theorem tr_ull (h : ∀ i, 0 < cr X Y i (i + 1)) {i j k : Nat} (h1 : upS X Y i) (h2 : ¬ upS X Y j) (h3 : ¬ upS X Y k) (k1 : cr X Y i j ≤ 0) (k2 : 0 < cr X Y j k) : cr X Y i k < 0 := by
  have := up_trans h1 (low_neg h h2) (low_neg h h3) (by unfold cr at k1; rw [Int.mul_neg, Int.mul_neg]; omega) (by rw [neg_mul2]; exact k2)
  rw [Int.mul_neg, Int.mul_neg] at this
  unfold cr
  omega

theorem tr_luu (h : ∀ i, 0 < cr X Y i (i + 1)) {i j k : Nat} (h1 : ¬ upS X Y i) (h2 : upS X Y j) (h3 : upS X Y k) (k1 : cr X Y i j ≤ 0) (k2 : 0 < cr X Y j k) : cr X Y i k < 0 := by
  have := up_trans (low_neg h h1) h2 h3 (by unfold cr at k1; rw [Int.neg_mul, Int.neg_mul]; omega) k2
  rw [Int.neg_mul, Int.neg_mul] at this
  unfold cr
  omega

variable {s m : Nat}

theorem Once.mono_up (h : Once n X Y s m) {i : Nat} (hi : s ≤ i) : ∀ d, i + d + 1 < s + m → 0 < cr X Y i (i + d + 1)
  | 0, _ => h.turn i
  | d + 1, hd => tr_up (h.up i hi (by omega)) (h.up (i + d + 1) (by omega) (by omega)) (h.up (i + (d + 1) + 1) (by omega) (by omega)) (Int.le_of_lt (h.mono_up hi d (by omega))) (h.turn (i + d + 1))

theorem Once.mono_low (h : Once n X Y s m) {i : Nat} (hi : s + m ≤ i) : ∀ d, i + d + 1 < s + n → 0 < cr X Y i (i + d + 1)
  | 0, _ => h.turn i
  | d + 1, hd => tr_low h.turn (h.low i hi (by omega)) (h.low (i + d + 1) (by omega) (by omega)) (h.low (i + (d + 1) + 1) (by omega) (by omega)) (Int.le_of_lt (h.mono_low hi d (by omega))) (h.turn (i + d + 1))

theorem Once.up_lt (h : Once n X Y s m) {i j : Nat} (hi : s ≤ i) (hij : i < j) (hj : j < s + m) : 0 < cr X Y i j := by
  have := h.mono_up hi (j - i - 1) (by omega)
  rwa [show i + (j - i - 1) + 1 = j by omega] at this

theorem Once.low_lt (h : Once n X Y s m) {i j : Nat} (hi : s + m ≤ i) (hij : i < j) (hj : j < s + n) : 0 < cr X Y i j := by
  have := h.mono_low hi (j - i - 1) (by omega)
  rwa [show i + (j - i - 1) + 1 = j by omega] at this

/-- Behind the first side that is not to the left all are to the right. -/
theorem Once.falls (h : Once n X Y s m) {i j : Nat} (hi : s ≤ i) (hi2 : i < s + n) (hij : i < j) (hj : j + 1 < i + n) (hc : cr X Y i j ≤ 0) : cr X Y i (j + 1) < 0 := by
  have hr := h.ring
  have hm := h.m1
  rcases Nat.lt_or_ge i (s + m) with hu | hu
  · -- the side goes up
    have hiu := h.up i hi hu
    rcases Nat.lt_or_ge j (s + m) with h1 | h1
    · have := h.up_lt hi hij h1
      omega
    · rcases Nat.lt_or_ge (j + 1) (s + n) with h2 | h2
      · exact tr_ull h.turn hiu (h.low j h1 (by omega)) (h.low (j + 1) (by omega) h2) hc (h.turn j)
      · have e : j + 1 = (j + 1 - n) + n := by omega
        rw [e, hr.cr_r, cr_anti]
        have := h.up_lt (i := j + 1 - n) (j := i) (by omega) (by omega) hu
        omega
  · have hil := h.low i hu hi2
    rcases Nat.lt_or_ge j (s + n) with h1 | h1
    · have := h.low_lt hu hij h1
      omega
    · have e0 : j = (j - n) + n := by omega
      have e : j + 1 = (j + 1 - n) + n := by omega
      rcases Nat.lt_or_ge (j + 1) (s + n + m) with h2 | h2
      · have u1 : upS X Y j := by rw [e0, hr.up_p]; exact h.up _ (by omega) (by omega)
        have u2 : upS X Y (j + 1) := by rw [e, hr.up_p]; exact h.up _ (by omega) (by omega)
        exact tr_luu h.turn hil u1 u2 hc (h.turn j)
      · rw [e, hr.cr_r, cr_anti]
        have := h.low_lt (i := j + 1 - n) (j := i) (by omega) (by omega) hi2
        omega

/-- The determinant of side i and the way from its end to a point. -/
def ori (X Y : Nat → Int) (i k : Nat) : Int := (X (i + 1) - X i) * (Y k - Y (i + 1)) - (Y (i + 1) - Y i) * (X k - X (i + 1))

theorem ori_step (i k : Nat) : ori X Y i (k + 1) = ori X Y i k + cr X Y i k := by
  unfold ori cr
  grind

theorem Ring.ori_p (h : Ring n X Y) (i k : Nat) : ori X Y i (k + n) = ori X Y i k := by
  unfold ori
  rw [h.px, h.py]

theorem Ring.ori_l (h : Ring n X Y) (i k : Nat) : ori X Y (i + n) k = ori X Y i k := by
  unfold ori
  have e : i + n + 1 = i + 1 + n := by omega
  rw [e, h.px, h.px, h.py, h.py]

theorem ori_self (i : Nat) : ori X Y i i = 0 ∧ ori X Y i (i + 1) = 0 := by
  unfold ori
  grind

/-- All of them are to the right from a place on. -/
theorem Once.falls_on (h : Once n X Y s m) {i j : Nat} (hi : s ≤ i) (hi2 : i < s + n) (hij : i < j) (hc : cr X Y i j ≤ 0) : ∀ d, j + d + 1 < i + n → cr X Y i (j + d + 1) < 0
  | 0, hd => h.falls hi hi2 hij hd hc
  | d + 1, hd => h.falls hi hi2 (by omega) hd (Int.le_of_lt (h.falls_on hi hi2 hij hc d (by omega)))

/-- To the left of a side lie all other points. -/
theorem Once.left (h : Once n X Y s m) {i : Nat} (hi : s ≤ i) (hi2 : i < s + n) : ∀ d, i + d + 2 < i + n → 0 < ori X Y i (i + d + 2) := by
  have hr := h.ring
  -- as long as sides turn left the determinant grows
  have grow : ∀ d, (∀ j, i < j → j ≤ i + d + 1 → 0 < cr X Y i j) → 0 < ori X Y i (i + d + 2) := by
    intro d
    induction d with
    | zero =>
      intro hj
      rw [ori_step (i := i) (k := i + 1), (ori_self i).2]
      have := hj (i + 1) (by omega) (by omega)
      omega
    | succ d ih =>
      intro hj
      rw [show i + (d + 1) + 2 = (i + d + 2) + 1 by omega, ori_step]
      have h1 := ih fun j a b => hj j a (by omega)
      have h2 := hj (i + d + 2) (by omega) (by omega)
      omega
  -- once they turn right it is greater than 0 till the end
  have back : ∀ d, ∀ k, k + d + 1 = i + n → i < k → (∀ j, k ≤ j → j < i + n → cr X Y i j < 0) → 0 < ori X Y i k := by
    intro d
    induction d with
    | zero =>
      intro k hk hik hj
      have h1 := ori_step (X := X) (Y := Y) i k
      rw [show k + 1 = i + n by omega, hr.ori_p, (ori_self i).1] at h1
      have := hj k (by omega) (by omega)
      omega
    | succ d ih =>
      intro k hk hik hj
      have h1 := ori_step (X := X) (Y := Y) i k
      have h2 := ih (k + 1) (by omega) (by omega) fun j a b => hj j (by omega) b
      have := hj k (by omega) (by omega)
      omega
  intro d hd
  by_cases hall : ∀ j, i < j → j ≤ i + d + 1 → 0 < cr X Y i j
  · exact grow d hall
  · obtain ⟨j, hj⟩ := Classical.not_forall.1 hall
    simp only [Classical.not_imp, Int.not_lt] at hj
    obtain ⟨h1, h2, h3⟩ := hj
    refine back (n - d - 3) (i + d + 2) (by omega) (by omega) fun l a b => ?_
    have := h.falls_on hi hi2 h1 h3 (l - j - 1) (by omega)
    rwa [show j + (l - j - 1) + 1 = l by omega] at this

/-- All points to the left of all sides. -/
def Glob (n : Nat) (X Y : Nat → Int) : Prop := ∀ i d, d + 2 < n → 0 < ori X Y i (i + d + 2)

/-- Left turns alone, and once around. -/
def Loc (n : Nat) (X Y : Nat → Int) : Prop := (∀ i, 0 < cr X Y i (i + 1)) ∧ ∃ t, t < n ∧ ¬ upS X Y t ∧ upS X Y (t + 1) ∧ ∀ j, j < n → ¬ upS X Y j → upS X Y (j + 1) → j = t

theorem least_of (P : Nat → Prop) : ∀ N, P N → ∃ d, d ≤ N ∧ P d ∧ ∀ e, e < d → ¬ P e
  | 0, h => ⟨0, by omega, h, fun e he => by omega⟩
  | N + 1, h => by
    by_cases hl : ∃ e, e ≤ N ∧ P e
    · obtain ⟨e, he, hp⟩ := hl
      obtain ⟨d, h1, h2, h3⟩ := least_of (fun x => P x ∧ x ≤ e) e ⟨hp, Nat.le_refl _⟩ |> fun ⟨d, a, b, c⟩ => (⟨d, a, b.1, fun x hx hPx => c x hx ⟨hPx, by omega⟩⟩ : ∃ d, d ≤ e ∧ P d ∧ ∀ x, x < d → ¬ P x)
      exact ⟨d, by omega, h2, h3⟩
    · exact ⟨N + 1, by omega, h, fun e he hp => hl ⟨e, by omega, hp⟩⟩

theorem Loc.once (hr : Ring n X Y) (h : Loc n X Y) : ∃ s m, Once n X Y s m := by
  obtain ⟨ht, t, htn, hlow, hup, huniq⟩ := h
  have hlow2 : ¬ upS X Y (t + n) := fun h => hlow ((hr.up_p t).1 h)
  have hp := hr.pos
  obtain ⟨m, hm1, hm2, hm3⟩ := least_of (fun d => ¬ upS X Y (t + 1 + d)) (n - 1) (by
    rw [show t + 1 + (n - 1) = t + n by omega]
    exact hlow2)
  have hm0 : 1 ≤ m := by
    rcases Nat.lt_or_ge 0 m with h | h
    · exact h
    · exfalso
      have : m = 0 := by omega
      subst this
      exact hm2 hup
  refine ⟨t + 1, m, ⟨hr, hm0, by omega, ht, fun j h1 h2 => ?_, fun j h1 h2 => ?_⟩⟩
  · have := hm3 (j - (t + 1)) (by omega)
    rw [show t + 1 + (j - (t + 1)) = j by omega] at this
    exact Classical.not_not.1 this
  · have key : ∀ d, t + 1 + m + d < t + 1 + n → ¬ upS X Y (t + 1 + m + d) := by
      intro d
      induction d with
      | zero => intro _; exact hm2
      | succ d ih =>
        intro hd hu
        have h1 := ih (by omega)
        rcases Nat.lt_or_ge (t + 1 + m + d) n with h3 | h3
        · have := huniq _ h3 h1 hu
          omega
        · have e1 : t + 1 + m + d = (t + 1 + m + d - n) + n := by omega
          have e2 : t + 1 + m + (d + 1) = (t + 1 + m + d - n + 1) + n := by omega
          rw [e1, hr.up_p] at h1
          rw [e2, hr.up_p] at hu
          have := huniq _ (by omega) h1 hu
          omega
    have := key (j - (t + 1 + m)) (by omega)
    rwa [show t + 1 + m + (j - (t + 1 + m)) = j by omega] at this

theorem Loc.glob (hr : Ring n X Y) (h : Loc n X Y) : Glob n X Y := by
  obtain ⟨s, m, ho⟩ := h.once hr
  have hp := hr.pos
  -- each number has a neighbour in the round from s on
  have key : ∀ q i d, s ≤ i + n * q → i + n * q < s + n → d + 2 < n → 0 < ori X Y i (i + d + 2) := by
    intro q
    induction q with
    | zero => intro i d h1 h2 hd; exact ho.left (by simpa using h1) (by simpa using h2) d (by omega)
    | succ q ih =>
      intro i d h1 h2 hd
      have := ih (i + n) d (by rw [Nat.mul_add] at h1; omega) (by rw [Nat.mul_add] at h2; omega) hd
      rw [hr.ori_l, show i + n + d + 2 = i + d + 2 + n by omega, hr.ori_p] at this
      exact this
  have down : ∀ q i d, s ≤ i → i < s + n * q → d + 2 < n → 0 < ori X Y i (i + d + 2) := by
    intro q
    induction q with
    | zero => intro i d h1 h2; omega
    | succ q ih =>
      intro i d h1 h2 hd
      rcases Nat.lt_or_ge i (s + n) with h3 | h3
      · exact ho.left h1 h3 d (by omega)
      · have := ih (i - n) d (by omega) (by rw [Nat.mul_add] at h2; omega) hd
        rw [← hr.ori_l, ← hr.ori_p, show i - n + n = i by omega, show i - n + d + 2 + n = i + d + 2 by omega] at this
        exact this
  intro i d hd
  rcases Nat.lt_or_ge i s with h1 | h1
  · -- ahead of s
    have up : ∀ q i d, i < s → s ≤ i + n * q → d + 2 < n → 0 < ori X Y i (i + d + 2) := by
      intro q
      induction q with
      | zero => intro i d h1 h2; omega
      | succ q ih =>
        intro i d h1 h2 hd
        have : 0 < ori X Y (i + n) (i + n + d + 2) := by
          rcases Nat.lt_or_ge (i + n) s with h3 | h3
          · exact ih (i + n) d h3 (by rw [Nat.mul_add] at h2; omega) hd
          · exact down 1 (i + n) d h3 (by omega) hd
        rw [hr.ori_l, show i + n + d + 2 = i + d + 2 + n by omega, hr.ori_p] at this
        exact this
    refine up s i d h1 ?_ hd
    have : s * 1 ≤ s * n := Nat.mul_le_mul_left _ (by omega)
    rw [Nat.mul_comm n s]
    omega
  · refine down (i + 1) i d h1 ?_ hd
    have : (i + 1) * 1 ≤ (i + 1) * n := Nat.mul_le_mul_left _ (by omega)
    rw [Nat.mul_comm n (i + 1)]
    omega

theorem Glob.turn (hr : Ring n X Y) (h : Glob n X Y) (i : Nat) : 0 < cr X Y i (i + 1) := by
  have hp := hr.pos
  have := h i 0 (by omega)
  rw [show i + 0 + 2 = (i + 1) + 1 by omega, ori_step, (ori_self i).2] at this
  omega

/-- Where a side that does not go up is followed by one that does there is the least point. -/
theorem Glob.least (hr : Ring n X Y) (h : Glob n X Y) {t : Nat} (hl : ¬ upS X Y t) (hu : upS X Y (t + 1)) : ∀ d, 1 ≤ d → d < n → upV (X (t + 1 + d) - X (t + 1)) (Y (t + 1 + d) - Y (t + 1)) := by
  have ht := h.turn hr
  intro d hd hdn
  have hln := low_neg ht hl
  rcases Nat.lt_or_ge d 2 with h1 | h1
  · have : d = 1 := by omega
    subst this
    exact hu
  · rcases Nat.lt_or_ge d (n - 1) with h2 | h2
    · have o1 := h t (d - 1) (by omega)
      have o2 := h (t + 1) (d - 2) (by omega)
      rw [show t + (d - 1) + 2 = t + 1 + d by omega] at o1
      rw [show t + 1 + (d - 2) + 2 = t + 1 + d by omega] at o2
      rcases Classical.em (upV (X (t + 1 + d) - X (t + 1)) (Y (t + 1 + d) - Y (t + 1))) with hv | hv
      · exact hv
      · exfalso
        have hne : X (t + 1 + d) - X (t + 1) ≠ 0 ∨ Y (t + 1 + d) - Y (t + 1) ≠ 0 := by
          rcases Classical.em (X (t + 1 + d) - X (t + 1) = 0) with g1 | g1
          · rcases Classical.em (Y (t + 1 + d) - Y (t + 1) = 0) with g2 | g2
            · exfalso
              unfold ori at o1
              rw [g1, g2] at o1
              simp at o1
            · exact .inr g2
          · exact .inl g1
        have hw := up_neg hv hne
        have hh := ht t
        unfold upS at hu
        have := up_trans hln hw hu (by unfold ori at o1; rw [neg_mul2]; exact Int.le_of_lt o1) (by unfold ori at o2; grind)
        unfold cr at hh
        rw [Int.neg_mul, Int.neg_mul] at this
        omega
    · have : d = n - 1 := by omega
      subst this
      rw [show t + 1 + (n - 1) = t + n by omega, hr.px, hr.py]
      rw [Int.neg_sub, Int.neg_sub] at hln
      exact hln

theorem up_both {x y : Int} (h1 : upV x y) (h2 : upV (-x) (-y)) : False := by
  unfold upV at h1 h2
  omega

theorem Glob.loc (hr : Ring n X Y) (h : Glob n X Y) : Loc n X Y := by
  have hp := hr.pos
  have ht := h.turn hr
  refine ⟨ht, ?_⟩
  -- there is a place where sides begin to go up
  have hex : ∃ t, t < n ∧ ¬ upS X Y t ∧ upS X Y (t + 1) := by
    rcases Classical.em (∃ t, t < n ∧ ¬ upS X Y t ∧ upS X Y (t + 1)) with g | g
    · exact g
    · exfalso
      have gno : ∀ j, ¬ upS X Y j → ¬ upS X Y (j + 1) := by
        have : ∀ q j, j < n + n * q → ¬ upS X Y j → ¬ upS X Y (j + 1) := by
          intro q
          induction q with
          | zero => intro j hj h1 h2; exact g ⟨j, by simpa using hj, h1, h2⟩
          | succ q ih =>
            intro j hj h1 h2
            rcases Nat.lt_or_ge j n with h3 | h3
            · exact g ⟨j, h3, h1, h2⟩
            · have e1 : j = (j - n) + n := by omega
              have e2 : j + 1 = (j - n + 1) + n := by omega
              rw [e1, hr.up_p] at h1
              rw [e2, hr.up_p] at h2
              exact ih (j - n) (by rw [Nat.mul_add] at hj; omega) h1 h2
        intro j
        refine this j j ?_
        have : j * 1 ≤ j * n := Nat.mul_le_mul_left _ (by omega)
        rw [Nat.mul_comm n j]
        omega
      by_cases ha : ∃ j, ¬ upS X Y j
      · obtain ⟨j, hj⟩ := ha
        -- none goes up behind it
        have all : ∀ d, ¬ upS X Y (j + d) := by
          intro d
          induction d with
          | zero => exact hj
          | succ d ih => exact gno _ ih
        have mono : ∀ d, Y (j + d) ≤ Y j ∧ (Y (j + d) = Y j → X (j + d) ≤ X j ∧ (1 ≤ d → X (j + d) < X j)) := by
          intro d
          induction d with
          | zero => simp
          | succ d ih =>
            have h1 := low_neg ht (all d)
            unfold upV at h1
            rw [← Nat.add_assoc]
            refine ⟨by omega, fun e => ?_⟩
            have h2 : Y (j + d) = Y j := by omega
            have h3 := ih.2 h2
            refine ⟨by omega, fun _ => by omega⟩
        have := (mono n).2 (hr.py j)
        have h2 := this.2 (by omega)
        rw [hr.px] at h2
        omega
      · have all : ∀ j, upS X Y j := fun j => by
          rcases Classical.em (upS X Y j) with h1 | h1
          · exact h1
          · exact absurd ⟨j, h1⟩ ha
        have mono : ∀ d, Y 0 ≤ Y d ∧ (Y d = Y 0 → X 0 ≤ X d ∧ (1 ≤ d → X 0 < X d)) := by
          intro d
          induction d with
          | zero => simp
          | succ d ih =>
            have h1 := all d
            unfold upS upV at h1
            refine ⟨by omega, fun e => ?_⟩
            have h2 : Y d = Y 0 := by omega
            have h3 := ih.2 h2
            refine ⟨by omega, fun _ => by omega⟩
        have e1 := hr.py 0
        have e2 := hr.px 0
        rw [Nat.zero_add] at e1 e2
        have := ((mono n).2 e1).2 (by omega)
        omega
  obtain ⟨t, htn, hl, hu⟩ := hex
  refine ⟨t, htn, hl, hu, fun j hj hjl hju => ?_⟩
  rcases Nat.lt_trichotomy j t with h1 | h1 | h1
  · exfalso
    have a1 := h.least hr hjl hju (t - j) (by omega) (by omega)
    have a2 := h.least hr hl hu (n + j - t) (by omega) (by omega)
    rw [show j + 1 + (t - j) = t + 1 by omega] at a1
    rw [show t + 1 + (n + j - t) = j + 1 + n by omega, hr.px, hr.py] at a2
    refine up_both a1 ?_
    rw [Int.neg_sub, Int.neg_sub]
    exact a2
  · exact h1
  · exfalso
    have a1 := h.least hr hl hu (j - t) (by omega) (by omega)
    have a2 := h.least hr hjl hju (n + t - j) (by omega) (by omega)
    rw [show t + 1 + (j - t) = j + 1 by omega] at a1
    rw [show j + 1 + (n + t - j) = t + 1 + n by omega, hr.px, hr.py] at a2
    refine up_both a1 ?_
    rw [Int.neg_sub, Int.neg_sub]
    exact a2

/-- Both tests of a polygon come to the same. -/
theorem ring_iff (hr : Ring n X Y) : Loc n X Y ↔ Glob n X Y := ⟨fun h => h.glob hr, fun h => h.loc hr⟩

theorem spec_l01In_eq (k : Nat) (n low high : Int) (r : Bool → Option α) : spec_l01In k n low high r = r (inB n low high) := by
  unfold spec_l01In inB
  cases decide (low ≤ n) <;> rfl

theorem spec_l01Fits_eq (k : Nat) (n : Int) (r : Bool → Option α) : spec_l01Fits k n r = r (crd n) := by
  simp only [spec_l01Fits, spec_l01In_eq]; rfl

theorem spec_l01Is_eq (k : Nat) (a b : Int) (r : Bool → Option α) : spec_l01Is k a b r = r (crd a && crd b) := by
  simp only [spec_l01Is, spec_l01Fits_eq]
  cases crd a <;> rfl

theorem impl_in_eq (k : Nat) (n low high : Int) (r : Bool → Option α) : impl_in k n low high r = r (inB n low high) := by
  unfold impl_in inB
  cases decide (low ≤ n) <;> rfl

theorem impl_isCoord_eq (k : Nat) (n : Int) (r : Bool → Option α) : impl_isCoord k n r = r (crd n) := by
  simp only [impl_isCoord, impl_in_eq]; rfl

theorem impl_IsPoint_eq (k : Nat) (a b : Int) (r : Bool → Option α) : impl_IsPoint k a b r = r (crd a && crd b) := by
  simp only [impl_IsPoint, impl_isCoord_eq]
  cases crd a <;> rfl

theorem spec_l01Matrix_eq (k : Nat) (a b c d : Int) (r : Bool → Option α) : spec_l01Matrix k a b c d r = r (crd a && (crd b && (crd c && crd d))) := by
  simp only [spec_l01Matrix, spec_l01Fits_eq]
  cases crd a <;> cases crd b <;> cases crd c <;> rfl

theorem impl_points_find (k : Nat) (s : List (Int × Int)) (hs : s.length ≤ big) (hk : s.length < k) (r : Bool → Option α) : impl_points k s r = r (s.all fun e => crd e.1 && crd e.2) := by
  unfold impl_points slices_ContainsFunc_impl_Point_impl_Point_1F_impl_points_1 slices_IndexFunc_impl_Point_impl_Point_1F_impl_points_1
  have h := find_loop (α := α) (p := fun e : Int × Int => !(crd e.1 && crd e.2)) (L := slices_IndexFunc_impl_Point_impl_Point_1F_impl_points_1_l2)
    (fun k x i s b r => by simp only [slices_IndexFunc_impl_Point_impl_Point_1F_impl_points_1_l2, impl_points_1, impl_IsPoint_eq]) s k 0 s
  have h0 : ((0 : Nat) : Int) = 0 := rfl
  rw [h0] at h
  rw [h _ _ (by simp) hs (by omega) hk]
  cases hf : s.findIdx? (fun e : Int × Int => !(crd e.1 && crd e.2)) with
  | none =>
    rw [List.findIdx?_eq_none_iff] at hf
    have : (s.all fun e => crd e.1 && crd e.2) = true := List.all_eq_true.2 fun e he => by simpa using hf e he
    simp [this]
  | some j =>
    rw [List.findIdx?_eq_some_iff_getElem] at hf
    obtain ⟨hj, hp, _⟩ := hf
    have : (s.all fun e => crd e.1 && crd e.2) = false := by
      rw [List.all_eq_false]
      exact ⟨s[j], List.getElem_mem hj, by cases h1 : crd s[j].1 <;> cases h2 : crd s[j].2 <;> simp_all⟩
    rw [this]
    simp

theorem impl_points2 (k : Nat) (hk : 3 ≤ k) (a b c d : Int) (r : Bool → Option α) : impl_points k [(a, b), (c, d)] r = r (crd a && crd b && (crd c && crd d)) := by
  rw [impl_points_find _ _ (by rw [big_val]; simp) (by simp; omega)]
  simp

theorem impl_IsMatrix_eq (k : Nat) (hk : 3 ≤ k) (a b c d : Int) (r : Bool → Option α) : impl_IsMatrix k a b c d r = r (crd a && (crd b && (crd c && crd d))) := by
  simp only [impl_IsMatrix, impl_points2 k hk, Bool.and_assoc]

theorem set_mid {β : Type} (pre : List β) (x y : β) (rest : List β) : (pre ++ x :: rest).set pre.length y = pre ++ [y] ++ rest := by
  rw [List.set_append_right _ _ (Nat.le_refl _)]
  simp

/-- The same for points. -/
def markedP : Nat → Int → List (Int × Int)
  | 0, _ => []
  | n + 1, m => (m, m + 1) :: markedP n (m + 2)

theorem markedP_length : ∀ (n : Nat) (m : Int), (markedP n m).length = n
  | 0, _ => rfl
  | n + 1, m => by simp [markedP, markedP_length n]

theorem laws_eqPoint_eq (k : Nat) (a b c d : Int) (r : Bool → Option α) : laws_eqPoint k a b c d r = r (decide (a = c) && decide (b = d)) := by
  unfold laws_eqPoint
  cases decide (a = c) <;> cases decide (b = d) <;> rfl

theorem eqPointS_l4_same : ∀ (rest : List (Int × Int)) (k i : Nat) (s : List (Int × Int)) b (r : Bool → Option α), s.drop i = rest → s.length ≤ big → i ≤ s.length → rest.length < k → laws_eqPointS_l4 k i s s b r = b s.length s s
  | [], k + 1, i, s, b, r, hd, hb, hi, _ => by
    have h1 := drop_nil hd
    have h2 : i = s.length := by omega
    subst h2
    rw [laws_eqPointS_l4, dec_lt_f (by omega)]
    rfl
  | e :: rest, k + 1, i, s, b, r, hd, hb, hi, hk => by
    obtain ⟨h1, h2, h3⟩ := drop_cons hd
    rw [big_val] at hb
    rw [laws_eqPointS_l4, dec_lt_t (by omega), dec_le_t (by omega), cond_true, Bool.and_true, cond_true, Int.toNat_natCast, h1, Option.bind_some, cond_true]
    have e1 : w64 ((i : Int) + 1) = ((i + 1 : Nat) : Int) := by rw [w64_of (by omega) (by omega)]; omega
    simp only [Option.bind_some, laws_eqPoint_eq, decide_true, Bool.and_true, Bool.not_true, cond_false, e1]
    exact eqPointS_l4_same rest k (i + 1) s b r h2 (by rw [big_val]; omega) (by omega) (by simp at hk; omega)
  | _, 0, _, _, _, _, _, _, _, hk => by omega

theorem eqPointS_same (k : Nat) (s : List (Int × Int)) (r : Bool → Option α) (hs : s.length ≤ big) (hk : s.length < k) : laws_eqPointS k s s r = r true := by
  unfold laws_eqPointS
  have h := eqPointS_l4_same (α := α) s k 0 s (fun _ _ _ => r true) r (by simp) hs (by omega) hk
  simpa using h

theorem markPointS_l2_ok : ∀ (rest : List (Int × Int)) (k : Nat) (pre : List (Int × Int)) (m : Int) b (r : Int → List (Int × Int) → Option α), pre.length + rest.length ≤ big → 0 ≤ m → m + 2 * rest.length ≤ 1000000000000000 → rest.length < k →
    laws_markPointS_l2 k m pre.length (pre ++ rest) b r = b (m + 2 * rest.length) (pre.length + rest.length : Nat) (pre ++ markedP rest.length m)
  | [], k + 1, pre, m, b, r, hb, h0, hm, _ => by
    rw [laws_markPointS_l2, dec_lt_f (by simp)]
    simp [markedP]
  | e :: rest, k + 1, pre, m, b, r, hb, h0, hm, hk => by
    rw [big_val] at hb
    simp only [List.length_cons] at hb hk hm
    have hl : (pre ++ e :: rest).length = pre.length + (rest.length + 1) := by simp
    have e1 : w64 ((pre.length : Int) + 1) = ((pre ++ [(m, m + 1)]).length : Int) := by rw [w64_of (by omega) (by omega)]; simp
    have e2 : w64 (m + 1) = m + 1 := w64_of (by omega) (by omega)
    have e3 : w64 (m + 1 + 1) = m + 2 := by rw [w64_of (by omega) (by omega)]; omega
    have hg : (pre ++ e :: rest)[pre.length]? = some e := by simp
    have hg2 : ((pre ++ e :: rest).set pre.length (m, e.2))[pre.length]? = some (m, e.2) := by rw [set_mid]; simp
    have hs2 : ((pre ++ e :: rest).set pre.length (m, e.2)).set pre.length (m, m + 1) = (pre ++ [(m, m + 1)]) ++ rest := by
      rw [List.set_set, set_mid]
    rw [laws_markPointS_l2, hl, dec_lt_t (by omega), dec_le_t (by omega), cond_true, Bool.and_true, cond_true, Int.toNat_natCast, hg, Option.bind_some, List.length_set, hl, dec_lt_t (by omega), Bool.and_self, cond_true, hg2, Option.bind_some, e2, hs2, e1, e3]
    rw [markPointS_l2_ok rest k (pre ++ [(m, m + 1)]) (m + 2) b r (by rw [big_val]; simp; omega) (by omega) (by omega) (by omega)]
    simp only [markedP, List.append_assoc, List.singleton_append, List.length_cons, List.length_append, List.length_nil]
    congr 1
    · omega
    · omega
  | _, 0, _, _, _, _, _, _, _, hk => by omega

theorem markPointS_ok (k : Nat) (s : List (Int × Int)) (m : Int) (r : Int → List (Int × Int) → Option α) (hs : s.length ≤ big) (h0 : 0 ≤ m) (hm : m + 2 * s.length ≤ 1000000000000000) (hk : s.length < k) : laws_markPointS k s m r = r (m + 2 * s.length) (markedP s.length m) := by
  unfold laws_markPointS
  have h := markPointS_l2_ok (α := α) s k [] m (fun a _ c => r a c) r (by simpa using hs) h0 hm hk
  simpa using h

theorem heldPointS_l2_ok : ∀ (n : Nat) (k : Nat) (pre : List (Int × Int)) (m : Int) b (r : Int → Option α), pre.length + n ≤ big → 0 ≤ m → m + 2 * n ≤ 1000000000000000 → n < k →
    laws_heldPointS_l2 k m pre.length (pre ++ markedP n m) b r = b (m + 2 * n) (pre.length + n : Nat) (pre ++ markedP n m)
  | 0, k + 1, pre, m, b, r, hb, h0, hm, _ => by
    rw [laws_heldPointS_l2, dec_lt_f (by simp [markedP])]
    simp [markedP]
  | n + 1, k + 1, pre, m, b, r, hb, h0, hm, hk => by
    rw [big_val] at hb
    have hl : (pre ++ markedP (n + 1) m).length = pre.length + (n + 1) := by simp [markedP_length]
    have e1 : w64 ((pre.length : Int) + 1) = ((pre ++ [(m, m + 1)]).length : Int) := by rw [w64_of (by omega) (by omega)]; simp
    have e2 : w64 (m + 1) = m + 1 := w64_of (by omega) (by omega)
    have e3 : w64 (m + 1 + 1) = m + 2 := by rw [w64_of (by omega) (by omega)]; omega
    have hg : (pre ++ markedP (n + 1) m)[pre.length]? = some (m, m + 1) := by simp [markedP]
    have ha : pre ++ markedP (n + 1) m = (pre ++ [(m, m + 1)]) ++ markedP n (m + 2) := by simp [markedP]
    rw [laws_heldPointS_l2, hl, dec_lt_t (by omega), dec_le_t (by omega), cond_true, Bool.and_true, cond_true, Int.toNat_natCast, hg, Option.bind_some]
    simp only [decide_true, Bool.not_true, cond_false, cond_true, Option.bind_some, e2, e3, e1]
    rw [ha, heldPointS_l2_ok n k (pre ++ [(m, m + 1)]) (m + 2) b r (by rw [big_val]; simp; omega) (by omega) (by omega) (by omega)]
    congr 1
    · omega
    · simp; omega
  | _, 0, _, _, _, _, _, _, _, hk => by omega

theorem heldPointS_ok (k n : Nat) (m : Int) (r : Int → Option α) (hs : n ≤ big) (h0 : 0 ≤ m) (hm : m + 2 * n ≤ 1000000000000000) (hk : n < k) : laws_heldPointS k (markedP n m) m r = r (m + 2 * n) := by
  unfold laws_heldPointS
  have h := heldPointS_l2_ok (α := α) n k [] m (fun a _ _ => r a) r (by simpa using hs) h0 hm hk
  simpa using h

/-- The numbers of a ring of points. -/
def ringX (l : List (Int × Int)) (i : Nat) : Int := (l.getD (i % l.length) (0, 0)).1

def ringY (l : List (Int × Int)) (i : Nat) : Int := (l.getD (i % l.length) (0, 0)).2

theorem ring_of {l : List (Int × Int)} (h : 3 ≤ l.length) : Ring l.length (ringX l) (ringY l) := ⟨h, fun i => by simp [ringX], fun i => by simp [ringY]⟩

theorem ring_get {l : List (Int × Int)} {i : Nat} (h : 0 < l.length) : l[i % l.length]? = some (ringX l i, ringY l i) := by
  have hlt : i % l.length < l.length := Nat.mod_lt _ h
  simp [ringX, ringY, List.getD_eq_getElem?_getD, List.getElem?_eq_getElem hlt]

theorem ring_get' {l : List (Int × Int)} {i : Nat} (h : i < l.length) : l[i]? = some (ringX l i, ringY l i) := by
  have := ring_get (l := l) (i := i) (by omega)
  rwa [Nat.mod_eq_of_lt h] at this

theorem tmod_nat (i n : Nat) (hi : (i : Int) ≤ 1000000000000) (c : Nat) (hc : c ≤ 2) : Int.tmod (w64 ((i : Int) + (c : Int))) (n : Int) = (((i + c) % n : Nat) : Int) := by
  rw [w64_of (by omega) (by omega)]
  have : (i : Int) + (c : Int) = ((i + c : Nat) : Int) := by omega
  rw [this]
  rfl

def sm (x : Int) : Bool := inB x (-1000) 1000

theorem sm_crd {x : Int} (h : sm x = true) : crd x = true := by
  unfold sm at h
  rw [inB_iff] at h
  rw [crd_iff]
  omega

/-- What is looked at from a corner on. -/
def atC (X Y : Nat → Int) (i : Nat) : Bool := sm (X i) && (sm (Y i) && ((crd (X (i + 1)) && crd (Y (i + 1))) && ((crd (X (i + 2)) && crd (Y (i + 2))) && decide (0 < cr X Y i (i + 1)))))

instance (X Y : Nat → Int) (i : Nat) : Decidable (upS X Y i) := by unfold upS; infer_instance

def turnsUp (X Y : Nat → Int) (i : Nat) : Bool := !decide (upS X Y i) && decide (upS X Y (i + 1))

def allF (ok : Nat → Bool) : Nat → Nat → Bool
  | _, 0 => true
  | i, m + 1 => ok i && allF ok (i + 1) m

def cntF (p : Nat → Bool) : Nat → Nat → Int
  | _, 0 => 0
  | i, m + 1 => (bif p i then 1 else 0) + cntF p (i + 1) m

theorem allF_iff {ok : Nat → Bool} : ∀ {m i : Nat}, allF ok i m = true ↔ ∀ j, i ≤ j → j < i + m → ok j = true
  | 0, i => by simp [allF]; intro j h1 h2; omega
  | m + 1, i => by
    simp only [allF, Bool.and_eq_true, allF_iff]
    constructor
    · rintro ⟨h1, h2⟩ j h3 h4
      by_cases e : j = i
      · subst e; exact h1
      · exact h2 j (by omega) (by omega)
    · intro h
      exact ⟨h i (by omega) (by omega), fun j h1 h2 => h j (by omega) (by omega)⟩

theorem cntF_nn {p : Nat → Bool} : ∀ {m i : Nat}, 0 ≤ cntF p i m ∧ cntF p i m ≤ m
  | 0, i => by simp [cntF]
  | m + 1, i => by
    have := cntF_nn (p := p) (m := m) (i := i + 1)
    simp only [cntF]
    cases p i <;> simp <;> omega

theorem cntF_zero {p : Nat → Bool} : ∀ {m i : Nat}, cntF p i m = 0 ↔ ∀ j, i ≤ j → j < i + m → p j = false
  | 0, i => by simp [cntF]; intro j h1 h2; omega
  | m + 1, i => by
    have hn := cntF_nn (p := p) (m := m) (i := i + 1)
    have ih := cntF_zero (p := p) (m := m) (i := i + 1)
    simp only [cntF]
    cases hp : p i with
    | true =>
      simp only [cond_true]
      constructor
      · intro h; omega
      · intro h
        have := h i (by omega) (by omega)
        rw [hp] at this; cases this
    | false =>
      simp only [cond_false, Int.zero_add]
      rw [ih]
      constructor
      · intro h j h1 h2
        by_cases e : j = i
        · subst e; exact hp
        · exact h j (by omega) (by omega)
      · intro h j h1 h2
        exact h j (by omega) (by omega)

theorem cntF_one {p : Nat → Bool} : ∀ {m i : Nat}, cntF p i m = 1 ↔ ∃ t, i ≤ t ∧ t < i + m ∧ p t = true ∧ ∀ j, i ≤ j → j < i + m → p j = true → j = t
  | 0, i => by
    simp only [cntF]
    constructor
    · intro h; omega
    · rintro ⟨t, h1, h2, _⟩; omega
  | m + 1, i => by
    have ih := cntF_one (p := p) (m := m) (i := i + 1)
    have iz := cntF_zero (p := p) (m := m) (i := i + 1)
    simp only [cntF]
    cases hp : p i with
    | true =>
      simp only [cond_true]
      constructor
      · intro h
        have hz := iz.1 (by omega)
        refine ⟨i, by omega, by omega, hp, fun j h1 h2 h3 => ?_⟩
        by_cases e : j = i
        · exact e
        · have := hz j (by omega) (by omega)
          rw [this] at h3; cases h3
      · rintro ⟨t, h1, h2, h3, h4⟩
        have ht := h4 i (by omega) (by omega) hp
        subst ht
        have := iz.2 fun j h5 h6 => by
          cases hj : p j with
          | false => rfl
          | true => have := h4 j (by omega) (by omega) hj; omega
        omega
    | false =>
      simp only [cond_false, Int.zero_add]
      rw [ih]
      constructor
      · rintro ⟨t, h1, h2, h3, h4⟩
        refine ⟨t, by omega, by omega, h3, fun j h5 h6 h7 => ?_⟩
        by_cases e : j = i
        · subst e; rw [hp] at h7; cases h7
        · exact h4 j (by omega) (by omega) h7
      · rintro ⟨t, h1, h2, h3, h4⟩
        have hne : t ≠ i := fun e => by subst e; rw [hp] at h3; cases h3
        exact ⟨t, by omega, by omega, h3, fun j h5 h6 h7 => h4 j (by omega) (by omega) h7⟩

theorem sub_wP {a b : Int} (ha : -1000000 ≤ a ∧ a ≤ 1000000) (hb : -1000000 ≤ b ∧ b ≤ 1000000) : w64 (b + w64 (-1 * a)) = b - a := by
  rw [w64_of (n := -1 * a) (by omega) (by omega), w64_of (by omega) (by omega)]
  omega

theorem det_wP {a b c d : Int} (ha : -2000000 ≤ a ∧ a ≤ 2000000) (hb : -2000000 ≤ b ∧ b ≤ 2000000) (hc : -2000000 ≤ c ∧ c ≤ 2000000) (hd : -2000000 ≤ d ∧ d ≤ 2000000) : w64 (w64 (a * d) - w64 (b * c)) = a * d - b * c := by
  have h1 := mul_bound ha.1 ha.2 hd.1 hd.2
  have h2 := mul_bound hb.1 hb.2 hc.1 hc.2
  rw [w64_of (n := a * d) (by omega) (by omega), w64_of (n := b * c) (by omega) (by omega), w64_of (by omega) (by omega)]

theorem spec_side_eq {a b c d e f : Int} (ha : crd a = true) (hb : crd b = true) (hc : crd c = true) (hd : crd d = true) (he : crd e = true) (hf : crd f = true) (k : Nat) (r : Int → Option α) : spec_l09Side k a b c d e f r = r ((c - a) * (f - d) - (d - b) * (e - c)) := by
  rw [crd_iff] at ha hb hc hd he hf
  simp only [spec_l09Side, spec_l01Plus, spec_l01Det]
  rw [sub_wP ha hc, sub_wP hb hd, sub_wP hc he, sub_wP hd hf, det_wP (by omega) (by omega) (by omega) (by omega)]

theorem spec_half_eq (x y : Int) (k : Nat) (r : Int → Option α) : spec_l09Half k x y r = r (if upV x y then 0 else 1) := by
  simp only [spec_l09Half]
  by_cases h : 0 < y
  · simp [h, upV]
  · by_cases h0 : y = 0
    · subst h0
      by_cases h1 : 0 < x
      · simp [h1, upV]
      · simp [h1, upV]
    · simp [h, h0, upV]

theorem spec_l6 {l : List (Int × Int)} (hl : 3 ≤ l.length) (hl2 : l.length ≤ 12) : ∀ (m k i : Nat) (t : Int) (r : Bool → Option α), i + m = l.length → m < k → 0 ≤ t → t ≤ i →
    spec_l09Is_l6 k l.length t i l (fun _ t _ _ => r (decide (t = 1))) r = r (allF (atC (ringX l) (ringY l)) i m && decide (t + cntF (turnsUp (ringX l) (ringY l)) i m = 1))
  | 0, k + 1, i, t, r, hi, _, _, _ => by
    rw [spec_l09Is_l6, dec_lt_f (by omega)]
    simp [allF, cntF]
  | m + 1, k + 1, i, t, r, hi, hk, h0, h1 => by
    have e1 := tmod_nat i l.length (by omega) 1 (by omega)
    have e2 := tmod_nat i l.length (by omega) 2 (by omega)
    simp only [Int.cast_ofNat_Int] at e1 e2
    have b1 : (i + 1) % l.length < l.length := Nat.mod_lt _ (by omega)
    have b2 : (i + 2) % l.length < l.length := Nat.mod_lt _ (by omega)
    have g0 := ring_get' (l := l) (i := i) (by omega)
    have g1 := ring_get (l := l) (i := i + 1) (by omega)
    have g2 := ring_get (l := l) (i := i + 2) (by omega)
    have hn : decide ((l.length : Int) = 0) = false := decide_eq_false (by omega)
    have en : w64 ((i : Int) + 1) = (i : Int) + 1 := w64_of (by omega) (by omega)
    have et : w64 (t + 1) = t + 1 := w64_of (by omega) (by omega)
    rw [spec_l09Is_l6, dec_lt_t (by omega), dec_le_t (by omega), cond_true, Bool.and_true, cond_true, Int.toNat_natCast, g0, Option.bind_some, hn, cond_false]
    simp only [e1, e2, cond_false, Int.toNat_natCast, g1, g2, Option.bind_some, dec_le_t (Int.natCast_nonneg ((i + 1) % l.length)), dec_le_t (Int.natCast_nonneg ((i + 2) % l.length)), dec_lt_t (Int.ofNat_lt.2 b1), dec_lt_t (Int.ofNat_lt.2 b2), Bool.and_self, cond_true, spec_l01In_eq, spec_l01Is_eq, allF, cntF, atC]
    cases s0 : sm (ringX l i) with
    | false => unfold sm at s0; simp [s0]
    | true =>
      cases s1 : sm (ringY l i) with
      | false => unfold sm at s0 s1; simp [s0, s1]
      | true =>
        have c0 := sm_crd s0
        have c1 := sm_crd s1
        unfold sm at s0 s1
        cases c2 : (crd (ringX l (i + 1)) && crd (ringY l (i + 1))) with
        | false => simp [s0, s1]
        | true =>
          cases c3 : (crd (ringX l (i + 2)) && crd (ringY l (i + 2))) with
          | false => simp [s0, s1]
          | true =>
            simp only [Bool.and_eq_true] at c2 c3
            simp only [s0, s1, Bool.not_true, cond_false, Bool.true_and]
            rw [spec_side_eq c0 c1 c2.1 c2.2 c3.1 c3.2]
            have ec : (ringX l (i + 1) - ringX l i) * (ringY l (i + 2) - ringY l (i + 1)) - (ringY l (i + 1) - ringY l i) * (ringX l (i + 2) - ringX l (i + 1)) = cr (ringX l) (ringY l) i (i + 1) := rfl
            rw [ec]
            rcases ilt_or_ge 0 (cr (ringX l) (ringY l) i (i + 1)) with hc | hc
            · rw [dec_le_f hc, dec_lt_t hc, cond_false, Bool.true_and]
              have k0 := crd_iff.1 c0
              have k1 := crd_iff.1 c1
              have k2 := crd_iff.1 c2.1
              have k3 := crd_iff.1 c2.2
              have k4 := crd_iff.1 c3.1
              have k5 := crd_iff.1 c3.2
              simp only [spec_l01Plus, spec_half_eq]
              rw [sub_wP k0 k2, sub_wP k1 k3, sub_wP k2 k4, sub_wP k3 k5, et, en]
              have u0 : upV (ringX l (i + 1) - ringX l i) (ringY l (i + 1) - ringY l i) ↔ upS (ringX l) (ringY l) i := Iff.rfl
              have u1 : upV (ringX l (i + 2) - ringX l (i + 1)) (ringY l (i + 2) - ringY l (i + 1)) ↔ upS (ringX l) (ringY l) (i + 1) := Iff.rfl
              have ih1 := spec_l6 hl hl2 m k (i + 1) (t + 1) r (by omega) (by omega) (by omega) (by omega)
              have ih2 := spec_l6 hl hl2 m k (i + 1) t r (by omega) (by omega) h0 (by omega)
              rw [show ((i + 1 : Nat) : Int) = (i : Int) + 1 by omega] at ih1 ih2
              by_cases p0 : upS (ringX l) (ringY l) i
              · rw [if_pos (u0.2 p0)]
                simp [ih2, turnsUp, p0]
              · rw [if_neg fun h => p0 (u0.1 h)]
                by_cases p1 : upS (ringX l) (ringY l) (i + 1)
                · rw [if_pos (u1.2 p1)]
                  simp [ih1, turnsUp, p0, p1, Int.add_assoc]
                · rw [if_neg fun h => p1 (u1.1 h)]
                  simp [ih2, turnsUp, p0, p1]
            · rw [dec_le_t hc, dec_lt_f hc, cond_true, Bool.false_and, Bool.false_and]
  | _, 0, _, _, _, _, hk, _, _ => by omega

def polyB (l : List (Int × Int)) : Bool := inB (l.length : Int) 3 12 && (l.all (fun e => sm e.1 && sm e.2) && (allF (fun i => decide (0 < cr (ringX l) (ringY l) i (i + 1))) 0 l.length && decide (cntF (turnsUp (ringX l) (ringY l)) 0 l.length = 1)))

theorem small_iff {l : List (Int × Int)} (h : 0 < l.length) : (l.all (fun e => sm e.1 && sm e.2) = true) ↔ ∀ i, sm (ringX l i) = true ∧ sm (ringY l i) = true := by
  rw [List.all_eq_true]
  constructor
  · intro ha i
    have hg := ring_get (l := l) (i := i) h
    have := ha _ (List.mem_of_getElem? hg)
    simpa using this
  · intro ha e he
    obtain ⟨i, hi, rfl⟩ := List.mem_iff_getElem.1 he
    have hg := ring_get' hi
    rw [List.getElem?_eq_getElem hi] at hg
    have := Option.some.inj hg
    rw [this]
    simpa using ha i

theorem spec_is_eq (k : Nat) (hk : 13 < k) (l : List (Int × Int)) (r : Bool → Option α) : spec_l09Is k l r = r (polyB l) := by
  simp only [spec_l09Is, polyB, inB]
  rcases ilt_or_ge (l.length : Int) 3 with h | h
  · rw [dec_lt_t h, dec_le_f h]; rfl
  · rw [dec_lt_f h, dec_le_t h, cond_false]
    rcases ilt_or_ge 12 (l.length : Int) with h2 | h2
    · rw [dec_lt_t h2, dec_le_f h2]; rfl
    · rw [dec_lt_f h2, dec_le_t h2, cond_false, Bool.and_self, Bool.true_and]
      have e := spec_l6 (α := α) (l := l) (by omega) (by omega) l.length k 0 0 r (by omega) (by omega) (by omega) (by omega)
      rw [Int.zero_add] at e
      refine Eq.trans e ?_
      congr 1
      rw [Bool.eq_iff_iff, Bool.and_eq_true, Bool.and_eq_true, Bool.and_eq_true, ← and_assoc]
      refine and_congr_left fun _ => ?_
      rw [allF_iff, allF_iff, small_iff (by omega)]
      constructor
      · intro ha
        have hs : ∀ i, i < l.length → sm (ringX l i) = true ∧ sm (ringY l i) = true := fun i hi => by
          have := ha i (by omega) (by omega)
          simp only [atC, Bool.and_eq_true] at this
          exact ⟨this.1, this.2.1⟩
        refine ⟨fun i => ?_, fun j h3 h4 => ?_⟩
        · have := hs (i % l.length) (Nat.mod_lt _ (by omega))
          simpa [ringX, ringY] using this
        · have := ha j h3 h4
          simp only [atC, Bool.and_eq_true] at this
          exact this.2.2.2.2
      · rintro ⟨hs, hc⟩ j h3 h4
        simp only [atC, Bool.and_eq_true]
        exact ⟨(hs j).1, (hs j).2, ⟨sm_crd (hs (j + 1)).1, sm_crd (hs (j + 1)).2⟩, ⟨sm_crd (hs (j + 2)).1, sm_crd (hs (j + 2)).2⟩, hc j h3 h4⟩

def farOK (l : List (Int × Int)) (i j : Nat) : Bool := decide (j = i) || (decide (j = (i + 1) % l.length) || decide (0 < ori (ringX l) (ringY l) i j))

theorem plus_eq {a b c d : Int} (ha : crd a = true) (hb : crd b = true) (hc : crd c = true) (hd : crd d = true) (k : Nat) (r : Int → Int → Option α) : impl_Point_less k a b c d r = r (a - c) (b - d) := by
  rw [crd_iff] at ha hb hc hd
  simp only [impl_Point_less, impl_Point_plus]
  rw [sub_wP hc ha, sub_wP hd hb]

theorem impl_turn_eq {a b c d e f : Int} (ha : crd a = true) (hb : crd b = true) (hc : crd c = true) (hd : crd d = true) (he : crd e = true) (hf : crd f = true) (k : Nat) (r : Int → Option α) : impl_turn k a b c d e f r = r ((c - a) * (f - d) - (d - b) * (e - c)) := by
  simp only [impl_turn, impl_det]
  rw [plus_eq hc hd ha hb, plus_eq he hf hc hd]
  rw [crd_iff] at ha hb hc hd he hf
  rw [det_wP (by omega) (by omega) (by omega) (by omega)]

theorem impl_l6 {l : List (Int × Int)} (hl : 3 ≤ l.length) (hl2 : l.length ≤ 12) (hs : ∀ i, sm (ringX l i) = true ∧ sm (ringY l i) = true) (i : Nat) (hi : i < l.length) : ∀ (m k j : Nat) (x : Int) b (r : Bool → Option α), j + m = l.length → m < k →
    impl_polygon_convex_l6 k i x i l.length j l (ringX l i) (ringY l i) (ringX l (i + 1)) (ringY l (i + 1)) b r = bif allF (farOK l i) j m then b i x i l.length l.length l (ringX l i) (ringY l i) (ringX l (i + 1)) (ringY l (i + 1)) else r false
  | 0, k + 1, j, x, b, r, hj, _ => by
    have : j = l.length := by omega
    subst this
    rw [impl_polygon_convex_l6, dec_lt_f (by omega)]
    rfl
  | m + 1, k + 1, j, x, b, r, hj, hk => by
    have e1 := tmod_nat i l.length (by omega) 1 (by omega)
    simp only [Int.natCast_one] at e1
    have g0 := ring_get' (l := l) (i := j) (by omega)
    have hn : decide ((l.length : Int) = 0) = false := decide_eq_false (by omega)
    have en : w64 ((j : Int) + 1) = ((j + 1 : Nat) : Int) := by rw [w64_of (by omega) (by omega)]; omega
    have ih := impl_l6 hl hl2 hs i hi m k (j + 1) x b r (by omega) (by omega)
    have d1 : decide ((j : Int) = (i : Int)) = decide (j = i) := decide_eq_decide.2 (by omega)
    have d2 : decide ((j : Int) = (((i + 1) % l.length : Nat) : Int)) = decide (j = (i + 1) % l.length) := decide_eq_decide.2 (by omega)
    rw [impl_polygon_convex_l6, dec_lt_t (by omega), dec_le_t (by omega), cond_true, Bool.and_true, cond_true, Int.toNat_natCast, g0, Option.bind_some, hn, e1, d1, d2, en, ih]
    simp only [allF, farOK, cond_false]
    cases decide (j = i) with
    | true => simp
    | false =>
      cases decide (j = (i + 1) % l.length) with
      | true => simp
      | false =>
        simp only [Bool.not_false, cond_true, Bool.false_or]
        rw [impl_turn_eq (sm_crd (hs i).1) (sm_crd (hs i).2) (sm_crd (hs (i + 1)).1) (sm_crd (hs (i + 1)).2) (sm_crd (hs j).1) (sm_crd (hs j).2)]
        have ec : (ringX l (i + 1) - ringX l i) * (ringY l j - ringY l (i + 1)) - (ringY l (i + 1) - ringY l i) * (ringX l j - ringX l (i + 1)) = ori (ringX l) (ringY l) i j := rfl
        rw [ec]
        rcases ilt_or_ge 0 (ori (ringX l) (ringY l) i j) with hc | hc
        · rw [dec_le_f hc, dec_lt_t hc, Bool.true_and]; rfl
        · rw [dec_le_t hc, dec_lt_f hc, Bool.false_and]; rfl
  | _, 0, _, _, _, _, _, hk => by omega

theorem impl_l2 {l : List (Int × Int)} (hl : 3 ≤ l.length) (hl2 : l.length ≤ 12) (hs : ∀ i, sm (ringX l i) = true ∧ sm (ringY l i) = true) : ∀ (m k i : Nat) (r : Bool → Option α), i + m = l.length → m + 13 < k →
    impl_polygon_convex_l2 k l.length i l (fun _ _ _ => r true) r = r (allF (fun i => allF (farOK l i) 0 l.length) i m)
  | 0, k + 1, i, r, hi, _ => by
    rw [impl_polygon_convex_l2, dec_lt_f (by omega)]
    rfl
  | m + 1, k + 1, i, r, hi, hk => by
    have e1 := tmod_nat i l.length (by omega) 1 (by omega)
    simp only [Int.natCast_one] at e1
    have b1 : (i + 1) % l.length < l.length := Nat.mod_lt _ (by omega)
    have g0 := ring_get' (l := l) (i := i) (by omega)
    have g1 := ring_get (l := l) (i := i + 1) (by omega)
    have hn : decide ((l.length : Int) = 0) = false := decide_eq_false (by omega)
    have en : w64 ((i : Int) + 1) = ((i + 1 : Nat) : Int) := by rw [w64_of (by omega) (by omega)]; omega
    have ih := impl_l2 hl hl2 hs m k (i + 1) r (by omega) (by omega)
    rw [impl_polygon_convex_l2, dec_lt_t (by omega), dec_le_t (by omega), cond_true, Bool.and_true, cond_true, Int.toNat_natCast, g0, Option.bind_some]
    simp only [impl_polygon_next, hn, cond_false, e1, Int.toNat_natCast, g1, Option.bind_some, dec_le_t (Int.natCast_nonneg ((i + 1) % l.length)), dec_lt_t (Int.ofNat_lt.2 b1), Bool.and_self, cond_true]
    have h6 := impl_l6 (α := α) hl hl2 hs i (by omega) l.length k 0 l.length (fun i1 x6 x7 x8 x9 p_3 a2 a3 b_2 b_3 => impl_polygon_convex_l2 k x6 (w64 (x7 + 1)) p_3 (fun _ _ _ => r true) r) r (by omega) (by omega)
    rw [Int.natCast_zero] at h6
    rw [h6, en, ih]
    simp only [allF]
    cases allF (farOK l i) 0 l.length <;> rfl
  | _, 0, _, _, _, hk => by omega

theorem glob_iff {l : List (Int × Int)} (hl : 3 ≤ l.length) : allF (fun i => allF (farOK l i) 0 l.length) 0 l.length = true ↔ Glob l.length (ringX l) (ringY l) := by
  have hr := ring_of hl
  rw [allF_iff]
  constructor
  · intro h i
    induction i using Nat.strongRecOn with
    | ind i ih =>
      intro d hd
      rcases Nat.lt_or_ge i l.length with hi | hi
      · have := allF_iff.1 (h i (by omega) (by omega))
        rcases Nat.lt_or_ge (i + d + 2) l.length with hj | hj
        · have := this (i + d + 2) (by omega) (by omega)
          rw [farOK, Bool.or_eq_true, Bool.or_eq_true, decide_eq_true_eq, decide_eq_true_eq, decide_eq_true_eq, Nat.mod_eq_of_lt (show i + 1 < l.length by omega)] at this
          rcases this with h1 | h1 | h1
          · omega
          · omega
          · exact h1
        · have := this (i + d + 2 - l.length) (by omega) (by omega)
          rw [farOK, Bool.or_eq_true, Bool.or_eq_true, decide_eq_true_eq, decide_eq_true_eq, decide_eq_true_eq] at this
          rcases this with h1 | h1 | h1
          · omega
          · rcases Nat.lt_or_ge (i + 1) l.length with h2 | h2
            · rw [Nat.mod_eq_of_lt h2] at h1; omega
            · have : i + 1 = l.length := by omega
              rw [this, Nat.mod_self] at h1; omega
          · have e := hr.ori_p i (i + d + 2 - l.length)
            rw [show i + d + 2 - l.length + l.length = i + d + 2 by omega] at e
            rw [e]; exact h1
      · have := ih (i - l.length) (by omega) d hd
        have e1 := hr.ori_l (i - l.length) (i + d + 2)
        have e2 := hr.ori_p (i - l.length) (i - l.length + d + 2)
        rw [show i - l.length + l.length = i by omega] at e1
        rw [show i - l.length + d + 2 + l.length = i + d + 2 by omega] at e2
        rw [e1, e2]; exact this
  · intro h i h1 h2
    rw [allF_iff]
    intro j h3 h4
    rw [farOK, Bool.or_eq_true, Bool.or_eq_true, decide_eq_true_eq, decide_eq_true_eq, decide_eq_true_eq]
    by_cases e1 : j = i
    · exact .inl e1
    · by_cases e2 : j = (i + 1) % l.length
      · exact .inr (.inl e2)
      · refine .inr (.inr ?_)
        rcases Nat.lt_or_ge i j with hij | hij
        · have hne : j ≠ i + 1 := fun e => e2 (by rw [Nat.mod_eq_of_lt (by omega)]; exact e)
          have := h i (j - i - 2) (by omega)
          rwa [show i + (j - i - 2) + 2 = j by omega] at this
        · have hne : j + l.length ≠ i + 1 := fun e => e2 (by
            have : i + 1 = l.length := by omega
            rw [this, Nat.mod_self]; omega)
          have := h i (j + l.length - i - 2) (by omega)
          rw [show i + (j + l.length - i - 2) + 2 = j + l.length by omega, hr.ori_p] at this
          exact this

theorem loc_iff {l : List (Int × Int)} (hl : 3 ≤ l.length) : (allF (fun i => decide (0 < cr (ringX l) (ringY l) i (i + 1))) 0 l.length = true ∧ cntF (turnsUp (ringX l) (ringY l)) 0 l.length = 1) ↔ Loc l.length (ringX l) (ringY l) := by
  have hr := ring_of hl
  rw [allF_iff, cntF_one, Loc]
  refine and_congr ⟨fun h i => ?_, fun h j _ _ => decide_eq_true (h j)⟩ ⟨?_, ?_⟩
  · induction i using Nat.strongRecOn with
    | ind i ih =>
      rcases Nat.lt_or_ge i l.length with hi | hi
      · exact of_decide_eq_true (h i (by omega) (by omega))
      · have := ih (i - l.length) (by omega)
        have e1 := hr.cr_l (i - l.length) (i + 1)
        have e2 := hr.cr_r (i - l.length) (i - l.length + 1)
        rw [show i - l.length + l.length = i by omega] at e1
        rw [show i - l.length + 1 + l.length = i + 1 by omega] at e2
        rw [e1, e2]; exact this
  · rintro ⟨t, h1, h2, h3, h4⟩
    simp only [turnsUp, Bool.and_eq_true, Bool.not_eq_true', decide_eq_false_iff_not, decide_eq_true_eq] at h3 h4
    exact ⟨t, by omega, h3.1, h3.2, fun j hj a b => h4 j (by omega) (by omega) ⟨a, b⟩⟩
  · rintro ⟨t, h1, h2, h3, h4⟩
    refine ⟨t, by omega, by omega, ?_, fun j _ hj hp => ?_⟩
    · simp [turnsUp, h2, h3]
    · simp only [turnsUp, Bool.and_eq_true, Bool.not_eq_true', decide_eq_false_iff_not, decide_eq_true_eq] at hp
      exact h4 j (by omega) hp.1 hp.2

theorem impl_is_eq (k : Nat) (hk : 30 < k) (l : List (Int × Int)) (r : Bool → Option α) : impl_IsPolygon k l r = r (polyB l) := by
  simp only [impl_IsPolygon, impl_in_eq, polyB]
  cases hin : inB (l.length : Int) 3 12 with
  | false => rfl
  | true =>
    rw [inB_iff] at hin
    simp only [Bool.not_true, cond_false, Bool.true_and]
    unfold slices_ContainsFunc_impl_Point_impl_Point_1F_impl_IsPolygon_1 slices_IndexFunc_impl_Point_impl_Point_1F_impl_IsPolygon_1
    have h := find_loop (α := α) (p := fun e : Int × Int => !(sm e.1 && sm e.2)) (L := slices_IndexFunc_impl_Point_impl_Point_1F_impl_IsPolygon_1_l2)
      (fun k x i s b r => by
        simp only [slices_IndexFunc_impl_Point_impl_Point_1F_impl_IsPolygon_1_l2, impl_IsPolygon_1, impl_small, impl_in_eq]
        congr 1; congr 1; congr 1; funext e
        unfold sm
        cases inB e.1 (-1000) 1000 <;> cases inB e.2 (-1000) 1000 <;> rfl) l k 0 l
    rw [Int.natCast_zero] at h
    rw [h _ _ (by simp) (by rw [big_val]; omega) (by omega) (by omega)]
    cases hf : l.findIdx? (fun e : Int × Int => !(sm e.1 && sm e.2)) with
    | some j =>
      rw [List.findIdx?_eq_some_iff_getElem] at hf
      obtain ⟨hj, hp, _⟩ := hf
      have : (l.all fun e => sm e.1 && sm e.2) = false := by
        rw [List.all_eq_false]
        exact ⟨l[j], List.getElem_mem hj, by
          intro h
          have h' : (sm l[j].1 && sm l[j].2) = true := h
          have hp' : (!(sm l[j].1 && sm l[j].2)) = true := hp
          rw [h'] at hp'
          cases hp'⟩
      rw [this]
      simp
    | none =>
      rw [List.findIdx?_eq_none_iff] at hf
      have hall : (l.all fun e => sm e.1 && sm e.2) = true := List.all_eq_true.2 fun e he => by simpa using hf e he
      have hs := (small_iff (by omega)).1 hall
      rw [hall, Bool.true_and]
      have h2 := impl_l2 (α := α) (l := l) (by omega) (by omega) hs l.length k 0 r (by omega) (by omega)
      rw [Int.natCast_zero] at h2
      simp only [show decide ((0 : Int) ≤ -1) = false from rfl, cond_false, impl_polygon_convex]
      refine h2.trans ?_
      congr 1
      rw [Bool.eq_iff_iff, Bool.and_eq_true, decide_eq_true_eq, glob_iff (by omega), loc_iff (by omega)]
      exact (ring_iff (ring_of (by omega))).symm

theorem toPointS_l3_ok : ∀ (rest : List (Int × Int)) (k : Nat) (pre out : List (Int × Int)) b (r : List (Int × Int) → Option α), out.length = rest.length → pre.length + rest.length ≤ big → rest.length < k →
    laws_toPointS_l3 k pre.length (pre ++ rest) (pre ++ out) b r = b (pre.length + rest.length : Nat) (pre ++ rest) (pre ++ rest)
  | [], k + 1, pre, out, b, r, ho, hb, _ => by
    have : out = [] := List.eq_nil_of_length_eq_zero (by simpa using ho)
    subst this
    rw [laws_toPointS_l3, dec_lt_f (by simp)]
    simp
  | e :: rest, k + 1, pre, [], b, r, ho, hb, _ => by simp at ho
  | e :: rest, k + 1, pre, o :: out, b, r, ho, hb, hk => by
    rw [big_val] at hb
    simp only [List.length_cons] at hb hk ho
    have hl : (pre ++ e :: rest).length = pre.length + (rest.length + 1) := by simp
    have hl2 : (pre ++ o :: out).length = pre.length + (rest.length + 1) := by simp; omega
    have e1 : w64 ((pre.length : Int) + 1) = ((pre ++ [e]).length : Int) := by rw [w64_of (by omega) (by omega)]; simp
    have hg : (pre ++ e :: rest)[pre.length]? = some e := by simp
    have hg2 : (pre ++ o :: out)[pre.length]? = some o := by simp
    rw [laws_toPointS_l3, hl, dec_lt_t (by omega), dec_le_t (by omega), cond_true, Bool.and_true, cond_true, Int.toNat_natCast, hg, Option.bind_some]
    simp only [laws_toPoint]
    rw [hl2, dec_lt_t (by omega), Bool.and_self, cond_true, hg2, Option.bind_some, set_mid, e1]
    have := toPointS_l3_ok rest k (pre ++ [e]) out b r (by omega) (by rw [big_val]; simp; omega) (by omega)
    simp only [List.append_assoc, List.singleton_append, List.length_append, List.length_cons, List.length_nil] at this ⊢
    refine this.trans ?_
    congr 1
    omega
  | _, 0, _, _, _, _, _, _, hk => by omega

theorem toPointS_ok (k : Nat) (l : List (Int × Int)) (r : List (Int × Int) → Option α) (hl : l.length ≤ 1048576) (hk : l.length < k) : laws_toPointS k l r = r l := by
  have hb : l.length ≤ big := by rw [big_val]; omega
  unfold laws_toPointS
  rw [dec_le_t (by omega), dec_le_t (by omega), Bool.and_self, cond_true, Int.toNat_natCast]
  have := toPointS_l3_ok (α := α) l k [] (List.replicate l.length (0, 0)) (fun _ _ o => r o) r (by simp) (by simpa using hb) hk
  simpa using this

theorem polyB_len {l : List (Int × Int)} (h : polyB l = true) : 3 ≤ l.length ∧ l.length ≤ 12 := by
  unfold polyB at h
  rw [Bool.and_eq_true] at h
  have := inB_iff.1 h.1
  omega

theorem sz_cases (k : Nat) (l : List (Int × Int)) (hlen : l.length ≤ maxLen) (t : Option α) (e : Int → Option α) (h1 : l.length ≤ 1048576 → ∀ v : Int, 0 ≤ v → e v = t) : (laws_szPointS k l 1048576 fun v => bif decide (v < 0) then t else e v) = t := by
  have hlen : (l.length : Int) ≤ 9223372036854775807 := by
    have : maxLen = 9223372036854775807 := rfl
    omega
  simp only [laws_szPointS]
  rw [w64_of (n := 1048576 - (l.length : Int)) (by omega) (by omega)]
  rcases ilt_or_ge (1048576 - (l.length : Int)) 0 with h | h
  · rw [dec_lt_t h, cond_true]; rfl
  · rw [dec_lt_f h, cond_false, cond_false]
    exact h1 (by omega) _ h

def cmpI (x y : Int) : Int := if x < y then -1 else if y < x then 1 else 0

theorem cmp_Compare_eq (k : Nat) (x y : Int) (r : Int → Option α) : cmp_Compare_int64 k x y r = r (cmpI x y) := by
  simp only [cmp_Compare_int64, cmp_isNaN_int64, decide_true, Bool.not_true, cond_false]
  unfold cmpI
  by_cases h : x < y
  · simp [h]
  · by_cases h2 : y < x <;> simp [h, h2]

/-- Which point comes ahead. -/
def ptBef (x y : Int × Int) : Bool := decide (x.1 < y.1) || (decide (x.1 = y.1) && decide (x.2 < y.2))

theorem ptBef_iff {x y : Int × Int} : ptBef x y = true ↔ x.1 < y.1 ∨ (x.1 = y.1 ∧ x.2 < y.2) := by simp [ptBef]

theorem ptBef_trans {x y z : Int × Int} (h1 : ptBef x y = true) (h2 : ptBef y z = true) : ptBef x z = true := by
  rw [ptBef_iff] at *
  omega

theorem ptBef_irr (x : Int × Int) : ptBef x x = false := by simp [ptBef]

/-- Not ahead of what is ahead of another one. -/
theorem ptBef_le {x y z : Int × Int} (h1 : ptBef x y = true) (h2 : ¬ ptBef z y = true) : ptBef x z = true := by
  rw [ptBef_iff] at *
  omega

theorem ptBef_tri {x y : Int × Int} (h1 : ¬ ptBef x y = true) (h2 : ¬ ptBef y x = true) : x = y := by
  rw [ptBef_iff] at *
  exact Prod.ext (by omega) (by omega)

theorem spec_ptBefore_eq (k : Nat) (a b c d : Int) (r : Bool → Option α) : spec_l09Before k a b c d r = r (ptBef (a, b) (c, d)) := by
  simp only [spec_l09Before, ptBef]
  by_cases h1 : a < c
  · simp [h1]
  · by_cases h2 : a = c <;> simp [h1, h2]

def or2 (a b : Int) : Int := if a ≠ 0 then a else b

theorem cmp_Or2 (k : Nat) (hk : 3 ≤ k) (a b : Int) (r : Int → Option α) : cmp_Or_int k [a, b] r = r (or2 a b) := by
  obtain ⟨k, rfl⟩ : ∃ k', k = k' + 3 := ⟨k - 3, by omega⟩
  have w1 : w64 (0 + 1) = 1 := by decide
  have w2 : w64 (1 + 1) = 2 := by decide
  unfold cmp_Or_int or2
  rw [cmp_Or_int_l3]
  simp only [List.length_cons, List.length_nil, w1]
  by_cases ha : a = 0
  · rw [cmp_Or_int_l3]
    simp only [List.length_cons, List.length_nil, w2]
    by_cases hb : b = 0
    · rw [cmp_Or_int_l3]
      simp [ha, hb]
    · simp [ha, hb]
  · simp [ha]

def ordP (x y : Int × Int) : Int := or2 (cmpI x.1 y.1) (cmpI x.2 y.2)

theorem impl_pointOrder_eq (k : Nat) (hk : 3 ≤ k) (a b c d : Int) (r : Int → Option α) : impl_pointOrder k a b c d r = r (ordP (a, b) (c, d)) := by
  simp only [impl_pointOrder, cmp_Compare_eq]
  rw [cmp_Or2 k hk]
  rfl

theorem ordP_bef (x y : Int × Int) : decide (ordP x y < 0) = ptBef x y := by
  unfold ordP or2 cmpI ptBef
  by_cases h1 : x.1 < y.1
  · simp [h1]
  · by_cases h2 : y.1 < x.1
    · have : x.1 ≠ y.1 := by omega
      simp [h1, h2, this]
    · have e1 : x.1 = y.1 := by omega
      by_cases h3 : x.2 < y.2
      · simp [e1, h3]
      · by_cases h4 : y.2 < x.2 <;> simp [e1, h3, h4]

def gP (l : List (Int × Int)) (i : Nat) : Int × Int := l.getD i (0, 0)

theorem gP_get {l : List (Int × Int)} {i : Nat} (h : i < l.length) : l[i]? = some (gP l i) := by
  simp [gP, List.getD_eq_getElem?_getD, List.getElem?_eq_getElem h]

theorem getD_some {L : List (Int × Int)} {i : Nat} (h : i < L.length) : L[i]? = some (L.getD i (0, 0)) := by
  simp [List.getD_eq_getElem?_getD, List.getElem?_eq_getElem h]

theorem gP_mem {l : List (Int × Int)} {i : Nat} (h : i < l.length) : gP l i ∈ l := by
  have := gP_get h
  exact List.mem_of_getElem? this

theorem ext_gP {a b : List (Int × Int)} (hl : a.length = b.length) (h : ∀ i, i < a.length → gP a i = gP b i) : a = b := by
  apply List.ext_getElem hl
  intro i h1 h2
  have := h i h1
  simpa [gP, List.getD_eq_getElem?_getD, List.getElem?_eq_getElem h1, List.getElem?_eq_getElem h2] using this

theorem rev_get {l : List (Int × Int)} {i : Nat} (h : i < l.length) : gP l.reverse i = gP l (l.length - 1 - i) := by
  unfold gP
  rw [List.getD_eq_getElem?_getD, List.getD_eq_getElem?_getD, List.getElem?_reverse h]

theorem gP_map_range (f : Nat → Int × Int) {n i : Nat} (h : i < n) : gP ((List.range n).map f) i = f i := by
  simp [gP, List.getD_eq_getElem?_getD, h]

/-- The rounds of the reversal. -/
def revI (l : List (Int × Int)) (i : Nat) : List (Int × Int) := (List.range l.length).map fun t => if t < i ∨ l.length ≤ t + i then gP l (l.length - 1 - t) else gP l t

theorem revI_len (l : List (Int × Int)) (i : Nat) : (revI l i).length = l.length := by simp [revI]

theorem revI_get (l : List (Int × Int)) (i : Nat) {t : Nat} (h : t < l.length) : gP (revI l i) t = if t < i ∨ l.length ≤ t + i then gP l (l.length - 1 - t) else gP l t := gP_map_range _ h

theorem gP_set {l : List (Int × Int)} {i t : Nat} (v : Int × Int) (hi : i < l.length) : gP (l.set i v) t = if t = i then v else gP l t := by
  unfold gP
  simp only [List.getD_eq_getElem?_getD, List.getElem?_set]
  by_cases h : i = t
  · subst h; simp [hi]
  · rw [if_neg h, if_neg (fun e => h e.symm)]

theorem polyB_cr {l : List (Int × Int)} (h : polyB l = true) (i : Nat) (hi : i < l.length) : 0 < cr (ringX l) (ringY l) i (i + 1) := by
  unfold polyB at h
  simp only [Bool.and_eq_true] at h
  have := allF_iff.1 h.2.2.1 i (by omega) (by omega)
  simpa using this

theorem ring_gP (l : List (Int × Int)) (i : Nat) : ringX l i = (gP l (i % l.length)).1 ∧ ringY l i = (gP l (i % l.length)).2 := ⟨rfl, rfl⟩

/-- How one turns from a by b to c. -/
def o3 (a b c : Int × Int) : Int := (b.1 - a.1) * (c.2 - b.2) - (b.2 - a.2) * (c.1 - b.1)

def lpos (x y : Int) : Prop := 0 < x ∨ (x = 0 ∧ 0 < y)

def ltP (a b : Int × Int) : Prop := lpos (b.1 - a.1) (b.2 - a.2)

theorem ltP_iff {a b : Int × Int} : ltP a b ↔ a.1 < b.1 ∨ (a.1 = b.1 ∧ a.2 < b.2) := by
  unfold ltP lpos
  omega

theorem ltP_trans {a b c : Int × Int} (h : ltP a b) (k : ltP b c) : ltP a c := by
  rw [ltP_iff] at *
  omega

theorem ltP_irr {a : Int × Int} (h : ltP a a) : False := by
  rw [ltP_iff] at h
  omega

theorem ltP_tri (a b : Int × Int) : ltP a b ∨ a = b ∨ ltP b a := by
  obtain ⟨a1, a2⟩ := a
  obtain ⟨b1, b2⟩ := b
  simp only [ltP_iff, Prod.mk.injEq]
  omega

theorem lpos_trans {a b c d e f : Int} (h1 : lpos a b) (h2 : lpos c d) (h3 : lpos e f) (k1 : 0 ≤ a * d - b * c) (k2 : 0 ≤ c * f - d * e) :
    0 ≤ a * f - b * e ∧ (0 < a * d - b * c ∨ 0 < c * f - d * e → 0 < a * f - b * e) := by
  have key : c * (a * f - b * e) = a * (c * f - d * e) + e * (a * d - b * c) := by grind
  unfold lpos at h1 h2 h3
  have ha : 0 ≤ a := by omega
  have he : 0 ≤ e := by omega
  rcases h2 with hc | ⟨rfl, hd⟩
  · have m1 := Int.mul_nonneg ha k2
    have m2 := Int.mul_nonneg he k1
    have g : 0 ≤ a * f - b * e := by
      rcases Int.lt_or_le (a * f - b * e) 0 with h | h
      · have := Int.mul_neg_of_pos_of_neg hc h
        omega
      · exact h
    refine ⟨g, fun h => ?_⟩
    rcases Int.lt_or_le 0 (a * f - b * e) with h' | h'
    · exact h'
    · exfalso
      have e0 : a * f - b * e = 0 := by omega
      rw [e0, Int.mul_zero] at key
      have z1 : a * (c * f - d * e) = 0 := by omega
      have z2 : e * (a * d - b * c) = 0 := by omega
      rcases h with h | h
      · rcases Int.mul_eq_zero.1 z2 with z | z
        · subst z
          rcases h3 with h3 | ⟨_, h3⟩
          · omega
          · have : 0 < c * f - d * 0 := by have := Int.mul_pos hc h3; simp; exact this
            rcases Int.mul_eq_zero.1 z1 with z | z
            · subst z
              rcases h1 with h1 | ⟨_, h1⟩
              · omega
              · have := Int.mul_pos h1 hc
                omega
            · omega
        · omega
      · rcases Int.mul_eq_zero.1 z1 with z | z
        · subst z
          rcases h1 with h1 | ⟨_, h1⟩
          · omega
          · have m := Int.mul_pos h1 hc
            omega
        · omega
  · have he0 : e = 0 := by
      rcases Int.lt_or_le 0 e with h | h
      · have := Int.mul_pos hd h
        simp at k2
        omega
      · omega
    subst he0
    have hf : 0 < f := by omega
    simp at k1 k2 ⊢
    have m := Int.mul_nonneg ha (Int.le_of_lt hf)
    refine ⟨m, fun h => ?_⟩
    have ha1 : 0 < a := by
      rcases Int.lt_or_le 0 a with h' | h'
      · exact h'
      · have : a = 0 := by omega
        subst this
        simp at h
    exact Int.mul_pos ha1 hf

/-- r lies between a and q. -/
def Seg (a q r : Int × Int) : Prop := 0 ≤ (r.1 - a.1) * (q.1 - r.1) ∧ 0 ≤ (r.2 - a.2) * (q.2 - r.2)

/-- r lies left of a side, or on it. -/
def EdL (a q r : Int × Int) : Prop := 0 ≤ o3 a q r ∧ (o3 a q r = 0 → Seg a q r)

theorem o3_alt (a b c : Int × Int) : o3 a b c = (b.1 - a.1) * (c.2 - a.2) - (b.2 - a.2) * (c.1 - a.1) := by unfold o3; grind

theorem lx_le {a r : Int × Int} (h : r = a ∨ ltP a r) : a.1 ≤ r.1 ∧ (a.1 = r.1 → a.2 ≤ r.2) := by
  rcases h with rfl | h
  · omega
  · rw [ltP_iff] at h
    omega

/-- On one line, and in order. -/
theorem seg_of {a q r : Int × Int} (h1 : r = a ∨ ltP a r) (h2 : r = q ∨ ltP r q) (h0 : o3 a q r = 0) : Seg a q r := by
  have g1 := lx_le h1
  have g2 : r.1 ≤ q.1 ∧ (r.1 = q.1 → r.2 ≤ q.2) := by
    rcases h2 with rfl | h
    · omega
    · rw [ltP_iff] at h; omega
  refine ⟨Int.mul_nonneg (by omega) (by omega), ?_⟩
  rw [o3_alt] at h0
  rcases Int.lt_or_le a.1 q.1 with h | h
  · -- (q.1 - a.1)^2 (r.2 - a.2) (q.2 - r.2) = (q.2 - a.2)^2 (r.1 - a.1) (q.1 - r.1)
    have e1 : (q.1 - a.1) * (r.2 - a.2) = (q.2 - a.2) * (r.1 - a.1) := by omega
    have e2 : (q.1 - a.1) * (q.2 - r.2) = (q.2 - a.2) * (q.1 - r.1) := by grind
    have k1 := Int.mul_nonneg (show 0 ≤ r.1 - a.1 by omega) (show 0 ≤ q.1 - r.1 by omega)
    have k2 : 0 ≤ (q.2 - a.2) * (q.2 - a.2) := by
      rcases Int.lt_or_le (q.2 - a.2) 0 with h | h
      · exact Int.le_of_lt (Int.mul_pos_of_neg_of_neg h h)
      · exact Int.mul_nonneg h h
    have k3 := Int.mul_nonneg k2 k1
    have e3 : (q.1 - a.1) * (q.1 - a.1) * ((r.2 - a.2) * (q.2 - r.2)) = (q.2 - a.2) * (q.2 - a.2) * ((r.1 - a.1) * (q.1 - r.1)) := by
      have : (q.1 - a.1) * (q.1 - a.1) * ((r.2 - a.2) * (q.2 - r.2)) = ((q.1 - a.1) * (r.2 - a.2)) * ((q.1 - a.1) * (q.2 - r.2)) := by grind
      rw [this, e1, e2]
      grind
    have k4 := Int.mul_pos (show 0 < q.1 - a.1 by omega) (show 0 < q.1 - a.1 by omega)
    rcases Int.lt_or_le ((r.2 - a.2) * (q.2 - r.2)) 0 with h' | h'
    · have := Int.mul_neg_of_pos_of_neg k4 h'
      omega
    · exact h'
  · exact Int.mul_nonneg (by omega) (by omega)

/-- A stack without what is not a left turn towards c; the top first. -/
def popH (c : Int × Int) : List (Int × Int) → List (Int × Int)
  | b :: a :: r => if o3 a b c ≤ 0 then popH c (a :: r) else b :: a :: r
  | l => l

def chainH : List (Int × Int) → List (Int × Int) → List (Int × Int)
  | st, [] => st
  | st, c :: r => chainH (c :: popH c st) r

/-- A stack whose sides have all points to the left. -/
def HullS (S : Int × Int → Prop) : List (Int × Int) → Prop
  | [] => False
  | [a] => S a ∧ ∀ r, S r → r = a ∨ ltP a r
  | b :: a :: r => S b ∧ ltP a b ∧ (∀ x, S x → EdL a b x) ∧ (∀ z ∈ r.head?, 0 < o3 z a b) ∧ HullS S (a :: r)

theorem HullS.in {S : Int × Int → Prop} : ∀ {b : Int × Int} {r : List (Int × Int)}, HullS S (b :: r) → S b
  | _, [], h => h.1
  | _, _ :: _, h => h.1

/-- A new point to the left of the last side is left of all sides. -/
theorem HullS.add {S : Int × Int → Prop} {c : Int × Int} : ∀ {b : Int × Int} {r : List (Int × Int)}, HullS S (b :: r) → ltP b c → (∀ a ∈ r.head?, 0 < o3 a b c) → HullS (fun x => S x ∨ x = c) (b :: r)
  | b, [], h, hc, _ => ⟨.inl h.1, fun x hx => by
      rcases hx with hx | rfl
      · exact h.2 x hx
      · exact .inr hc⟩
  | b, a :: r, h, hc, ht => by
    obtain ⟨h1, h2, h3, h4, h5⟩ := h
    have ht0 := ht a (by simp)
    refine ⟨.inl h1, h2, fun x hx => ?_, h4, HullS.add h5 (ltP_trans h2 hc) fun z hz => ?_⟩
    · rcases hx with hx | rfl
      · exact h3 x hx
      · exact ⟨Int.le_of_lt ht0, fun e => by omega⟩
    · -- z, a, b turn left; a, b, c turn left
      have k1 := h4 z hz
      cases r with
      | nil => simp at hz
      | cons z' r' =>
        simp at hz
        subst hz
        have hza : ltP z' a := h5.2.1
        have k2 : 0 ≤ (b.1 - a.1) * (c.2 - a.2) - (b.2 - a.2) * (c.1 - a.1) := by rw [o3_alt] at ht0; omega
        exact (lpos_trans hza h2 (ltP_trans h2 hc) (Int.le_of_lt k1) k2).2 (.inl k1)

theorem popH_ok {S : Int × Int → Prop} {c : Int × Int} : ∀ {st : List (Int × Int)} {b : Int × Int} {r : List (Int × Int)}, st = b :: r → HullS S st → (∀ x, S x → x = b ∨ ltP x b ∨ 0 ≤ o3 b c x) → (∀ x, S x → ltP x c) →
    ∃ b' r', popH c st = b' :: r' ∧ HullS S (b' :: r') ∧ (∀ x, S x → x = b' ∨ ltP x b' ∨ 0 ≤ o3 b' c x) ∧ (∀ a ∈ r'.head?, 0 < o3 a b' c)
  | _, b, [], rfl, h, hx, _ => ⟨b, [], by simp [popH], h, hx, by simp⟩
  | _, b, a :: r, rfl, h, hx, hc => by
    unfold popH
    by_cases ht : o3 a b c ≤ 0
    · rw [if_pos ht]
      obtain ⟨h1, h2, h3, h4, h5⟩ := h
      refine popH_ok (st := a :: r) rfl h5 (fun x hS => ?_) hc
      rcases ltP_tri x a with hl | hl | hl
      · exact .inr (.inl hl)
      · exact .inl hl
      · refine .inr (.inr ?_)
        have hac : ltP a c := ltP_trans h2 (hc b h1)
        have k1 : 0 ≤ (c.1 - a.1) * (b.2 - a.2) - (c.2 - a.2) * (b.1 - a.1) := by
          rw [o3_alt] at ht
          have : (c.1 - a.1) * (b.2 - a.2) - (c.2 - a.2) * (b.1 - a.1) = -((b.1 - a.1) * (c.2 - a.2) - (b.2 - a.2) * (c.1 - a.1)) := by grind
          omega
        have k2 := (h3 x hS).1
        rw [o3_alt] at k2 ⊢
        exact (lpos_trans hac h2 hl k1 k2).1
    · rw [if_neg ht]
      exact ⟨b, a :: r, rfl, h, hx, by simp; omega⟩

/-- A point that comes behind all others is laid on the stack. -/
theorem HullS.push {S : Int × Int → Prop} {c : Int × Int} {st : List (Int × Int)} {b : Int × Int} {r : List (Int × Int)} (e : st = b :: r) (h : HullS S st) (hb : ∀ x, S x → x = b ∨ ltP x b) (hc : ∀ x, S x → ltP x c) :
    HullS (fun x => S x ∨ x = c) (c :: popH c st) := by
  obtain ⟨b', r', e1, h1, h2, h3⟩ := popH_ok (c := c) e h (fun x hS => (hb x hS).elim .inl fun k => .inr (.inl k)) hc
  rw [e1]
  have hbc := hc b' h1.in
  refine ⟨.inr rfl, hbc, fun x hx => ?_, fun z hz => h3 z hz, h1.add hbc h3⟩
  have hself : o3 b' c c = 0 := by unfold o3; grind
  have hself2 : o3 b' c b' = 0 := by unfold o3; grind
  rcases hx with hx | rfl
  · rcases ltP_tri x b' with hl | hl | hl
    · -- behind the side's beginning
      suffices 0 < o3 b' c x from ⟨Int.le_of_lt this, fun e => by omega⟩
      cases r' with
      | nil =>
        rcases h1.2 x hx with e | e
        · subst e; exact absurd hl ltP_irr
        · exact absurd (ltP_trans hl e) ltP_irr
      | cons z r2 =>
        obtain ⟨_, g2, g3, _, _⟩ := h1
        have k2 := h3 z (by simp)
        have k1 := (g3 x hx).1
        -- u = b' - z, w = c - b', y = b' - x
        have k1' : 0 ≤ (b'.1 - x.1) * (b'.2 - z.2) - (b'.2 - x.2) * (b'.1 - z.1) := by
          have : (b'.1 - x.1) * (b'.2 - z.2) - (b'.2 - x.2) * (b'.1 - z.1) = o3 z b' x := by unfold o3; grind
          omega
        have k2' : 0 < (b'.1 - z.1) * (c.2 - b'.2) - (b'.2 - z.2) * (c.1 - b'.1) := k2
        have := (lpos_trans hl g2 hbc k1' (Int.le_of_lt k2')).2 (.inr k2')
        have e : o3 b' c x = (b'.1 - x.1) * (c.2 - b'.2) - (b'.2 - x.2) * (c.1 - b'.1) := by unfold o3; grind
        omega
    · subst hl
      exact ⟨by omega, fun _ => ⟨by simp, by simp⟩⟩
    · rcases h2 x hx with k | k | k
      · subst k; exact absurd hl ltP_irr
      · exact absurd (ltP_trans hl k) ltP_irr
      · exact ⟨k, fun e => seg_of (.inr hl) (.inr (hc x hx)) e⟩
  · exact ⟨by omega, fun _ => ⟨by simp, by simp⟩⟩

theorem HullS.congr {S T : Int × Int → Prop} (e : ∀ x, S x ↔ T x) {st : List (Int × Int)} (h : HullS S st) : HullS T st := by
  have : S = T := funext fun x => propext (e x)
  exact this ▸ h

theorem chainH_ok : ∀ {rest : List (Int × Int)} {S : Int × Int → Prop} {st : List (Int × Int)} {b : Int × Int} {r : List (Int × Int)}, st = b :: r → HullS S st → (∀ x, S x → x = b ∨ ltP x b) → (b :: rest).Pairwise ltP →
    HullS (fun x => S x ∨ x ∈ rest) (chainH st rest) ∧ (chainH st rest).head? = (b :: rest).getLast?
  | [], S, st, b, r, e, h, _, _ => ⟨h.congr (by simp [chainH]), by simp [chainH, e]⟩
  | c :: rest, S, st, b, r, e, h, hb, hp => by
    obtain ⟨p1, p2⟩ := List.pairwise_cons.1 hp
    have hbc := p1 c (by simp)
    have hc : ∀ x, S x → ltP x c := fun x hx => by
      rcases hb x hx with rfl | k
      · exact hbc
      · exact ltP_trans k hbc
    have h2 := h.push e hb hc
    have ih := chainH_ok (rest := rest) (b := c) (r := popH c st) rfl h2 (fun x hx => by
      rcases hx with hx | rfl
      · exact .inr (hc x hx)
      · exact .inl rfl) p2
    refine ⟨?_, ?_⟩
    · rw [chainH]
      exact ih.1.congr fun x => by simp [or_assoc]
    · rw [chainH, ih.2, List.getLast?_cons_cons]

/-- The chain of points in order: all of them are left of its sides. -/
theorem chain_asc {a : Int × Int} {l : List (Int × Int)} (h : (a :: l).Pairwise ltP) : HullS (· ∈ a :: l) (chainH [] (a :: l)) ∧ (chainH [] (a :: l)).head? = (a :: l).getLast? := by
  have h0 : HullS (· = a) [a] := ⟨rfl, fun r hr => .inl hr⟩
  have := chainH_ok (rest := l) (b := a) (r := []) rfl h0 (fun x hx => .inl hx) h
  have e : chainH [] (a :: l) = chainH [a] l := by simp [chainH, popH]
  rw [e]
  exact ⟨this.1.congr fun x => by simp, this.2⟩

theorem HullS.last {S : Int × Int → Prop} : ∀ {st : List (Int × Int)}, HullS S st → ∃ a, st.getLast? = some a ∧ S a ∧ ∀ r, S r → r = a ∨ ltP a r
  | [], h => h.elim
  | [a], h => ⟨a, rfl, h.1, h.2⟩
  | b :: a :: r, h => by
    obtain ⟨x, e, hx⟩ := HullS.last h.2.2.2.2
    exact ⟨x, by rw [List.getLast?_cons_cons, e], hx⟩

/-- Neighbours in a list. -/
def FP {β : Type} (R : β → β → Prop) : List β → Prop
  | a :: b :: r => R a b ∧ FP R (b :: r)
  | _ => True

theorem FP.mono {β : Type} {R T : β → β → Prop} (h : ∀ a b, R a b → T a b) : ∀ {l : List β}, FP R l → FP T l
  | [], _ => trivial
  | [_], _ => trivial
  | _ :: _ :: _, k => ⟨h _ _ k.1, FP.mono h k.2⟩

theorem FP.join {β : Type} {R : β → β → Prop} {x : β} {m : List β} : ∀ {l : List β}, FP R (l ++ [x]) → FP R (x :: m) → FP R (l ++ x :: m)
  | [], _, k => k
  | [_], h, k => ⟨h.1, k⟩
  | _ :: b :: l, h, k => ⟨h.1, FP.join (l := b :: l) h.2 k⟩

theorem FP.snoc {β : Type} {R : β → β → Prop} {x y : β} {l : List β} (h : FP R (l ++ [x])) (k : R x y) : FP R (l ++ [x] ++ [y]) := by
  rw [List.append_assoc]
  exact FP.join h (show FP R [x, y] from ⟨k, trivial⟩)

theorem FP.succ {β : Type} {R : β → β → Prop} {x y : β} : ∀ {l : List β}, FP R (l ++ [y]) → x ∈ l → ∃ z, R x z ∧ z ∈ l ++ [y]
  | [a], h, k => by
    simp at k
    subst k
    exact ⟨y, h.1, by simp⟩
  | a :: b :: l, h, k => by
    rcases List.mem_cons.1 k with rfl | k
    · exact ⟨b, h.1, by simp⟩
    · obtain ⟨z, h1, h2⟩ := FP.succ (l := b :: l) h.2 k
      exact ⟨z, h1, List.mem_cons_of_mem _ h2⟩

theorem FP.pairwise {β : Type} {R : β → β → Prop} (ht : ∀ a b c, R a b → R b c → R a c) : ∀ {l : List β}, FP R l → l.Pairwise R
  | [], _ => List.Pairwise.nil
  | [_], _ => by simp
  | a :: b :: l, h => by
    have ih := FP.pairwise ht h.2
    refine List.pairwise_cons.2 ⟨fun z hz => ?_, ih⟩
    rcases List.mem_cons.1 hz with rfl | hz
    · exact h.1
    · exact ht _ _ _ h.1 ((List.pairwise_cons.1 ih).1 z hz)

/-- A side of the hull of S. -/
structure Ed (S : Int × Int → Prop) (a q : Int × Int) : Prop where
  ma : S a
  mq : S q
  ne : q ≠ a
  left : ∀ r, S r → EdL a q r

theorem HullS.path {S : Int × Int → Prop} : ∀ {st : List (Int × Int)}, HullS S st → FP (fun a b => ltP a b ∧ Ed S a b) st.reverse
  | [], h => h.elim
  | [_], _ => trivial
  | b :: a :: r, h => by
    have ih := HullS.path h.2.2.2.2
    rw [List.reverse_cons] at ih
    rw [List.reverse_cons, List.reverse_cons]
    refine FP.snoc ih ⟨h.2.1, h.2.2.2.2.in, h.1, fun e => ?_, h.2.2.1⟩
    subst e
    exact ltP_irr h.2.1

def ngP (a : Int × Int) : Int × Int := (-a.1, -a.2)

theorem ngP_ng (a : Int × Int) : ngP (ngP a) = a := by simp [ngP]

theorem ngP_inj {a b : Int × Int} (h : ngP a = ngP b) : a = b := by rw [← ngP_ng a, h, ngP_ng]

theorem o3_ng (a b c : Int × Int) : o3 (ngP a) (ngP b) (ngP c) = o3 a b c := by
  unfold o3 ngP
  grind

theorem ltP_ng {a b : Int × Int} : ltP (ngP a) (ngP b) ↔ ltP b a := by
  simp only [ltP_iff, ngP]
  omega

theorem EdL_ng {a q r : Int × Int} (h : EdL (ngP a) (ngP q) (ngP r)) : EdL a q r := by
  unfold EdL at h ⊢
  rw [o3_ng] at h
  refine ⟨h.1, fun e => ?_⟩
  have := h.2 e
  unfold Seg ngP at this
  unfold Seg
  have e1 : (-r.1 - -a.1) * (-q.1 - -r.1) = (r.1 - a.1) * (q.1 - r.1) := by grind
  have e2 : (-r.2 - -a.2) * (-q.2 - -r.2) = (r.2 - a.2) * (q.2 - r.2) := by grind
  simp only [e1, e2] at this
  exact this

theorem popH_ng (c : Int × Int) : ∀ st : List (Int × Int), popH (ngP c) (st.map ngP) = (popH c st).map ngP
  | [] => rfl
  | [_] => rfl
  | b :: a :: r => by
    simp only [List.map_cons, popH, o3_ng]
    split
    · exact popH_ng c (a :: r)
    · rfl

theorem chainH_ng : ∀ (l st : List (Int × Int)), chainH (st.map ngP) (l.map ngP) = (chainH st l).map ngP
  | [], st => rfl
  | c :: l, st => by
    rw [List.map_cons, chainH, chainH, popH_ng, ← List.map_cons, chainH_ng l]

/-- The way back. -/
theorem HullS.back {l : List (Int × Int)} {st : List (Int × Int)} (h : HullS (· ∈ l.map ngP) (st.map ngP)) : FP (fun a b => ltP b a ∧ Ed (· ∈ l) a b) st.reverse := by
  have hp := h.path
  rw [← List.map_reverse] at hp
  have key : ∀ m : List (Int × Int), FP (fun a b => ltP a b ∧ Ed (· ∈ l.map ngP) a b) (m.map ngP) → FP (fun a b => ltP b a ∧ Ed (· ∈ l) a b) m := by
    intro m
    induction m with
    | nil => intro _; trivial
    | cons x m ih =>
      cases m with
      | nil => intro _; trivial
      | cons y m =>
        intro h
        obtain ⟨⟨h1, h2⟩, h3⟩ := h
        have hm : ∀ z, ngP z ∈ l.map ngP → z ∈ l := fun z hz => by
          obtain ⟨u, hu, e⟩ := List.mem_map.1 hz
          exact ngP_inj e ▸ hu
        exact ⟨⟨ltP_ng.1 h1, hm _ h2.ma, hm _ h2.mq, fun e => h2.ne (by rw [e]), fun r hr => EdL_ng (h2.left (ngP r) (List.mem_map.2 ⟨r, hr, rfl⟩))⟩, ih h3⟩
  exact key _ hp

/-- From a point on there is one side alone. -/
theorem Ed.uniq {S : Int × Int → Prop} {a q q' : Int × Int} (h : Ed S a q) (k : Ed S a q') : q = q' := by
  have h1 := h.left q' k.mq
  have h2 := k.left q h.mq
  unfold EdL at h1 h2
  have e : o3 a q' q = -(o3 a q q') := by rw [o3_alt, o3_alt]; grind
  have z : o3 a q q' = 0 := by omega
  have s1 := h1.2 z
  have s2 := h2.2 (by omega)
  unfold Seg at s1 s2
  have sq : ∀ x y c : Int, 0 ≤ (y - c) * (x - y) → 0 ≤ (x - c) * (y - x) → x = y := by
    intro x y c g1 g2
    have : (y - c) * (x - y) + (x - c) * (y - x) = -((x - y) * (x - y)) := by grind
    rcases Int.lt_or_le (x - y) 0 with h | h
    · have := Int.mul_pos_of_neg_of_neg h h
      omega
    · rcases Int.lt_or_le 0 (x - y) with h' | h'
      · have := Int.mul_pos h' h'
        omega
      · omega
  exact Prod.ext (sq _ _ _ s1.1 s2.1) (sq _ _ _ s1.2 s2.2)

/-- The two chains of points in order, laid together: each corner's side leads to the next one. -/
theorem ring_hull {a b : Int × Int} {l : List (Int × Int)} (h : (a :: b :: l).Pairwise ltP) :
    ∃ rest, (chainH [] (a :: b :: l)).tail.reverse ++ (chainH [] (a :: b :: l).reverse).tail.reverse = a :: rest ∧ rest ≠ [] ∧ FP (Ed (· ∈ a :: b :: l)) (a :: rest ++ [a]) ∧ (a :: rest).Nodup ∧ ∀ x ∈ a :: rest, x ∈ a :: b :: l := by
  generalize hs : a :: b :: l = s at h ⊢
  have hne : s ≠ [] := by rw [← hs]; simp
  obtain ⟨lo1, lo2⟩ := chain_asc (a := a) (l := b :: l) (by rw [hs]; exact h)
  rw [hs] at lo1 lo2
  -- the way back
  have hrev : (s.reverse.map ngP).Pairwise ltP := by
    rw [List.pairwise_map]
    exact (List.pairwise_reverse.2 h).imp fun {x y} k => ltP_ng.2 k
  obtain ⟨z, m, hz⟩ : ∃ z m, s.reverse = z :: m := by
    cases e : s.reverse with
    | nil => simp at e; exact absurd e hne
    | cons z m => exact ⟨z, m, rfl⟩
  have hup := chain_asc (a := ngP z) (l := m.map ngP) (by rw [← List.map_cons, ← hz]; exact hrev)
  rw [← List.map_cons, ← hz] at hup
  have hcm := chainH_ng s.reverse []
  rw [List.map_nil] at hcm
  rw [hcm] at hup
  obtain ⟨up1, up2⟩ := hup
  -- names
  generalize hL : chainH [] s = L at lo1 lo2 ⊢
  generalize hU : chainH [] s.reverse = U at up1 up2 ⊢
  have pl := lo1.path
  have pu0 := up1.back
  have pu : FP (fun a b => ltP b a ∧ Ed (· ∈ s) a b) U.reverse := pu0.mono fun x y k => ⟨k.1, ⟨by simpa using k.2.ma, by simpa using k.2.mq, k.2.ne, fun r hr => k.2.left r (by simpa using hr)⟩⟩
  obtain ⟨c, L0, rfl⟩ : ∃ c L0, L = c :: L0 := by
    cases L with
    | nil => exact lo1.elim
    | cons c L0 => exact ⟨c, L0, rfl⟩
  obtain ⟨d, U0, rfl⟩ : ∃ d U0, U = d :: U0 := by
    cases U with
    | nil => exact up1.elim
    | cons d U0 => exact ⟨d, U0, rfl⟩
  -- the ends
  have hc : s.getLast? = some c := by rw [← lo2]; rfl
  have hd : d = a := by
    have : ((d :: U0).map ngP).head? = (s.reverse.map ngP).getLast? := up2
    rw [List.map_cons, List.head?_cons, List.getLast?_map, List.getLast?_reverse, ← hs] at this
    simp at this
    exact ngP_inj this
  subst hd
  obtain ⟨x1, e1, m1, g1⟩ := lo1.last
  have hx1 : x1 = d := by
    rcases g1 d (by rw [← hs]; simp) with k | k
    · exact k.symm
    · rw [← hs] at m1 h
      rcases List.mem_cons.1 m1 with e | e
      · exact e
      · exact absurd (ltP_trans k ((List.pairwise_cons.1 h).1 _ e)) ltP_irr
  subst hx1
  obtain ⟨x2, e2, m2, g2⟩ := up1.last
  have hcmem : c ∈ s := List.mem_of_getLast? hc
  have hx2 : x2 = ngP c := by
    rcases g2 (ngP c) (List.mem_map.2 ⟨c, by simpa using hcmem, rfl⟩) with k | k
    · exact k.symm
    · obtain ⟨u, hu, rfl⟩ := List.mem_map.1 m2
      have hu : u ∈ s := by simpa using hu
      have k := ltP_ng.1 k
      -- c is the last one
      have hl : s = s.dropLast ++ [c] := by
        obtain ⟨ys, hy⟩ := List.getLast?_eq_some_iff.1 hc
        rw [hy]; simp
      rw [hl] at hu h
      rcases List.mem_append.1 hu with e | e
      · exact absurd (ltP_trans k ((List.pairwise_append.1 h).2.2 u e c (by simp))) ltP_irr
      · simp at e
        rw [e]
  -- lists
  simp only [List.tail_cons]
  have hab : x1 ≠ c := by
    intro e
    have : b ∈ s := by rw [← hs]; simp
    have k1 : ltP x1 b := by rw [← hs] at h; exact (List.pairwise_cons.1 h).1 b (by simp)
    have hl : s = s.dropLast ++ [c] := by
      obtain ⟨ys, hy⟩ := List.getLast?_eq_some_iff.1 hc
      rw [hy]; simp
    rw [hl] at this h
    rcases List.mem_append.1 this with g | g
    · exact absurd (ltP_trans k1 (e ▸ (List.pairwise_append.1 h).2.2 b g c (by simp))) ltP_irr
    · simp at g
      subst g
      exact absurd (e ▸ k1) ltP_irr
  rw [List.reverse_cons] at pl pu
  -- L0.reverse begins with x1
  obtain ⟨M, hM⟩ : ∃ M, L0.reverse = x1 :: M := by
    cases L0 with
    | nil => simp at e1; exact absurd e1.symm hab
    | cons y L1 =>
      rw [List.getLast?_cons_cons] at e1
      obtain ⟨ys, hy⟩ := List.getLast?_eq_some_iff.1 e1
      exact ⟨ys.reverse, by rw [hy]; simp⟩
  obtain ⟨N, hN⟩ : ∃ N, U0.reverse = c :: N := by
    cases U0 with
    | nil =>
      simp at e2
      rw [hx2] at e2
      exact absurd (ngP_inj e2) hab
    | cons y U1 =>
      rw [List.map_cons, List.map_cons, List.getLast?_cons_cons, ← List.map_cons, List.getLast?_map, Option.map_eq_some_iff] at e2
      obtain ⟨w, e2, e3⟩ := e2
      rw [hx2] at e3
      have e3 := ngP_inj e3
      subst e3
      obtain ⟨ys, hy⟩ := List.getLast?_eq_some_iff.1 e2
      exact ⟨ys.reverse, by rw [hy]; simp⟩
  rw [hM] at pl ⊢
  rw [hN] at pu ⊢
  have pE : FP (Ed (· ∈ s)) ((x1 :: M) ++ c :: (N ++ [x1])) := FP.join (pl.mono fun _ _ k => k.2) (pu.mono fun _ _ k => k.2)
  refine ⟨M ++ c :: N, by simp, by simp, ?_, ?_, ?_⟩
  · simpa using pE
  · have w1 : ((x1 :: M) ++ [c]).Pairwise ltP := FP.pairwise (R := ltP) (fun _ _ _ => ltP_trans) (pl.mono fun _ _ k => k.1)
    have w2 : ((c :: N) ++ [x1]).Pairwise (fun x y => ltP y x) := FP.pairwise (R := fun x y => ltP y x) (fun _ _ _ k k' => ltP_trans k' k) (pu.mono fun _ _ k => k.1)
    have n1 : (x1 :: M).Nodup := List.nodup_iff_pairwise_ne.2 ((List.pairwise_append.1 w1).1.imp fun {x y} k e => by subst e; exact ltP_irr k)
    have n2 : (c :: N).Nodup := List.nodup_iff_pairwise_ne.2 ((List.pairwise_append.1 w2).1.imp fun {x y} k e => by subst e; exact ltP_irr k)
    have : x1 :: (M ++ c :: N) = (x1 :: M) ++ (c :: N) := by simp
    rw [this]
    refine List.nodup_append.2 ⟨n1, n2, fun x hx y hy e => ?_⟩
    subst e
    obtain ⟨u, hu, _⟩ := pl.succ hx
    obtain ⟨v, hv, _⟩ := pu.succ hy
    have := hu.2.uniq hv.2
    subst this
    exact ltP_irr (ltP_trans hu.1 hv.1)
  · intro x hx
    have hm : ∀ {ll : List (Int × Int)} {y : Int × Int}, FP (Ed (· ∈ s)) (ll ++ [y]) → ∀ x ∈ ll, x ∈ s := by
      intro ll y hf x hx
      obtain ⟨z, hz, _⟩ := hf.succ hx
      exact hz.ma
    exact hm (ll := x1 :: (M ++ c :: N)) (y := x1) (by simpa using pE) x hx

theorem ptBef_eqP {x y : Int × Int} (h1 : ptBef x y = false) (h2 : ptBef y x = false) : x = y := ptBef_tri (by simp [h1]) (by simp [h2])

theorem revP_l1 {l : List (Int × Int)} (hl : l.length ≤ 4000) : ∀ (m k i : Nat) (b r : List (Int × Int) → Option α), m + 2 * i = l.length → m < k →
    slices_Reverse_impl_Point_impl_Point_l1 k i ((l.length : Int) - 1 - i) (revI l i) (fun _ _ s => b s) r = b l.reverse
  | 0, k + 1, i, b, r, hm, hk => by
    rw [slices_Reverse_impl_Point_impl_Point_l1, dec_lt_f (by omega)]
    simp only [cond_false]
    congr 1
    apply ext_gP (by simp [revI_len])
    intro t ht
    rw [revI_len] at ht
    rw [revI_get l i ht, rev_get ht, if_pos (by omega)]
  | 1, k + 1, i, b, r, hm, hk => by
    rw [slices_Reverse_impl_Point_impl_Point_l1, dec_lt_f (by omega)]
    simp only [cond_false]
    congr 1
    apply ext_gP (by simp [revI_len])
    intro t ht
    rw [revI_len] at ht
    rw [revI_get l i ht, rev_get ht]
    split
    · rfl
    · have : t = i := by omega
      subst this
      congr 1
      omega
  | m + 2, k + 1, i, b, r, hm, hk => by
    have ej : (l.length : Int) - 1 - i = ((l.length - 1 - i : Nat) : Int) := by omega
    have en : w64 ((i : Int) + 1) = ((i + 1 : Nat) : Int) := by rw [w64_of (by omega) (by omega)]; omega
    have ep : w64 (((l.length - 1 - i : Nat) : Int) - 1) = (l.length : Int) - 1 - ((i + 1 : Nat) : Int) := by rw [w64_of (by omega) (by omega)]; omega
    have hrl := revI_len l i
    rw [ej, slices_Reverse_impl_Point_impl_Point_l1, dec_lt_t (by omega), hrl, dec_le_t (by omega), dec_lt_t (by omega), dec_le_t (by omega), dec_lt_t (by omega)]
    simp only [Bool.and_self, cond_true, Int.toNat_natCast]
    rw [gP_get (l := revI l i) (i := l.length - 1 - i) (by rw [hrl]; omega), gP_get (l := revI l i) (i := i) (by rw [hrl]; omega)]
    simp only [Option.bind_some]
    have hlt : ((l.length - 1 - i : Nat) : Int) < (l.length : Int) := by omega
    simp only [List.length_set, hrl, hlt, decide_true, Bool.and_self, cond_true]
    rw [gP_get (l := (revI l i).set i _) (by rw [List.length_set, hrl]; omega)]
    simp only [Option.bind_some, Bool.and_self, cond_true]
    rw [en, ep]
    have he : ((revI l i).set i ((gP (revI l i) (l.length - 1 - i)).1, (gP (revI l i) (l.length - 1 - i)).2)).set (l.length - 1 - i) ((gP (revI l i) i).1, (gP (revI l i) i).2) = revI l (i + 1) := by
      apply ext_gP (by simp [revI_len])
      intro t ht
      simp only [List.length_set, hrl] at ht
      rw [gP_set _ (by rw [List.length_set, hrl]; omega), gP_set _ (by rw [hrl]; omega), revI_get l (i + 1) ht]
      by_cases h1 : t = l.length - 1 - i
      · rw [if_pos h1, if_pos (by omega), revI_get l i (by omega), if_neg (by omega)]
        rw [h1, show l.length - 1 - (l.length - 1 - i) = i by omega]
      · rw [if_neg h1]
        by_cases h2 : t = i
        · rw [if_pos h2, if_pos (by omega), revI_get l i (by omega), if_neg (by omega), h2]
        · rw [if_neg h2, revI_get l i ht]
          by_cases h3 : t < i ∨ l.length ≤ t + i
          · rw [if_pos h3, if_pos (by omega)]
          · rw [if_neg h3, if_neg (by omega)]
    rw [he]
    exact revP_l1 hl m k (i + 1) b r (by omega) (by omega)
  | _, 0, _, _, _, _, hk => by omega

theorem reverseP_eq (k : Nat) {l : List (Int × Int)} (hl : l.length ≤ 4000) (hk : 4001 < k) (r : List (Int × Int) → Option α) : slices_Reverse_impl_Point_impl_Point k l r = r l.reverse := by
  unfold slices_Reverse_impl_Point_impl_Point
  have h0 : revI l 0 = l := by
    apply ext_gP (revI_len l 0)
    intro t ht
    rw [revI_len] at ht
    rw [revI_get l 0 ht, if_neg (by omega)]
  have := revP_l1 (α := α) hl l.length k 0 r r (by omega) (by omega)
  rw [h0] at this
  simp only [Int.natCast_zero, Int.sub_zero] at this
  rw [w64_of (by omega) (by omega)]
  exact this

def ddRP : (Int × Int) → List (Int × Int) → List (Int × Int)
  | _, [] => []
  | p, y :: r => if y = p then ddRP y r else y :: ddRP y r

def ddSP : List (Int × Int) → List (Int × Int)
  | [] => []
  | x :: r => x :: ddRP x r

theorem ddRP_mem : ∀ (p : Int × Int) (l : List (Int × Int)) (z : Int × Int), z = p ∨ z ∈ ddRP p l ↔ z = p ∨ z ∈ l
  | p, [], z => by simp [ddRP]
  | p, y :: r, z => by
    have ih := ddRP_mem y r z
    unfold ddRP
    by_cases h : y = p
    · rw [if_pos h]
      subst h
      rw [ih]
      simp
    · rw [if_neg h]
      simp only [List.mem_cons]
      constructor
      · rintro (h | h | h)
        · exact .inl h
        · exact .inr (.inl h)
        · rcases ih.1 (.inr h) with h | h
          · exact .inr (.inl h)
          · exact .inr (.inr h)
      · rintro (h | h | h)
        · exact .inl h
        · exact .inr (.inl h)
        · rcases ih.2 (.inr h) with h | h
          · exact .inr (.inl h)
          · exact .inr (.inr h)

theorem ddSP_mem (l : List (Int × Int)) (z : Int × Int) : z ∈ ddSP l ↔ z ∈ l := by
  cases l with
  | nil => simp [ddSP]
  | cons x r =>
    unfold ddSP
    simp only [List.mem_cons]
    exact ddRP_mem x r z

theorem ddRP_asc : ∀ (p : Int × Int) (l : List (Int × Int)), (p :: l).Pairwise (fun x y => ptBef y x = false) → (p :: ddRP p l).Pairwise fun x y => ptBef x y = true
  | p, [], _ => by simp [ddRP]
  | p, y :: r, h => by
    have h1 := List.pairwise_cons.1 h
    have h2 := List.pairwise_cons.1 h1.2
    have ih := ddRP_asc y r h1.2
    unfold ddRP
    by_cases e : y = p
    · rw [if_pos e]
      subst e
      exact ih
    · rw [if_neg e]
      refine List.pairwise_cons.2 ⟨fun z hz => ?_, ih⟩
      have hyp : ptBef p y = true := by
        cases hb : ptBef p y with
        | true => rfl
        | false => exact absurd (ptBef_eqP (h1.1 y List.mem_cons_self) hb) e
      rcases List.mem_cons.1 hz with rfl | hz
      · exact hyp
      · exact ptBef_trans hyp ((List.pairwise_cons.1 ih).1 z hz)

theorem ddSP_asc {l : List (Int × Int)} (h : l.Pairwise fun x y => ptBef y x = false) : (ddSP l).Pairwise fun x y => ptBef x y = true := by
  cases l with
  | nil => exact List.Pairwise.nil
  | cons x r => exact ddRP_asc x r h

theorem cptP_l9 (l : List (Int × Int)) (hl : l.length ≤ 1000000) : ∀ (rest : List (Int × Int)) (k w k0 p : Nat) (cur : List (Int × Int)) (prev : Int × Int), l.drop p = rest → 1 ≤ k0 → k0 < p → p ≤ l.length → w + 1 ≤ p → cur.length = l.length → cur.drop w = l.drop w → l[p - 1]? = some prev → rest.length < k →
    ∃ w' cur' k2, cur'.length = l.length ∧ w' ≤ l.length ∧ cur'.take w' = cur.take w ++ ddRP prev rest ∧ ∀ (b : Int → Nat → Nat → Int → List (Int × Int) → Option α) (r : List (Int × Int) → Option α),
      slices_Compact_impl_Point_impl_Point_l9 k (w : Int) k0 (l.length - k0) ((p - k0 : Nat) : Int) cur b r = b (w' : Nat) k0 (l.length - k0) k2 cur'
  | [], k + 1, w, k0, p, cur, prev, hd, h1, hp, hpl, hw, hc, hs, hprev, _ => by
    have hlp : p = l.length := by have := drop_nil hd; omega
    refine ⟨w, cur, ((p - k0 : Nat) : Int), hc, by omega, by simp [ddRP], fun b r => ?_⟩
    rw [slices_Compact_impl_Point_impl_Point_l9, dec_lt_f (by omega)]
    rfl
  | y :: rest, k + 1, w, k0, p, cur, prev, hd, h1, hp, hpl, hw, hc, hs, hprev, hk => by
    obtain ⟨g1, g2, g3⟩ := drop_cons hd
    have en : w64 (((p - k0 : Nat) : Int) + 1) = ((p + 1 - k0 : Nat) : Int) := by rw [w64_of (by omega) (by omega)]; omega
    have em : w64 (((p - k0 : Nat) : Int) - 1) = ((p - 1 - k0 : Nat) : Int) := by rw [w64_of (by omega) (by omega)]; omega
    have ew : w64 ((w : Int) + 1) = ((w + 1 : Nat) : Int) := by rw [w64_of (by omega) (by omega)]; omega
    have m1 : ∀ q : Nat, k0 ≤ q → moved k0 (q - k0) 1 = q := fun q hq => by
      unfold moved
      have : Nat.beq k0 0 = false := by cases hb : Nat.beq k0 0 with | false => rfl | true => have := Nat.eq_of_beq_eq_true hb; omega
      rw [this, cond_false]
      omega
    have at_ : ∀ q, w ≤ q → cur[q]? = l[q]? := fun q hq => by
      have e1 : (cur.drop w)[q - w]? = (l.drop w)[q - w]? := by rw [hs]
      rw [List.getElem?_drop, List.getElem?_drop, show w + (q - w) = q by omega] at e1
      exact e1
    have hy : cur[p]? = some y := by rw [at_ p (by omega)]; exact g1
    have hp1 : cur[p - 1]? = some prev := by rw [at_ (p - 1) (by omega)]; exact hprev
    have hnext : l[p + 1 - 1]? = some y := by rw [Nat.add_sub_cancel]; exact g1
    have hwc : w < cur.length := by omega
    obtain ⟨cw, hcw⟩ : ∃ c, cur[w]? = some c := ⟨cur[w], List.getElem?_eq_getElem hwc⟩
    have hstep : (decide (y.1 = prev.1) && decide (y.2 = prev.2)) = decide (y = prev) := by
      rw [Bool.eq_iff_iff]
      simp [Prod.ext_iff]
    by_cases e : y = prev
    · obtain ⟨w', cur', k2, i1, i2, i3, i4⟩ := cptP_l9 l hl rest k w k0 (p + 1) cur y g2 h1 (by omega) (by omega) (by omega) hc hs hnext (by simp at hk; omega)
      refine ⟨w', cur', k2, i1, i2, ?_, fun b r => ?_⟩
      · rw [i3]
        congr 1
        conv => rhs; unfold ddRP
        rw [if_pos e]
      · rw [slices_Compact_impl_Point_impl_Point_l9, dec_lt_t (by omega), dec_le_t (by omega), cond_true, Bool.and_self, cond_true, Int.toNat_natCast, m1 p (by omega), hy, Option.bind_some, em, dec_le_t (by omega), dec_lt_t (by omega), Bool.and_self, cond_true, Int.toNat_natCast, m1 (p - 1) (by omega), hp1, Option.bind_some, hstep, decide_eq_true e, Bool.not_true, cond_false, en]
        exact i4 b r
    · have hset : (cur.set w (y.1, y.2)).length = l.length := by rw [List.length_set]; exact hc
      have hdrop : (cur.set w (y.1, y.2)).drop (w + 1) = l.drop (w + 1) := by
        have e1 : (cur.drop w).drop 1 = (l.drop w).drop 1 := by rw [hs]
        rw [List.drop_drop, List.drop_drop] at e1
        rw [List.drop_set, if_pos (by omega)]
        exact e1
      obtain ⟨w', cur', k2, i1, i2, i3, i4⟩ := cptP_l9 l hl rest k (w + 1) k0 (p + 1) (cur.set w (y.1, y.2)) y g2 h1 (by omega) (by omega) (by omega) hset hdrop hnext (by simp at hk; omega)
      refine ⟨w', cur', k2, i1, i2, ?_, fun b r => ?_⟩
      · have ht : (cur.set w (y.1, y.2)).take (w + 1) = cur.take w ++ [y] := by
          have hlw : (cur.take w).length = w := by rw [List.length_take]; omega
          rw [List.take_set, List.take_add_one, hcw, List.set_append_right _ _ (by omega), hlw, Nat.sub_self]
          rfl
        rw [i3, ht, List.append_assoc]
        congr 1
        conv => rhs; unfold ddRP
        rw [if_neg e]
        rfl
      · rw [slices_Compact_impl_Point_impl_Point_l9, dec_lt_t (by omega), dec_le_t (by omega), cond_true, Bool.and_self, cond_true, Int.toNat_natCast, m1 p (by omega), hy, Option.bind_some, em, dec_le_t (by omega), dec_lt_t (by omega), Bool.and_self, cond_true, Int.toNat_natCast, m1 (p - 1) (by omega), hp1, Option.bind_some, hstep, decide_eq_false e, Bool.not_false, cond_true, cond_true, Option.bind_some, Int.toNat_natCast, dec_le_t (by omega), dec_lt_t (by omega), Bool.and_self, cond_true, hcw, Option.bind_some, en, ew]
        exact i4 b r
  | _, 0, _, _, _, _, _, _, _, _, _, _, _, _, _, hk => by omega

theorem cptP_l4 (l : List (Int × Int)) (hl : l.length ≤ 1000000) (r : List (Int × Int) → Option α) : ∀ (rest : List (Int × Int)) (k p : Nat) (prev : Int × Int), l.drop p = rest → 1 ≤ p → p ≤ l.length → l[p - 1]? = some prev → 2 * rest.length + 2 < k →
    slices_Compact_impl_Point_impl_Point_l4 k (p : Int) l (fun _ s => r s) r = r (l.take p ++ ddRP prev rest)
  | [], k + 1, p, prev, hd, h1, hpl, hprev, _ => by
    have hlp : p = l.length := by have := drop_nil hd; omega
    rw [slices_Compact_impl_Point_impl_Point_l4, dec_lt_f (by omega), cond_false]
    simp [ddRP, hlp]
  | y :: rest, k + 1, p, prev, hd, h1, hpl, hprev, hk => by
    obtain ⟨g1, g2, g3⟩ := drop_cons hd
    have en : w64 ((p : Int) + 1) = ((p + 1 : Nat) : Int) := by rw [w64_of (by omega) (by omega)]; omega
    have em : w64 ((p : Int) - 1) = ((p - 1 : Nat) : Int) := by rw [w64_of (by omega) (by omega)]; omega
    have hnext : l[p + 1 - 1]? = some y := by rw [Nat.add_sub_cancel]; exact g1
    have hstep : (decide (y.1 = prev.1) && decide (y.2 = prev.2)) = decide (y = prev) := by
      rw [Bool.eq_iff_iff]
      simp [Prod.ext_iff]
    have ht : l.take (p + 1) = l.take p ++ [y] := by
      rw [List.take_add_one, g1]
      rfl
    rw [slices_Compact_impl_Point_impl_Point_l4, dec_lt_t (by omega), dec_le_t (by omega), cond_true, Bool.and_self, cond_true, Int.toNat_natCast, g1, Option.bind_some, em, dec_le_t (by omega), dec_lt_t (by omega), Bool.and_self, cond_true, Int.toNat_natCast, hprev, Option.bind_some, hstep]
    by_cases e : y = prev
    · rw [decide_eq_true e, cond_true, dec_le_t (show ((p : Nat) : Int) ≤ (l.length : Nat) by omega), Bool.and_self, cond_true]
      obtain ⟨w', cur', k2, i1, i2, i3, i4⟩ := cptP_l9 (α := α) l hl rest k p p (p + 1) l y g2 h1 (by omega) (by omega) (by omega) rfl rfl hnext (by simp at hk; omega)
      have i5 := fun b r => i4 b r
      rw [show ((p + 1 - p : Nat) : Int) = 1 by omega] at i5
      rw [i5, dec_le_t (by omega), dec_le_t (by omega), Bool.and_self, cond_true, Int.toNat_natCast]
      have hlen : ((cur'.take w' ++ List.replicate (cur'.length - w') ((0 : Int), (0 : Int))) ++ cur'.drop (w' + (cur'.length - w'))).length = cur'.length := by simp; omega
      rw [hlen, dec_le_t (by omega), Bool.and_self, cond_true]
      have htk : ((cur'.take w' ++ List.replicate (cur'.length - w') ((0 : Int), (0 : Int))) ++ cur'.drop (w' + (cur'.length - w'))).take (w' - 0) = cur'.take w' := by
        rw [Nat.sub_zero, List.append_assoc, List.take_append_of_le_length (by simp; omega), List.take_take, Nat.min_self]
      rw [htk, i3]
      congr 2
      conv => rhs; unfold ddRP
      rw [if_pos e]
    · rw [decide_eq_false e, cond_false, en, cptP_l4 l hl r rest k (p + 1) y g2 (by omega) (by omega) hnext (by simp at hk; omega), ht, List.append_assoc]
      congr 2
      conv => rhs; unfold ddRP
      rw [if_neg e]
      rfl
  | _, 0, _, _, _, _, _, _, hk => by omega

theorem compactP_eq (k : Nat) {l : List (Int × Int)} (hl : l.length ≤ 1000000) (hk : 2000010 < k) (r : List (Int × Int) → Option α) : slices_Compact_impl_Point_impl_Point k l r = r (ddSP l) := by
  unfold slices_Compact_impl_Point_impl_Point
  match l with
  | [] => rfl
  | [x] => rfl
  | x :: y :: t =>
    rw [dec_lt_f (by simp; omega), cond_false]
    have := cptP_l4 (α := α) (x :: y :: t) hl r (y :: t) k 1 x rfl (by omega) (by simp) rfl (by simp only [List.length_cons] at hl ⊢; omega)
    simpa [ddSP] using this

def crdP (p : Int × Int) : Prop := crd p.1 = true ∧ crd p.2 = true

theorem popH_mem {c : Int × Int} : ∀ {st : List (Int × Int)} {x : Int × Int}, x ∈ popH c st → x ∈ st
  | [], _, h => h
  | [_], _, h => h
  | b :: a :: r, x, h => by
    unfold popH at h
    split at h
    · exact List.mem_cons_of_mem _ (popH_mem h)
    · exact h

theorem popH_len {c : Int × Int} : ∀ {st : List (Int × Int)}, (popH c st).length ≤ st.length
  | [] => by simp [popH]
  | [_] => by simp [popH]
  | b :: a :: r => by
    unfold popH
    split
    · have := popH_len (c := c) (st := a :: r)
      simp only [List.length_cons] at this ⊢
      omega
    · simp

theorem chain_l5 {c c1 : Int} (hc : crdP (c, c1)) (x3 x4 : Int) (x5 : List (Int × Int)) (b : Int → Int → List (Int × Int) → Int → Int → List (Int × Int) → Option α) (r0 : List (Int × Int) → Option α) :
    ∀ (st : List (Int × Int)) (k : Nat), (∀ x ∈ st, crdP x) → st.length ≤ 4000 → st.length < k → impl_chain_l5 k x3 x4 st.reverse c c1 x5 b r0 = b x3 x4 (popH (c, c1) st).reverse c c1 x5
  | [], k + 1, _, _, _ => by
    rw [impl_chain_l5, dec_lt_f (by simp)]
    rfl
  | [a], k + 1, _, _, _ => by
    rw [impl_chain_l5, dec_lt_f (by simp)]
    rfl
  | p :: q :: st, k + 1, hs, hl, hk => by
    simp only [List.length_cons] at hl hk
    have hlen : ((p :: q :: st).reverse.length : Int) = (st.length : Int) + 2 := by simp <;> omega
    have e2 : w64 (((p :: q :: st).reverse.length : Nat) - 2 : Int) = (st.length : Int) := by rw [hlen, w64_of (by omega) (by omega)]; omega
    have e1 : w64 (((p :: q :: st).reverse.length : Nat) - 1 : Int) = ((st.length + 1 : Nat) : Int) := by rw [hlen, w64_of (by omega) (by omega)]; omega
    have g2 : (p :: q :: st).reverse[st.length]? = some q := by
      rw [List.getElem?_reverse (by simp <;> omega)]
      simp
    have g1 : (p :: q :: st).reverse[st.length + 1]? = some p := by
      rw [List.getElem?_reverse (by simp <;> omega)]
      simp
    have hp := hs p (by simp)
    have hq := hs q (by simp)
    rw [impl_chain_l5, dec_lt_t (by omega), cond_true, e2, e1, dec_le_t (by omega), dec_lt_t (by omega), Bool.and_self, cond_true, Int.toNat_natCast, g2, Option.bind_some, dec_le_t (by omega), dec_lt_t (by omega), Bool.and_self, cond_true, Int.toNat_natCast, g1, Option.bind_some, impl_turn_eq hq.1 hq.2 hp.1 hp.2 hc.1 hc.2]
    rw [popH]
    show (bif decide (o3 q p (c, c1) ≤ 0) then _ else _) = _
    by_cases h : o3 q p (c, c1) ≤ 0
    · rw [decide_eq_true h, cond_true, if_pos h, dec_le_t (by omega), Bool.and_self, cond_true]
      have ht : List.take (st.length + 1 - 0) (p :: q :: st).reverse = (q :: st).reverse := by
        rw [List.reverse_cons, Nat.sub_zero, List.take_append_of_le_length (by simp), List.take_of_length_le (by simp)]
      rw [ht]
      exact chain_l5 hc x3 x4 x5 b r0 (q :: st) k (fun x hx => hs x (List.mem_cons_of_mem _ hx)) (by simp; omega) (by simp; omega)
    · rw [decide_eq_false h, cond_false, if_neg h]

theorem chain_l3 {l : List (Int × Int)} (hl : l.length ≤ 4000) (hc : ∀ x ∈ l, crdP x) (b : Int → Int → List (Int × Int) → List (Int × Int) → Option α) (r0 : List (Int × Int) → Option α) :
    ∀ (rest : List (Int × Int)) (k i : Nat) (st : List (Int × Int)), l.drop i = rest → (∀ x ∈ st, x ∈ l) → st.length ≤ i → i ≤ l.length → 4001 + rest.length < k → impl_chain_l3 k l.length i st.reverse l b r0 = b l.length l.length (chainH st rest).reverse l
  | [], k + 1, i, st, hd, _, _, hi, _ => by
    have := drop_nil hd
    have e : (i : Int) = l.length := by omega
    rw [impl_chain_l3, e, dec_lt_f (by omega)]
    rfl
  | c :: rest, k + 1, i, st, hd, hs, hsi, hi, hk => by
    obtain ⟨g1, g2, g3⟩ := drop_cons hd
    have hcm : c ∈ l := List.mem_of_getElem? g1
    have hpl := popH_len (c := c) (st := st)
    have hpl2 := popH_len (c := (c.1, c.2)) (st := st)
    have en : w64 ((i : Int) + 1) = ((i + 1 : Nat) : Int) := by rw [w64_of (by omega) (by omega)]; omega
    rw [impl_chain_l3, dec_lt_t (by omega), dec_le_t (by omega), Bool.and_self, cond_true, cond_true, Int.toNat_natCast, g1, Option.bind_some, chain_l5 (hc c hcm) _ _ _ _ _ st k (fun x hx => hc x (hs x hx)) (by omega) (by simp at hk; omega)]
    rw [show decide ((popH (c.1, c.2) st).reverse.length + 1 ≤ big) = true from dec_nle_t (by rw [List.length_reverse, big_val]; omega), cond_true, en]
    rw [show (popH (c.1, c.2) st).reverse ++ [(c.1, c.2)] = (c :: popH c st).reverse by simp]
    rw [chain_l3 hl hc b r0 rest k (i + 1) (c :: popH c st) g2 (fun x hx => by
      rcases List.mem_cons.1 hx with rfl | hx
      · exact hcm
      · exact hs x (popH_mem hx)) (by simp; omega) (by omega) (by simp at hk; omega)]
    rfl
  | _, 0, _, _, _, _, _, _, hk => by omega

theorem chainH_len : ∀ (l st : List (Int × Int)), (chainH st l).length ≤ st.length + l.length
  | [], st => by simp [chainH]
  | c :: l, st => by
    rw [chainH]
    have h1 := chainH_len l (c :: popH c st)
    have h2 := popH_len (c := c) (st := st)
    simp only [List.length_cons] at h1 ⊢
    omega

theorem chain_eq (k : Nat) {l : List (Int × Int)} (hl : l.length ≤ 4000) (hc : ∀ x ∈ l, crdP x) (hk : 8010 < k) (r : List (Int × Int) → Option α) : impl_chain k l r = r (chainH [] l).tail.reverse := by
  unfold impl_chain
  have h0 := chain_l3 (α := α) hl hc (fun _ _ out3 _ =>
      bif (decide (0 ≤ (max (w64 ((((List.length out3) : Nat) : Int) - 1)) 0)) && decide ((max (w64 ((((List.length out3) : Nat) : Int) - 1)) 0) ≤ (((List.length out3) : Nat) : Int))) then
        r (List.take ((max (w64 ((((List.length out3) : Nat) : Int) - 1)) 0).toNat - 0) out3)
      else
        none) r l k 0 [] rfl (by simp) (by simp) (by omega) (by omega)
  simp only [Int.natCast_zero, List.reverse_nil] at h0
  rw [h0]
  have hln := chainH_len l []
  generalize chainH [] l = st at hln ⊢
  simp only [List.length_nil, Nat.zero_add] at hln
  cases st with
  | nil =>
    have : w64 (-1) = -1 := by decide
    have e2 : max (-1 : Int) 0 = 0 := by decide
    simp [this, e2]
  | cons c st =>
    simp only [List.length_cons] at hln
    have e : w64 (((c :: st).reverse.length : Nat) - 1 : Int) = (st.length : Int) := by rw [w64_of (by simp <;> omega) (by simp <;> omega)]; simp
    have em : max ((st.length : Nat) : Int) 0 = (st.length : Int) := by omega
    simp only [e, em]
    rw [dec_le_t (by omega), dec_le_t (by simp <;> omega), Bool.and_self, cond_true, Int.toNat_natCast, Nat.sub_zero, List.reverse_cons, List.take_append_of_le_length (by simp), List.take_of_length_le (by simp)]
    rfl

theorem sub_w2 {a b : Int} (ha : crd a = true) (hb : crd b = true) : w64 (a + w64 (-1 * b)) = a - b := by
  rw [crd_iff] at ha hb
  exact sub_wP hb ha

def farP (a b : Int × Int) : Int := max (b.1 - a.1) (a.1 - b.1) + max (b.2 - a.2) (a.2 - b.2)

theorem farP_eq (k : Nat) {a b c d : Int} (ha : crd a = true) (hb : crd b = true) (hc : crd c = true) (hd : crd d = true) (r : Int → Option α) : spec_l09Far k a b c d r = r (farP (a, b) (c, d)) := by
  rw [crd_iff] at ha hb hc hd
  simp only [spec_l09Far, farP]
  rw [w64_of (n := c - a) (by omega) (by omega), w64_of (n := d - b) (by omega) (by omega), w64_of (n := 0 - (c - a)) (by omega) (by omega), w64_of (n := 0 - (d - b)) (by omega) (by omega), w64_of (by omega) (by omega)]
  congr 1
  omega

def upsS (now nx p : Int × Int) : Bool := decide (o3 now nx p < 0) || (decide (o3 now nx p = 0) && decide (farP now nx < farP now p))

def scanS (now : Int × Int) : List (Int × Int) → Option (Int × Int) → Option (Int × Int)
  | [], o => o
  | p :: l, o => if p = now then scanS now l o else match o with
    | none => scanS now l (some p)
    | some nx => if upsS now nx p = true then scanS now l (some p) else scanS now l (some nx)

theorem seg1 {u v : Int} (h : 0 ≤ u * (v - u)) : (0 ≤ u ∧ u ≤ v) ∨ (u ≤ 0 ∧ v ≤ u) := by
  rcases Int.lt_or_le u 0 with hu | hu
  · right
    refine ⟨by omega, ?_⟩
    rcases Int.lt_or_le u v with h1 | h1
    · have := Int.mul_neg_of_neg_of_pos hu (show 0 < v - u by omega)
      omega
    · exact h1
  · rcases Int.lt_or_le v u with h1 | h1
    · rcases Int.lt_or_le 0 u with h2 | h2
      · have := Int.mul_neg_of_pos_of_neg h2 (show v - u < 0 by omega)
        omega
      · right; omega
    · left; omega

theorem seg_far {a q p : Int × Int} (h : Seg a q p) : farP a p ≤ farP a q ∧ (farP a p = farP a q → p = q) := by
  obtain ⟨h1, h2⟩ := h
  have e1 : q.1 - p.1 = (q.1 - a.1) - (p.1 - a.1) := by omega
  have e2 : q.2 - p.2 = (q.2 - a.2) - (p.2 - a.2) := by omega
  rw [e1] at h1
  rw [e2] at h2
  have g1 := seg1 h1
  have g2 := seg1 h2
  unfold farP
  refine ⟨by omega, fun e => Prod.ext ?_ ?_⟩ <;> omega

theorem scan_ok {S : Int × Int → Prop} {now q : Int × Int} (h : Ed S now q) : ∀ (l : List (Int × Int)) (o : Option (Int × Int)), (∀ x ∈ l, S x) → (∀ x ∈ o, S x ∧ x ≠ now) → (q ∈ l ∨ o = some q) → scanS now l o = some q
  | [], o, _, _, hq => by
    rcases hq with hq | hq
    · simp at hq
    · exact hq
  | p :: l, o, hS, ho, hq => by
    have hl : ∀ x ∈ l, S x := fun x hx => hS x (List.mem_cons_of_mem _ hx)
    have hp := hS p (by simp)
    unfold scanS
    by_cases e : p = now
    · rw [if_pos e]
      refine scan_ok h l o hl ho ?_
      rcases hq with hq | hq
      · rcases List.mem_cons.1 hq with rfl | hq
        · exact absurd e h.ne
        · exact .inl hq
      · exact .inr hq
    · rw [if_neg e]
      cases o with
      | none =>
        refine scan_ok h l (some p) hl (by simpa using ⟨hp, e⟩) ?_
        rcases hq with hq | hq
        · rcases List.mem_cons.1 hq with rfl | hq
          · exact .inr rfl
          · exact .inl hq
        · cases hq
      | some nx =>
        obtain ⟨hn1, hn2⟩ := ho nx rfl
        by_cases hnq : nx = q
        · subst hnq
          have hu : upsS now nx p = false := by
            obtain ⟨k1, k2⟩ := h.left p hp
            unfold upsS
            rw [dec_lt_f k1, Bool.false_or]
            by_cases z : o3 now nx p = 0
            · have := (seg_far (k2 z)).1
              rw [dec_lt_f this, Bool.and_false]
            · rw [decide_eq_false z, Bool.false_and]
          simp only [hu, Bool.false_eq_true, if_false]
          exact scan_ok h l (some nx) hl (by simpa using ⟨hn1, hn2⟩) (.inr rfl)
        · by_cases hpq : p = q
          · subst hpq
            have hu : upsS now nx p = true := by
              obtain ⟨k1, k2⟩ := h.left nx hn1
              have e2 : o3 now nx p = -(o3 now p nx) := by rw [o3_alt, o3_alt]; grind
              unfold upsS
              rcases Int.lt_or_le (o3 now nx p) 0 with z | z
              · rw [dec_lt_t z, Bool.true_or]
              · have z0 : o3 now p nx = 0 := by omega
                obtain ⟨f1, f2⟩ := seg_far (k2 z0)
                have hf : farP now nx < farP now p := by
                  rcases Int.lt_or_le (farP now nx) (farP now p) with f | f
                  · exact f
                  · exact absurd (f2 (by omega)) hnq
                rw [decide_eq_true (show o3 now nx p = 0 by omega), decide_eq_true hf, Bool.and_self, Bool.or_true]
            simp only [hu, if_true]
            exact scan_ok h l (some p) hl (by simpa using ⟨hp, e⟩) (.inr rfl)
          · have hq : q ∈ l := by
              rcases hq with hq | hq
              · rcases List.mem_cons.1 hq with hq | hq
                · exact absurd hq.symm hpq
                · exact hq
              · exact absurd (Option.some.inj hq) hnq
            show (if upsS now nx p = true then scanS now l (some p) else scanS now l (some nx)) = some q
            split
            · exact scan_ok h l (some p) hl (by simpa using ⟨hp, e⟩) (.inl hq)
            · exact scan_ok h l (some nx) hl (by simpa using ⟨hn1, hn2⟩) (.inl hq)

theorem hull_l13 {l : List (Int × Int)} (hl : l.length ≤ 4000) (hc : ∀ x ∈ l, crdP x) {now now1 : Int} (hn : crdP (now, now1)) (f6 f7 : Int) (out : List (Int × Int)) (b : Bool → Int → List (Int × Int) → Int → Int → List (Int × Int) → Int → Int → Int → Int → Option α) (r0 : List (Int × Int) → Option α) :
    ∀ (rest : List (Int × Int)) (k i : Nat) (o : Option (Int × Int)), l.drop i = rest → i ≤ l.length → (∀ x ∈ o, crdP x) → rest.length < k →
    spec_l09Hull_l13 k o.isSome i l f6 f7 out now now1 (o.getD (0, 0)).1 (o.getD (0, 0)).2 b r0 = b (scanS (now, now1) rest o).isSome l.length l f6 f7 out now now1 ((scanS (now, now1) rest o).getD (0, 0)).1 ((scanS (now, now1) rest o).getD (0, 0)).2
  | [], k + 1, i, o, hd, hi, _, _ => by
    have := drop_nil hd
    have e : (i : Int) = l.length := by omega
    rw [spec_l09Hull_l13, e, dec_lt_f (by omega)]
    rfl
  | p :: rest, k + 1, i, o, hd, hi, ho, hk => by
    obtain ⟨g1, g2, g3⟩ := drop_cons hd
    have hcm := hc p (List.mem_of_getElem? g1)
    have en : w64 ((i : Int) + 1) = ((i + 1 : Nat) : Int) := by rw [w64_of (by omega) (by omega)]; omega
    have hk' : rest.length < k := by simp at hk; omega
    have heq : (decide (p.1 = now) && decide (p.2 = now1)) = decide (p = (now, now1)) := by
      rw [Bool.eq_iff_iff]
      simp [Prod.ext_iff]
    rw [spec_l09Hull_l13, dec_lt_t (by omega), dec_le_t (by omega), Bool.and_self, cond_true, cond_true, Int.toNat_natCast, g1, Option.bind_some, heq, en]
    unfold scanS
    by_cases e : p = (now, now1)
    · rw [decide_eq_true e, cond_true, if_pos e]
      exact hull_l13 hl hc hn f6 f7 out b r0 rest k (i + 1) o g2 (by omega) ho hk'
    · rw [decide_eq_false e, cond_false, if_neg e]
      cases o with
      | none =>
        simp only [Option.isSome_none, Bool.not_false, cond_true, Option.bind_some]
        exact hull_l13 hl hc hn f6 f7 out b r0 rest k (i + 1) (some p) g2 (by omega) (by simpa using hcm) hk'
      | some nx =>
        have hnx := ho nx rfl
        simp only [Option.isSome_some, Bool.not_true, cond_false, cond_true, Option.bind_some, Option.getD_some]
        have hdet : ∀ r : Int → Option α, (spec_l01Plus k nx.1 nx.2 now now1 (-1) fun v1 v2 => spec_l01Plus k p.1 p.2 now now1 (-1) fun v3 v4 => spec_l01Det k v1 v2 v3 v4 r) = r (o3 (now, now1) nx p) := fun r => by
          simp only [spec_l01Plus, spec_l01Det]
          rw [sub_w2 hnx.1 hn.1, sub_w2 hnx.2 hn.2, sub_w2 hcm.1 hn.1, sub_w2 hcm.2 hn.2]
          obtain ⟨a1, a2⟩ := hn
          obtain ⟨b1, b2⟩ := hnx
          obtain ⟨c1, c2⟩ := hcm
          rw [crd_iff] at a1 a2 b1 b2 c1 c2
          rw [det_wP (by omega) (by omega) (by omega) (by omega), o3_alt]
        rw [hdet, farP_eq k hn.1 hn.2 hcm.1 hcm.2, farP_eq k hn.1 hn.2 hnx.1 hnx.2]
        have i1 := hull_l13 hl hc hn f6 f7 out b r0 rest k (i + 1) (some p) g2 (by omega) (by simpa using hcm) hk'
        have i2 := hull_l13 hl hc hn f6 f7 out b r0 rest k (i + 1) (some nx) g2 (by omega) (by simpa using hnx) hk'
        simp only [Option.isSome_some, Option.getD_some] at i1 i2
        rw [i1, i2]
        unfold upsS
        rcases Int.lt_or_le (o3 (now, now1) nx p) 0 with z | z
        · simp [dec_lt_t z]
        · rw [dec_lt_f z, cond_false, Bool.false_or]
          by_cases z0 : o3 (now, now1) nx p = 0
          · rw [decide_eq_true z0, cond_true, Bool.true_and]
            by_cases f : farP (now, now1) nx < farP (now, now1) p
            · simp [f]
            · simp [f]
          · simp [z0]
  | _, 0, _, _, _, _, _, hk => by omega

/-- From a corner on, the reference goes through the ring. -/
theorem hull_l10 {l : List (Int × Int)} (hl : l.length ≤ 4000) (hc : ∀ x ∈ l, crdP x) (first : Int × Int) (r : List (Int × Int) → Option α) :
    ∀ (rest : List (Int × Int)) (k : Nat) (pre : List (Int × Int)) (now : Int × Int), FP (Ed (· ∈ l)) (now :: rest ++ [first]) → first ∉ rest → pre.length + 1 + rest.length ≤ l.length → 4001 + rest.length < k →
    spec_l09Hull_l10 k l first.1 first.2 (pre ++ [now]) r = r (pre ++ now :: rest)
  | rest, k + 1, pre, now, hf, hfr, hlen, hk => by
    have hlp : ((pre ++ [now]).length : Int) = (pre.length : Int) + 1 := by simp
    have e1 : w64 (((pre ++ [now]).length : Nat) - 1 : Int) = (pre.length : Int) := by rw [hlp, w64_of (by omega) (by omega)]; omega
    have g1 : (pre ++ [now])[pre.length]? = some now := by simp
    rw [spec_l09Hull_l10, e1, dec_le_t (by omega), dec_lt_t (by omega), Bool.and_self, cond_true, Int.toNat_natCast, g1, Option.bind_some]
    have hnow : now ∈ l := by
      cases rest with
      | nil => exact hf.1.ma
      | cons a rest => exact hf.1.ma
    have step : ∀ q, Ed (· ∈ l) now q → ∀ b : Bool → Int → List (Int × Int) → Int → Int → List (Int × Int) → Int → Int → Int → Int → Option α, spec_l09Hull_l13 k false 0 l first.1 first.2 (pre ++ [now]) now.1 now.2 0 0 b r = b true l.length l first.1 first.2 (pre ++ [now]) now.1 now.2 q.1 q.2 := fun q hq b => by
      have := hull_l13 hl hc (now := now.1) (now1 := now.2) (hc now hnow) first.1 first.2 (pre ++ [now]) b r l k 0 none rfl (by omega) (by simp) (by omega)
      rw [scan_ok (S := (· ∈ l)) (now := (now.1, now.2)) hq l none (fun _ h => h) (by simp) (.inl hq.mq)] at this
      exact this
    cases rest with
    | nil =>
      rw [step first hf.1]
      simp
    | cons q rest =>
      rw [step q hf.1]
      have hqf : q ≠ first := fun e => hfr (by simp [e])
      have hne : (decide (q.1 = first.1) && decide (q.2 = first.2)) = false := by
        cases h : (decide (q.1 = first.1) && decide (q.2 = first.2)) with
        | false => rfl
        | true =>
          simp only [Bool.and_eq_true, decide_eq_true_eq] at h
          exact absurd (Prod.ext h.1 h.2) hqf
      simp only [List.length_cons] at hlen hk
      rw [Bool.not_true, cond_false, hne, cond_false, show decide ((pre ++ [now]).length + 1 ≤ big) = true from dec_nle_t (by rw [big_val]; simp; omega), cond_true, dec_lt_f (by simp; omega), cond_false]
      have := hull_l10 hl hc first r rest k (pre ++ [now]) q hf.2 (fun h => hfr (List.mem_cons_of_mem _ h)) (by simp; omega) (by omega)
      rw [show (q.1, q.2) = q from rfl, this]
      simp
  | _, 0, _, _, _, _, _, hk => by omega

theorem hull_l5 {l : List (Int × Int)} (hl : l.length ≤ 4000) (b : Int → List (Int × Int) → Int → Int → Option α) (r0 : List (Int × Int) → Option α) :
    ∀ (rest : List (Int × Int)) (k i : Nat) (cur : Int × Int), l.drop i = rest → i ≤ l.length → rest.length < k →
    ∃ m, (m = cur ∨ m ∈ rest) ∧ (∀ x, x = cur ∨ x ∈ rest → ptBef x m = false) ∧ spec_l09Hull_l5 k i l cur.1 cur.2 b r0 = b l.length l m.1 m.2
  | [], k + 1, i, cur, hd, hi, _ => by
    have := drop_nil hd
    have e : (i : Int) = l.length := by omega
    refine ⟨cur, .inl rfl, fun x hx => ?_, ?_⟩
    · rcases hx with rfl | hx
      · exact ptBef_irr _
      · simp at hx
    · rw [spec_l09Hull_l5, e, dec_lt_f (by omega)]
      rfl
  | p :: rest, k + 1, i, cur, hd, hi, hk => by
    obtain ⟨g1, g2, g3⟩ := drop_cons hd
    have en : w64 ((i : Int) + 1) = ((i + 1 : Nat) : Int) := by rw [w64_of (by omega) (by omega)]; omega
    have hk' : rest.length < k := by simp at hk; omega
    cases hb : ptBef p cur with
    | true =>
      obtain ⟨m, m1, m2, m3⟩ := hull_l5 hl b r0 rest k (i + 1) p g2 (by omega) hk'
      refine ⟨m, ?_, fun x hx => ?_, ?_⟩
      · rcases m1 with rfl | m1
        · exact .inr (by simp)
        · exact .inr (List.mem_cons_of_mem _ m1)
      · rcases hx with rfl | hx
        · cases h : ptBef x m with
          | false => rfl
          | true =>
            have := ptBef_trans hb h
            rw [m2 p (.inl rfl)] at this
            exact this.symm
        · rcases List.mem_cons.1 hx with rfl | hx
          · exact m2 _ (.inl rfl)
          · exact m2 _ (.inr hx)
      · rw [spec_l09Hull_l5, dec_lt_t (by omega), dec_le_t (by omega), Bool.and_self, cond_true, cond_true, Int.toNat_natCast, g1, Option.bind_some, spec_ptBefore_eq]
        rw [show ptBef (p.1, p.2) (cur.1, cur.2) = true from hb, cond_true, Option.bind_some, en]
        exact m3
    | false =>
      obtain ⟨m, m1, m2, m3⟩ := hull_l5 hl b r0 rest k (i + 1) cur g2 (by omega) hk'
      refine ⟨m, ?_, fun x hx => ?_, ?_⟩
      · rcases m1 with rfl | m1
        · exact .inl rfl
        · exact .inr (List.mem_cons_of_mem _ m1)
      · rcases hx with rfl | hx
        · exact m2 _ (.inl rfl)
        · rcases List.mem_cons.1 hx with rfl | hx
          · cases h : ptBef x m with
            | false => rfl
            | true =>
              rcases m1 with rfl | m1
              · rw [hb] at h; cases h
              · have hcm := m2 cur (.inl rfl)
                have := ptBef_le h (by rw [hcm]; simp)
                rw [hb] at this
                exact this.symm
          · exact m2 _ (.inr hx)
      · rw [spec_l09Hull_l5, dec_lt_t (by omega), dec_le_t (by omega), Bool.and_self, cond_true, cond_true, Int.toNat_natCast, g1, Option.bind_some, spec_ptBefore_eq]
        rw [show ptBef (p.1, p.2) (cur.1, cur.2) = false from hb, cond_false, en]
        exact m3
  | _, 0, _, _, _, _, hk => by omega

theorem ptBef_ltP {x y : Int × Int} : ptBef x y = true ↔ ltP x y := by rw [ptBef_iff, ltP_iff]

theorem pointOrder_ok (k : Nat) (hk : 4 ≤ k) : SortOK (fun (p q : Int × Int) => impl_pointOrder (α := Int) k p.1 p.2 q.1 q.2) ∧ ∀ x y, Go.Proofs.ltOf (cfOf fun (p q : Int × Int) => impl_pointOrder (α := Int) k p.1 p.2 q.1 q.2) x y = ptBef x y := by
  have hc : ∀ x y, cfOf (fun (p q : Int × Int) => impl_pointOrder (α := Int) k p.1 p.2 q.1 q.2) x y = ordP x y := fun x y => by
    show (impl_pointOrder (α := Int) k x.1 x.2 y.1 y.2 some).getD 0 = ordP x y
    rw [impl_pointOrder_eq k (by omega)]
    rfl
  have hb : ∀ x y, Go.Proofs.ltOf (cfOf fun (p q : Int × Int) => impl_pointOrder (α := Int) k p.1 p.2 q.1 q.2) x y = ptBef x y := fun x y => by
    unfold Go.Proofs.ltOf
    rw [hc, ordP_bef]
  refine ⟨⟨fun x y => ⟨ordP x y, impl_pointOrder_eq k (by omega) _ _ _ _ _⟩, ⟨fun x => by rw [hb]; exact ptBef_irr x, fun x y z h1 h2 => ?_, fun x y z h1 h2 => ?_⟩, fun x y h1 h2 => ?_⟩, hb⟩
  · rw [hb] at *
    exact ptBef_trans h1 h2
  · rw [hb] at *
    cases h : ptBef x z with
    | false => rfl
    | true =>
      have := ptBef_le h (z := y) (by rw [h2]; simp)
      rw [h1] at this
      exact this.symm
  · rw [hb] at h1 h2
    exact ptBef_eqP h1 h2

theorem sortPoints (k : Nat) (hk : 4 ≤ k) {l : List (Int × Int)} (hl : l.length ≤ 1000000) : ∃ s : List (Int × Int), s.length = l.length ∧ s.Pairwise (fun x y => ptBef y x = false) ∧ (∀ z, z ∈ s ↔ z ∈ l) ∧ ∀ r : List (Int × Int) → Option α, slices_SortFunc_impl_Point_impl_Point_1F_impl_pointOrder k l r = r s := by
  obtain ⟨h1, h2⟩ := pointOrder_ok k hk
  refine ⟨sortBy (cfOf fun (p q : Int × Int) => impl_pointOrder k p.1 p.2 q.1 q.2) l, List.length_mergeSort _, ?_, fun z => (List.mergeSort_perm _ _).mem_iff, fun r => ?_⟩
  · have := List.pairwise_mergeSort (le := fun x y => !(ptBef y x)) (fun a b c h1 h2 => by
      simp only [Bool.not_eq_true'] at *
      cases h : ptBef c a with
      | false => rfl
      | true =>
        have := ptBef_le h (z := b) (by rw [h1]; simp)
        rw [h2] at this
        exact this.symm) (fun a b => by
      cases h1 : ptBef b a with
      | false => rfl
      | true =>
        have : ptBef a b = false := by
          cases h2 : ptBef a b with
          | false => rfl
          | true =>
            have := ptBef_trans h1 h2
            rw [ptBef_irr] at this
            exact this.symm
        simp [this]) l
    unfold sortBy
    have e : (fun x y => !(Go.Proofs.ltOf (cfOf fun (p q : Int × Int) => impl_pointOrder (α := Int) k p.1 p.2 q.1 q.2)) y x) = fun x y => !(ptBef y x) := by
      funext x y
      rw [h2]
    rw [e]
    exact this.imp fun h => by simpa using h
  · unfold slices_SortFunc_impl_Point_impl_Point_1F_impl_pointOrder sortK
    rw [if_pos ⟨h1, by omega⟩]

theorem concatP_eq (k : Nat) (a b : List (Int × Int)) (h0 : 0 < a.length + b.length) (hl : a.length + b.length ≤ 100000) (r : List (Int × Int) → Option α) : slices_Concat_impl_Point_impl_Point_0M2 k a b r = r (a ++ b) := by
  unfold slices_Concat_impl_Point_impl_Point_0M2
  simp only [slices_Grow_impl_Point_impl_Point_0N, Int.zero_add]
  rw [w64_of (n := (a.length : Int)) (by omega) (by omega), w64_of (n := (a.length : Int) + b.length) (by omega) (by omega), Int.sub_zero, w64_of (n := (a.length : Int) + b.length) (by omega) (by omega)]
  have n1 : decide (((a.length : Nat) : Int) < 0) = false := dec_lt_f (by omega)
  have n2 : decide (((a.length : Nat) : Int) + b.length < 0) = false := dec_lt_f (by omega)
  have n3 : decide (0 < ((a.length : Nat) : Int) + b.length) = true := dec_lt_t (by omega)
  have n4 : decide (1 ≤ ((a.length : Nat) : Int) + b.length) = true := dec_le_t (by omega)
  have n5 : decide (((a.length : Nat) : Int) + b.length ≤ (big : Int)) = true := dec_le_t (by rw [big_val]; omega)
  have n6 : decide (a.length ≤ big) = true := dec_nle_t (by rw [big_val]; omega)
  have n7 : decide (a.length + b.length ≤ big) = true := dec_nle_t (by rw [big_val]; omega)
  have n8 : decide (0 ≤ max (((a.length : Nat) : Int) + b.length) 0) = true := dec_le_t (by omega)
  simp [n1, n2, n3, n4, n5, n6, n7, n8]

theorem concatP_nil (k : Nat) (r : List (Int × Int) → Option α) : slices_Concat_impl_Point_impl_Point_0M2 k [] [] r = r [] := by
  unfold slices_Concat_impl_Point_impl_Point_0M2
  simp only [slices_Grow_impl_Point_impl_Point_0N, List.length_nil]
  have h2 : w64 0 = 0 := by decide
  simp [h2]

/-- The two chains laid together: what the program's hull has. -/
def ringOf (s : List (Int × Int)) : List (Int × Int) := (chainH [] s).tail.reverse ++ (chainH [] s.reverse).tail.reverse

/-- The points of a list in order, each once. -/
theorem ordered_of (k : Nat) (hk : 2000010 < k) {l : List (Int × Int)} (hl : l.length ≤ 4000) : ∃ s : List (Int × Int), s.Pairwise ltP ∧ (∀ z, z ∈ s ↔ z ∈ l) ∧ s.length ≤ l.length ∧
    ∀ r : List (Int × Int) → Option α, (slices_SortFunc_impl_Point_impl_Point_1F_impl_pointOrder k l fun v => slices_Compact_impl_Point_impl_Point k v r) = r s := by
  obtain ⟨s, h1, h2, h3, h4⟩ := sortPoints (α := α) k (by omega) (l := l) (by omega)
  refine ⟨ddSP s, (ddSP_asc h2).imp fun h => ptBef_ltP.1 h, fun z => by rw [ddSP_mem, h3], ?_, fun r => by rw [h4, compactP_eq k (by omega) hk]⟩
  have hn : (ddSP s).Nodup := List.nodup_iff_pairwise_ne.2 ((ddSP_asc h2).imp fun {x y} h e => by subst e; rw [ptBef_irr] at h; cases h)
  have := hn.length_le_of_subset fun x hx => (ddSP_mem s x).1 hx
  omega

/-- The corners of the hull of a list, in a ring. -/
def HullRing (l v : List (Int × Int)) : Prop := (∃ a, v = [a] ∧ ∀ x ∈ l, x = a) ∨ (2 ≤ v.length ∧ v.Nodup ∧ ∀ i, i < v.length → Ed (· ∈ l) (gP v i) (gP v ((i + 1) % v.length)))

theorem FP.get {β : Type} {R : β → β → Prop} : ∀ {l : List β}, FP R l → ∀ (i : Nat) (x y : β), l[i]? = some x → l[i + 1]? = some y → R x y
  | [], _, i, x, y, h, _ => by simp at h
  | [a], _, i, x, y, _, h => by simp at h
  | a :: b :: r, hf, 0, x, y, h1, h2 => by
    simp at h1 h2
    subst h1 h2
    exact hf.1
  | a :: b :: r, hf, i + 1, x, y, h1, h2 => FP.get (l := b :: r) hf.2 i x y (by simpa using h1) (by simpa using h2)

theorem ring_get2 {S : Int × Int → Prop} {a : Int × Int} {rest : List (Int × Int)} (h : FP (Ed S) (a :: rest ++ [a])) : ∀ i, i < (a :: rest).length → Ed S (gP (a :: rest) i) (gP (a :: rest) ((i + 1) % (a :: rest).length)) := by
  intro i hi
  have h1 : (a :: rest ++ [a])[i]? = some (gP (a :: rest) i) := by
    rw [List.getElem?_append_left hi]
    exact gP_get hi
  refine h.get i _ _ h1 ?_
  by_cases e : i + 1 < (a :: rest).length
  · rw [List.getElem?_append_left e, Nat.mod_eq_of_lt e]
    exact gP_get e
  · have e2 : i + 1 = (a :: rest).length := by omega
    rw [e2, Nat.mod_self, List.getElem?_append_right (Nat.le_refl _), Nat.sub_self]
    rfl

theorem hull_both (k : Nat) (hk : 2000010 < k) {l : List (Int × Int)} (hl : l.length ≤ 4000) (hc : ∀ x ∈ l, crdP x) : ∃ v : List (Int × Int), v.length ≤ l.length ∧ (∀ x ∈ v, x ∈ l) ∧ (l ≠ [] → HullRing l v) ∧
    (∀ r : List (Int × Int) → Option α, spec_l09Hull k l r = r v) ∧ ∀ (r0 : Int → Option α) (r1 : List (Int × Int) → Int → Option α), impl_hull k l r0 r1 = if v.length < 3 then r0 5 else bif polyB v then r1 v 0 else r0 3 := by
  have fin : ∀ (v : List (Int × Int)) (r0 : Int → Option α) (r1 : List (Int × Int) → Int → Option α), v.length ≤ 100000 → (bif decide ((((List.length v) : Nat) : Int) < 3) then r0 5 else impl_IsPolygon k v fun v3 => bif (!v3) then r0 3 else r1 v 0) = if v.length < 3 then r0 5 else bif polyB v then r1 v 0 else r0 3 := by
    intro v r0 r1 _
    by_cases h : v.length < 3
    · rw [dec_lt_t (by omega), if_pos h]
      rfl
    · rw [dec_lt_f (by omega), if_neg h, cond_false, impl_is_eq k (by omega)]
      cases polyB v <;> rfl
  cases l with
  | nil =>
    refine ⟨[], by simp, by simp, fun h => absurd rfl h, fun r => rfl, fun r0 r1 => ?_⟩
    have hr : impl_hull k [] r0 r1 = r0 5 := by
      unfold impl_hull slices_Clone_impl_Point_impl_Point
      have hb : decide (0 + ([] : List (Int × Int)).length ≤ big) = true := dec_nle_t (by simp)
      have e1 : (slices_SortFunc_impl_Point_impl_Point_0N_1F_impl_pointOrder k <|
          slices_Compact_impl_Point_impl_Point_0N k <|
          impl_chain_0N k fun v =>
          slices_Reverse_impl_Point_impl_Point_0N k <|
          impl_chain_0N k fun v1 =>
          slices_Concat_impl_Point_impl_Point_0M2 k v v1 fun v2 =>
          bif decide ((((List.length v2) : Nat) : Int) < 3) then r0 5 else impl_IsPolygon k v2 fun v3 => bif (!v3) then r0 3 else r1 v2 0) = r0 5 := by
        have hcn : ∀ r : List (Int × Int) → Option α, impl_chain_0N k r = r [] := fun r => by
          unfold impl_chain_0N
          have : w64 (-1) = -1 := by decide
          have e2 : max (-1 : Int) 0 = 0 := by decide
          simp [this, e2]
        have hrn : ∀ r : Option α, slices_Reverse_impl_Point_impl_Point_0N k r = r := fun r => by
          unfold slices_Reverse_impl_Point_impl_Point_0N
          rfl
        show (impl_chain_0N k fun v => slices_Reverse_impl_Point_impl_Point_0N k <| impl_chain_0N k fun v1 => _) = _
        simp only [hcn, hrn, concatP_nil]
        simp
      obtain ⟨s, g1, g2, g3, g4⟩ := ordered_of (α := α) k hk (l := []) (by simp)
      have hs : s = [] := List.eq_nil_of_length_eq_zero (by simpa using g3)
      subst hs
      have e2 : (slices_SortFunc_impl_Point_impl_Point_1F_impl_pointOrder k ([] ++ []) fun v5 =>
          slices_Compact_impl_Point_impl_Point k v5 fun v6 =>
          impl_chain k v6 fun v7 =>
          slices_Reverse_impl_Point_impl_Point k v6 fun v8 =>
          impl_chain k v8 fun v9 =>
          slices_Concat_impl_Point_impl_Point_0M2 k v7 v9 fun v10 =>
          bif decide ((((List.length v10) : Nat) : Int) < 3) then r0 5 else impl_IsPolygon k v10 fun v11 => bif (!v11) then r0 3 else r1 v10 0) = r0 5 := by
        rw [List.append_nil, g4, chain_eq k (by simp) (by simp) (by omega), reverseP_eq k (by simp) (by omega), chain_eq k (by simp) (by simp) (by omega), show (chainH [] ([] : List (Int × Int))).tail.reverse = [] from rfl, show (chainH [] ([] : List (Int × Int)).reverse).tail.reverse = [] from rfl, concatP_nil]
        simp
      have e3 : ∀ (X Y : Option α), X = r0 5 → Y = r0 5 → (bif Nat.beq ([] : List (Int × Int)).length 0 then both X (bif decide (0 + ([] : List (Int × Int)).length ≤ big) then Y else none) else (bif decide (0 + ([] : List (Int × Int)).length ≤ big) then Y else none)) = r0 5 := by
        rintro X Y rfl rfl
        rw [hb, cond_true]
        simp [both]
      exact e3 _ _ e1 e2
    rw [hr]
    rfl
  | cons p0 l0 =>
    generalize hL : p0 :: l0 = l at hl hc ⊢
    have hne : l.length ≠ 0 := by rw [← hL]; simp
    obtain ⟨s, g1, g2, g3, g4⟩ := ordered_of (α := α) k hk hl
    have hcs : ∀ x ∈ s, crdP x := fun x hx => hc x ((g2 x).1 hx)
    have hs0 : s ≠ [] := by
      intro e
      have := (g2 p0).2 (by rw [← hL]; simp)
      rw [e] at this
      simp at this
    have hrl : (ringOf s).length ≤ 2 * s.length := by
      have h1 := chainH_len s []
      have h2 := chainH_len s.reverse []
      unfold ringOf
      simp at h1 h2 ⊢
      omega
    -- the program
    have himpl : ∀ (r0 : Int → Option α) (r1 : List (Int × Int) → Int → Option α), impl_hull k l r0 r1 = if (ringOf s).length < 3 then r0 5 else bif polyB (ringOf s) then r1 (ringOf s) 0 else r0 3 := by
      intro r0 r1
      unfold impl_hull slices_Clone_impl_Point_impl_Point
      have hn : Nat.beq l.length 0 = false := by
        cases h : Nat.beq l.length 0 with
        | false => rfl
        | true => exact absurd (Nat.eq_of_beq_eq_true h) hne
      rw [hn, cond_false, show decide (0 + l.length ≤ big) = true from dec_nle_t (by rw [big_val]; omega), cond_true, List.nil_append]
      show (slices_SortFunc_impl_Point_impl_Point_1F_impl_pointOrder k l fun v5 => slices_Compact_impl_Point_impl_Point k v5 _) = _
      rw [g4, chain_eq k (by omega) hcs (by omega), reverseP_eq k (by omega) (by omega), chain_eq k (by rw [List.length_reverse]; omega) (fun x hx => hcs x (by simpa using hx)) (by omega)]
      by_cases hz : (ringOf s).length = 0
      · have h1 : (chainH [] s).tail.reverse = [] := List.eq_nil_of_length_eq_zero (by unfold ringOf at hz; rw [List.length_append] at hz; omega)
        have h2 : (chainH [] s.reverse).tail.reverse = [] := List.eq_nil_of_length_eq_zero (by unfold ringOf at hz; rw [List.length_append] at hz; omega)
        rw [h1, h2, concatP_nil, if_pos (by omega)]
        rfl
      · rw [concatP_eq k _ _ (by unfold ringOf at hz; rw [List.length_append] at hz; omega) (by unfold ringOf at hrl; rw [List.length_append] at hrl; omega)]
        exact fin (ringOf s) r0 r1 (by omega)
    -- the reference
    have hsp : ∃ m, m ∈ l ∧ (∀ x ∈ l, x = m ∨ ltP m x) ∧ ∀ r : List (Int × Int) → Option α, spec_l09Hull k l r = spec_l09Hull_l10 k l m.1 m.2 [m] r := by
      have hp0 : l[0]? = some p0 := by rw [← hL]; rfl
      obtain ⟨m, m1, m2, _⟩ := hull_l5 (α := α) hl (fun _ _ _ _ => none) (fun _ => none) l k 0 p0 rfl (by omega) (by omega)
      have hm : m ∈ l := by
        rcases m1 with rfl | m1
        · exact List.mem_of_getElem? hp0
        · exact m1
      have huniq : ∀ x ∈ l, x = m ∨ ltP m x := fun x hx => by
        rcases ltP_tri x m with h | h | h
        · have := m2 x (.inr hx)
          rw [ptBef_ltP.2 h] at this
          cases this
        · exact .inl h
        · exact .inr h
      refine ⟨m, hm, huniq, fun r => ?_⟩
      obtain ⟨m', m1', m2', m3'⟩ := hull_l5 (α := α) hl (fun _ list2 first2 first3 => spec_l09Hull_l10 k list2 first2 first3 [(first2, first3)] r) r l k 0 p0 rfl (by omega) (by omega)
      have hm' : m' ∈ l := by
        rcases m1' with rfl | m1'
        · exact List.mem_of_getElem? hp0
        · exact m1'
      have : m' = m := by
        rcases huniq m' hm' with h | h
        · exact h
        · have := m2' m (.inr hm)
          rw [ptBef_ltP.2 h] at this
          cases this
      subst this
      unfold spec_l09Hull
      have e0 : decide (((l.length : Nat) : Int) = 0) = false := decide_eq_false (by omega)
      rw [e0, cond_false, dec_lt_t (by omega), Bool.and_self, cond_true, hp0, Option.bind_some]
      simp only [Int.natCast_zero] at m3'
      exact m3'
    obtain ⟨m, hm, hmin, hspec⟩ := hsp
    cases s with
    | nil => exact absurd rfl hs0
    | cons a s1 =>
      have ham : a = m := by
        have ha := (g2 a).1 (by simp)
        have hms := (g2 m).2 hm
        rcases hmin a ha with h | h
        · exact h
        · rcases List.mem_cons.1 hms with e | e
          · exact e.symm
          · exact absurd (ltP_trans h ((List.pairwise_cons.1 g1).1 m e)) ltP_irr
      subst ham
      cases s1 with
      | nil =>
        -- one point alone
        have hone : ∀ x ∈ l, x = a := fun x hx => by simpa using (g2 x).2 hx
        have hr : ringOf [a] = [] := by simp [ringOf, chainH, popH]
        have hk1 : ∃ k', k = k' + 1 := ⟨k - 1, by omega⟩
        obtain ⟨k', rfl⟩ := hk1
        refine ⟨[a], by simp; omega, by simpa using hm, fun _ => .inl ⟨a, rfl, hone⟩, fun r => ?_, fun r0 r1 => ?_⟩
        · rw [hspec, spec_l09Hull_l10]
          have hsc : ∀ rest : List (Int × Int), (∀ x ∈ rest, x = a) → scanS a rest none = none := by
            intro rest
            induction rest with
            | nil => intro _; rfl
            | cons x rest ih =>
              intro h
              unfold scanS
              rw [if_pos (h x (by simp))]
              exact ih fun y hy => h y (List.mem_cons_of_mem _ hy)
          have h13 := fun b => hull_l13 (α := α) hl hc (now := a.1) (now1 := a.2) (hc a hm) a.1 a.2 [a] b r l k' 0 none rfl (by omega) (by simp) (by omega)
          simp only [Option.isSome_none, Option.getD_none, hsc l hone, Int.natCast_zero] at h13
          have e1 : w64 (((1 : Nat) : Int) - 1) = 0 := by decide
          rw [show ([a] : List (Int × Int)).length = 1 from rfl, e1]
          show (spec_l09Hull_l13 k' false 0 l a.1 a.2 [a] a.1 a.2 0 0 _ _) = _
          rw [h13]
          rfl
        · rw [himpl, hr]
          simp
      | cons b s2 =>
        obtain ⟨rest, r1, r2, r3, r4, r5⟩ := ring_hull g1
        have hl2 : (a :: rest).length ≤ l.length := by
          have := r4.length_le_of_subset fun x hx => (g2 x).1 (r5 x hx)
          exact this
        have hE : FP (Ed (· ∈ l)) (a :: rest ++ [a]) := r3.mono fun x y h => ⟨(g2 x).1 h.ma, (g2 y).1 h.mq, h.ne, fun z hz => h.left z ((g2 z).2 hz)⟩
        have h2len : 2 ≤ (a :: rest).length := by
          cases rest with
          | nil => exact absurd rfl r2
          | cons _ _ => simp
        refine ⟨a :: rest, hl2, fun x hx => (g2 x).1 (r5 x hx), fun _ => .inr ⟨h2len, r4, ring_get2 hE⟩, fun r => ?_, fun r0 r1' => ?_⟩
        · rw [hspec]
          have := hull_l10 hl hc a r rest k [] a hE (List.nodup_cons.1 r4).1 (by simp at hl2 ⊢; omega) (by simp at hl2; omega)
          exact this
        · rw [himpl]
          have : ringOf (a :: b :: s2) = a :: rest := r1
          rw [this]

theorem mid1 {u1 u2 v1 v2 w1 w2 : Int} (h1 : 0 ≤ u1 * v1) (hc : v1 * u2 = v2 * u1) (hu : u1 ≠ 0) (hv : v1 ≠ 0 ∨ v2 ≠ 0)
    (k1 : w1 * u2 - w2 * u1 ≤ 0) (k2 : 0 ≤ w1 * v2 - w2 * v1) (z1 : w1 * u2 - w2 * u1 = 0 → 0 ≤ -u1 * (w1 + u1)) (z2 : w1 * v2 - w2 * v1 = 0 → 0 ≤ v1 * (w1 - v1)) : False := by
  have hv1 : v1 ≠ 0 := by
    intro e
    subst e
    rw [Int.zero_mul] at hc
    rcases Int.mul_eq_zero.1 hc.symm with h | h
    · subst h; simp at hv
    · exact hu h
  have key : v1 * (w1 * u2 - w2 * u1) = u1 * (w1 * v2 - w2 * v1) := by grind
  rcases Int.lt_or_le 0 u1 with hp | hp
  · have hvp : 0 < v1 := by
      rcases Int.lt_or_le 0 v1 with h | h
      · exact h
      · have := Int.mul_neg_of_pos_of_neg hp (show v1 < 0 by omega)
        omega
    have g2 := Int.mul_nonneg (Int.le_of_lt hp) k2
    have g1 := Int.mul_nonneg (Int.le_of_lt hvp) (show 0 ≤ -(w1 * u2 - w2 * u1) by omega)
    rw [Int.mul_neg] at g1
    have e1 : v1 * (w1 * u2 - w2 * u1) = 0 := by omega
    have e2 : u1 * (w1 * v2 - w2 * v1) = 0 := by omega
    have y1 := z1 ((Int.mul_eq_zero.1 e1).resolve_left hv1)
    have y2 := z2 ((Int.mul_eq_zero.1 e2).resolve_left hu)
    rw [Int.neg_mul] at y1
    rcases Int.lt_or_le 0 w1 with h | h
    · have := Int.mul_pos hp (show 0 < w1 + u1 by omega)
      omega
    · have := Int.mul_neg_of_pos_of_neg hvp (show w1 - v1 < 0 by omega)
      omega
  · have hun : u1 < 0 := by omega
    have hvn : v1 < 0 := by
      rcases Int.lt_or_le v1 0 with h | h
      · exact h
      · have := Int.mul_neg_of_neg_of_pos hun (show 0 < v1 by omega)
        omega
    have g2 := Int.mul_nonneg (show 0 ≤ -u1 by omega) k2
    have g1 := Int.mul_nonneg (show 0 ≤ -v1 by omega) (show 0 ≤ -(w1 * u2 - w2 * u1) by omega)
    rw [Int.neg_mul] at g1 g2
    rw [Int.mul_neg] at g1
    have e1 : v1 * (w1 * u2 - w2 * u1) = 0 := by omega
    have e2 : u1 * (w1 * v2 - w2 * v1) = 0 := by omega
    have y1 := z1 ((Int.mul_eq_zero.1 e1).resolve_left hv1)
    have y2 := z2 ((Int.mul_eq_zero.1 e2).resolve_left hu)
    rcases Int.lt_or_le 0 w1 with h | h
    · have := Int.mul_neg_of_neg_of_pos hvn (show 0 < w1 - v1 by omega)
      omega
    · have := Int.mul_neg_of_pos_of_neg (show 0 < -u1 by omega) (show w1 + u1 < 0 by omega)
      omega

/-- No point that has a side of its own lies within another side. -/
theorem no_mid {S : Int × Int → Prop} {a b r q : Int × Int} (h : Ed S r q) (ha : S a) (hb : S b) (hs : Seg a b r) (h0 : o3 a b r = 0) (hra : r ≠ a) (hrb : r ≠ b) : False := by
  obtain ⟨s1, s2⟩ := hs
  obtain ⟨l1, l2⟩ := h.left a ha
  obtain ⟨m1, m2⟩ := h.left b hb
  unfold Seg at l2 m2
  have hu : r.1 - a.1 ≠ 0 ∨ r.2 - a.2 ≠ 0 := by
    rcases Decidable.em (r.1 - a.1 = 0) with h1 | h1
    · rcases Decidable.em (r.2 - a.2 = 0) with h2 | h2
      · exact absurd (Prod.ext (by omega) (by omega)) hra
      · exact .inr h2
    · exact .inl h1
  have hv : b.1 - r.1 ≠ 0 ∨ b.2 - r.2 ≠ 0 := by
    rcases Decidable.em (b.1 - r.1 = 0) with h1 | h1
    · rcases Decidable.em (b.2 - r.2 = 0) with h2 | h2
      · exact absurd (Prod.ext (by omega) (by omega)) hrb
      · exact .inr h2
    · exact .inl h1
  have hc : (b.1 - r.1) * (r.2 - a.2) = (b.2 - r.2) * (r.1 - a.1) := by
    unfold o3 at h0
    grind
  have e1 : o3 r q a = -((q.1 - r.1) * (r.2 - a.2) - (q.2 - r.2) * (r.1 - a.1)) := by unfold o3; grind
  have e2 : o3 r q b = (q.1 - r.1) * (b.2 - r.2) - (q.2 - r.2) * (b.1 - r.1) := by unfold o3; grind
  have n1 : (a.1 - r.1) * (q.1 - a.1) = -(r.1 - a.1) * ((q.1 - r.1) + (r.1 - a.1)) := by grind
  have n2 : (a.2 - r.2) * (q.2 - a.2) = -(r.2 - a.2) * ((q.2 - r.2) + (r.2 - a.2)) := by grind
  have n3 : (b.1 - r.1) * (q.1 - b.1) = (b.1 - r.1) * ((q.1 - r.1) - (b.1 - r.1)) := by grind
  have n4 : (b.2 - r.2) * (q.2 - b.2) = (b.2 - r.2) * ((q.2 - r.2) - (b.2 - r.2)) := by grind
  rw [n1, n2] at l2
  rw [n3, n4] at m2
  rcases hu with hu | hu
  · exact mid1 s1 hc hu hv (w1 := q.1 - r.1) (w2 := q.2 - r.2) (by omega) (by omega) (fun z => (l2 (by omega)).1) (fun z => (m2 (by omega)).1)
  · -- the other coordinate: all signs turn, so a and b change places
    have s2' : 0 ≤ (b.2 - r.2) * (r.2 - a.2) := by rw [Int.mul_comm]; exact s2
    by_cases hv2 : b.2 - r.2 = 0
    · have : b.1 - r.1 ≠ 0 := by
        rcases hv with h | h
        · exact h
        · exact absurd hv2 h
      rw [hv2, Int.zero_mul] at hc
      rcases Int.mul_eq_zero.1 hc with h | h
      · exact this h
      · exact hu h
    · have key : (b.2 - r.2) * ((q.1 - r.1) * (r.2 - a.2) - (q.2 - r.2) * (r.1 - a.1)) = (r.2 - a.2) * ((q.1 - r.1) * (b.2 - r.2) - (q.2 - r.2) * (b.1 - r.1)) := by grind
      generalize hA : (q.1 - r.1) * (r.2 - a.2) - (q.2 - r.2) * (r.1 - a.1) = A at *
      generalize hB : (q.1 - r.1) * (b.2 - r.2) - (q.2 - r.2) * (b.1 - r.1) = B at *
      generalize hU : r.2 - a.2 = u at *
      generalize hV : b.2 - r.2 = v at *
      generalize hW : q.2 - r.2 = w at *
      have hA0 : A ≤ 0 := by omega
      have hB0 : 0 ≤ B := by omega
      rcases Int.lt_or_le 0 u with hp | hp
      · have hvp : 0 < v := by
          rcases Int.lt_or_le 0 v with h | h
          · exact h
          · have := Int.mul_neg_of_neg_of_pos (show v < 0 by omega) hp
            omega
        have g2 := Int.mul_nonneg (Int.le_of_lt hp) hB0
        have g1 := Int.mul_nonneg (Int.le_of_lt hvp) (show 0 ≤ -A by omega)
        rw [Int.mul_neg] at g1
        have a0 := (Int.mul_eq_zero.1 (show v * A = 0 by omega)).resolve_left hv2
        have b0 := (Int.mul_eq_zero.1 (show u * B = 0 by omega)).resolve_left hu
        have y1 := (l2 (by omega)).2
        have y2 := (m2 (by omega)).2
        rw [Int.neg_mul] at y1
        rcases Int.lt_or_le 0 w with h | h
        · have := Int.mul_pos hp (show 0 < w + u by omega)
          omega
        · have := Int.mul_neg_of_pos_of_neg hvp (show w - v < 0 by omega)
          omega
      · have hun : u < 0 := by omega
        have hvn : v < 0 := by
          rcases Int.lt_or_le v 0 with h | h
          · exact h
          · have := Int.mul_neg_of_pos_of_neg (show 0 < v by omega) hun
            omega
        have g2 := Int.mul_nonneg (show 0 ≤ -u by omega) hB0
        have g1 := Int.mul_nonneg (show 0 ≤ -v by omega) (show 0 ≤ -A by omega)
        rw [Int.neg_mul] at g1 g2
        rw [Int.mul_neg] at g1
        have a0 := (Int.mul_eq_zero.1 (show v * A = 0 by omega)).resolve_left hv2
        have b0 := (Int.mul_eq_zero.1 (show u * B = 0 by omega)).resolve_left hu
        have y1 := (l2 (by omega)).2
        have y2 := (m2 (by omega)).2
        rcases Int.lt_or_le 0 w with h | h
        · have := Int.mul_neg_of_neg_of_pos hvn (show 0 < w - v by omega)
          omega
        · have := Int.mul_neg_of_pos_of_neg (show 0 < -u by omega) (show w + u < 0 by omega)
          omega

theorem nodup_gP {l : List (Int × Int)} (h : l.Nodup) {i j : Nat} (hi : i < l.length) (hj : j < l.length) (e : gP l i = gP l j) : i = j := by
  have h1 := gP_get hi
  have h2 := gP_get hj
  rw [e] at h1
  rw [List.getElem?_eq_getElem hi] at h1
  rw [List.getElem?_eq_getElem hj] at h2
  exact (List.getElem_inj h).1 ((Option.some.inj h1).trans (Option.some.inj h2).symm)

theorem ori_o3 (l : List (Int × Int)) (i j : Nat) : ori (ringX l) (ringY l) i j = o3 (gP l (i % l.length)) (gP l ((i + 1) % l.length)) (gP l (j % l.length)) := by
  unfold ori o3
  simp only [ring_gP]

/-- A ring of three or more corners is a polygon, if it is small. -/
theorem ring_poly {l v : List (Int × Int)} (h3 : 3 ≤ v.length) (h12 : v.length ≤ 12) (hs : ∀ x ∈ v, sm x.1 = true ∧ sm x.2 = true) (hnd : v.Nodup) (hv : ∀ x ∈ v, x ∈ l) (hE : ∀ i, i < v.length → Ed (· ∈ l) (gP v i) (gP v ((i + 1) % v.length))) : polyB v = true := by
  have hg : Glob v.length (ringX v) (ringY v) := by
    rw [← glob_iff h3, allF_iff]
    intro i _ hi
    rw [allF_iff]
    intro j _ hj
    rw [farOK, Bool.or_eq_true, Bool.or_eq_true, decide_eq_true_eq, decide_eq_true_eq, decide_eq_true_eq]
    by_cases e1 : j = i
    · exact .inl e1
    · by_cases e2 : j = (i + 1) % v.length
      · exact .inr (.inl e2)
      · refine .inr (.inr ?_)
        have hi' : i < v.length := by omega
        have hj' : j < v.length := by omega
        have hm : (i + 1) % v.length < v.length := Nat.mod_lt _ (by omega)
        rw [ori_o3, Nat.mod_eq_of_lt hi', Nat.mod_eq_of_lt hj']
        have hei := hE i hi'
        obtain ⟨k1, k2⟩ := hei.left _ (hv _ (gP_mem hj'))
        rcases Int.lt_or_le 0 (o3 (gP v i) (gP v ((i + 1) % v.length)) (gP v j)) with h | h
        · exact h
        · exfalso
          have h0 : o3 (gP v i) (gP v ((i + 1) % v.length)) (gP v j) = 0 := by omega
          exact no_mid (hE j hj') hei.ma hei.mq (k2 h0) h0 (fun e => e1 (nodup_gP hnd hj' hi' e)) (fun e => e2 (nodup_gP hnd hj' hm e))
  have hloc := (ring_iff (ring_of h3)).2 hg
  rw [← loc_iff h3] at hloc
  unfold polyB
  rw [hloc.1, hloc.2, inB_iff.2 ⟨by omega, by omega⟩]
  simp only [Bool.true_and, decide_true, Bool.and_true, List.all_eq_true]
  intro x hx
  rw [(hs x hx).1, (hs x hx).2]
  rfl

/-- Points that are not on one line have a hull of three or more corners. -/
theorem ring_three {l v : List (Int × Int)} (h : HullRing l v) {p0 p1 p2 : Int × Int} (h0 : p0 ∈ l) (h1 : p1 ∈ l) (h2 : p2 ∈ l) (ho : o3 p0 p1 p2 ≠ 0) : 3 ≤ v.length ∧ v.Nodup ∧ ∀ i, i < v.length → Ed (· ∈ l) (gP v i) (gP v ((i + 1) % v.length)) := by
  rcases h with ⟨a, rfl, ha⟩ | ⟨hl, hn, hE⟩
  · rw [ha p0 h0, ha p1 h1, ha p2 h2] at ho
    exact absurd (by unfold o3; grind) ho
  · refine ⟨?_, hn, hE⟩
    rcases Nat.lt_or_ge v.length 3 with h | h
    · exfalso
      have e : v.length = 2 := by omega
      have a1 := hE 0 (by omega)
      have a2 := hE 1 (by omega)
      rw [e] at a1 a2
      have ea : (0 + 1) % 2 = 1 := rfl
      have eb : (1 + 1) % 2 = 0 := rfl
      rw [ea] at a1
      rw [eb] at a2
      generalize gP v 0 = x at a1 a2
      generalize gP v 1 = y at a1 a2
      have z : ∀ r ∈ l, (y.1 - x.1) * (r.2 - x.2) - (y.2 - x.2) * (r.1 - x.1) = 0 := fun r hr => by
        have k1 := (a1.left r hr).1
        have k2 := (a2.left r hr).1
        have e1 : o3 y x r = -(o3 x y r) := by unfold o3; grind
        rw [← o3_alt]
        omega
      have z0 := z p0 h0
      have z1 := z p1 h1
      have z2 := z p2 h2
      have hne : y.1 - x.1 ≠ 0 ∨ y.2 - x.2 ≠ 0 := by
        rcases Decidable.em (y.1 - x.1 = 0) with h1 | h1
        · rcases Decidable.em (y.2 - x.2 = 0) with h2 | h2
          · exact absurd (Prod.ext (by omega) (by omega)) a1.ne
          · exact .inr h2
        · exact .inl h1
      have w1 : (y.1 - x.1) * (p1.2 - p0.2) = (y.2 - x.2) * (p1.1 - p0.1) := by grind
      have w2 : (y.1 - x.1) * (p2.2 - p1.2) = (y.2 - x.2) * (p2.1 - p1.1) := by grind
      apply ho
      unfold o3
      rcases hne with hne | hne
      · have : (y.1 - x.1) * ((p1.1 - p0.1) * (p2.2 - p1.2) - (p1.2 - p0.2) * (p2.1 - p1.1)) = 0 := by grind
        exact (Int.mul_eq_zero.1 this).resolve_left hne
      · have : (y.2 - x.2) * ((p1.1 - p0.1) * (p2.2 - p1.2) - (p1.2 - p0.2) * (p2.1 - p1.1)) = 0 := by grind
        exact (Int.mul_eq_zero.1 this).resolve_left hne
    · exact h

theorem poly_sm2 {l : List (Int × Int)} (h : polyB l = true) : ∀ e ∈ l, sm e.1 = true ∧ sm e.2 = true := by
  unfold polyB at h
  simp only [Bool.and_eq_true, List.all_eq_true] at h
  exact fun e he => h.2.1 e he

/-- A point led by a matrix, and moved. -/
def mapQ (m m1 m2 m3 b b1 : Int) (e : Int × Int) : Int × Int := (m * e.1 + m1 * e.2 + b, m2 * e.1 + m3 * e.2 + b1)

theorem apply_w {m m1 a a1 : Int} (h1 : crd m = true) (h2 : crd m1 = true) (h3 : sm a = true) (h4 : sm a1 = true) : w64 (w64 (m * a) + w64 (m1 * a1)) = m * a + m1 * a1 ∧ -2000000000 ≤ m * a + m1 * a1 ∧ m * a + m1 * a1 ≤ 2000000000 := by
  rw [crd_iff] at h1 h2
  unfold sm at h3 h4
  rw [inB_iff] at h3 h4
  have g1 := mul_bound h1.1 h1.2 h3.1 h3.2
  have g2 := mul_bound h2.1 h2.2 h4.1 h4.2
  rw [w64_of (n := m * a) (by omega) (by omega), w64_of (n := m1 * a1) (by omega) (by omega), w64_of (by omega) (by omega)]
  exact ⟨rfl, by omega, by omega⟩

theorem impl_mapQ (k : Nat) {m m1 m2 m3 b b1 : Int} (hm : crd m = true ∧ crd m1 = true ∧ crd m2 = true ∧ crd m3 = true) (hb : crd b = true ∧ crd b1 = true) {x y : Int} (hx : sm x = true) (hy : sm y = true) (r : Int → Int → Option α) :
    (impl_Matrix_apply k m m1 m2 m3 x y fun v4 v5 => impl_Point_plus k v4 v5 b b1 1 r) = r (mapQ m m1 m2 m3 b b1 (x, y)).1 (mapQ m m1 m2 m3 b b1 (x, y)).2 := by
  obtain ⟨e1, e2, e3⟩ := apply_w hm.1 hm.2.1 hx hy
  obtain ⟨f1, f2, f3⟩ := apply_w hm.2.2.1 hm.2.2.2 hx hy
  obtain ⟨g1, g2⟩ := hb
  rw [crd_iff] at g1 g2
  simp only [impl_Matrix_apply, impl_Point_plus, e1, f1, Int.one_mul]
  rw [w64_of (n := b) (by omega) (by omega), w64_of (n := b1) (by omega) (by omega), w64_of (by omega) (by omega), w64_of (by omega) (by omega)]
  rfl

theorem spec_mapQ (k : Nat) {m m1 m2 m3 b b1 : Int} (hm : crd m = true ∧ crd m1 = true ∧ crd m2 = true ∧ crd m3 = true) (hb : crd b = true ∧ crd b1 = true) {x y : Int} (hx : sm x = true) (hy : sm y = true) (r : Int → Int → Option α) :
    (spec_l01Apply k m m1 m2 m3 x y fun v4 v5 => spec_l01Plus k v4 v5 b b1 1 r) = r (mapQ m m1 m2 m3 b b1 (x, y)).1 (mapQ m m1 m2 m3 b b1 (x, y)).2 := by
  obtain ⟨e1, e2, e3⟩ := apply_w hm.1 hm.2.1 hx hy
  obtain ⟨f1, f2, f3⟩ := apply_w hm.2.2.1 hm.2.2.2 hx hy
  obtain ⟨g1, g2⟩ := hb
  rw [crd_iff] at g1 g2
  simp only [spec_l01Apply, spec_l01Plus, e1, f1, Int.one_mul]
  rw [w64_of (n := b) (by omega) (by omega), w64_of (n := b1) (by omega) (by omega), w64_of (by omega) (by omega), w64_of (by omega) (by omega)]
  rfl

theorem map_l7 {l : List (Int × Int)} (hl : l.length ≤ 12) (hs : ∀ e ∈ l, sm e.1 = true ∧ sm e.2 = true) {m m1 m2 m3 b b1 : Int} (hm : crd m = true ∧ crd m1 = true ∧ crd m2 = true ∧ crd m3 = true) (hb : crd b = true ∧ crd b1 = true)
    (c : Int → Int → Int → Int → Int → Int → Int → Int → List (Int × Int) → List (Int × Int) → Option α) (r0 : Int → Option α) (r1 : List (Int × Int) → Int → Option α) :
    ∀ (rest : List (Int × Int)) (k i : Nat) (out : List (Int × Int)), l.drop i = rest → i ≤ l.length → out.length ≤ i → rest.length < k →
    impl_MapPolygon_l7 k l.length i m m1 m2 m3 b b1 out l c r0 r1 = c l.length l.length m m1 m2 m3 b b1 (out ++ rest.map (mapQ m m1 m2 m3 b b1)) l
  | [], k + 1, i, out, hd, hi, _, _ => by
    have := drop_nil hd
    have e : (i : Int) = l.length := by omega
    rw [impl_MapPolygon_l7, e, dec_lt_f (by omega), cond_false]
    simp
  | x :: rest, k + 1, i, out, hd, hi, ho, hk => by
    obtain ⟨g1, g2, g3⟩ := drop_cons hd
    have hx := hs x (List.mem_of_getElem? g1)
    have en : w64 ((i : Int) + 1) = ((i + 1 : Nat) : Int) := by rw [w64_of (by omega) (by omega)]; omega
    simp only [List.length_cons] at hk
    rw [impl_MapPolygon_l7, dec_lt_t (by omega), dec_le_t (by omega), Bool.and_self, cond_true, cond_true, Int.toNat_natCast, g1, Option.bind_some, impl_mapQ k hm hb hx.1 hx.2, show decide (out.length + 1 ≤ big) = true from dec_nle_t (by rw [big_val]; omega), cond_true, en,
      map_l7 hl hs hm hb c r0 r1 rest k (i + 1) _ g2 (by omega) (by simp; omega) (by omega), List.map_cons, List.append_assoc]
    rfl
  | _, 0, _, _, _, _, _, hk => by omega

theorem smap_l7 {l : List (Int × Int)} (hl : l.length ≤ 12) (hs : ∀ e ∈ l, sm e.1 = true ∧ sm e.2 = true) {m m1 m2 m3 b b1 : Int} (hm : crd m = true ∧ crd m1 = true ∧ crd m2 = true ∧ crd m3 = true) (hb : crd b = true ∧ crd b1 = true)
    (c : Int → List (Int × Int) → Int → Int → Int → Int → Int → Int → List (Int × Int) → Option α) (r0 : Int → Option α) (r1 : List (Int × Int) → Int → Option α) :
    ∀ (rest : List (Int × Int)) (k i : Nat) (out : List (Int × Int)), l.drop i = rest → i ≤ l.length → out.length ≤ i → rest.length < k →
    spec_MapPolygon_l7 k i l m m1 m2 m3 b b1 out c r0 r1 = bif (rest.map (mapQ m m1 m2 m3 b b1)).all (fun e => sm e.1 && sm e.2) then c l.length l m m1 m2 m3 b b1 (out ++ rest.map (mapQ m m1 m2 m3 b b1)) else r0 3
  | [], k + 1, i, out, hd, hi, _, _ => by
    have := drop_nil hd
    have e : (i : Int) = l.length := by omega
    rw [spec_MapPolygon_l7, e, dec_lt_f (by omega), cond_false]
    simp
  | x :: rest, k + 1, i, out, hd, hi, ho, hk => by
    obtain ⟨g1, g2, g3⟩ := drop_cons hd
    have hx := hs x (List.mem_of_getElem? g1)
    have en : w64 ((i : Int) + 1) = ((i + 1 : Nat) : Int) := by rw [w64_of (by omega) (by omega)]; omega
    simp only [List.length_cons] at hk
    rw [spec_MapPolygon_l7, dec_lt_t (by omega), dec_le_t (by omega), Bool.and_self, cond_true, cond_true, Int.toNat_natCast, g1, Option.bind_some, spec_mapQ k hm hb hx.1 hx.2, List.map_cons, List.all_cons]
    simp only [spec_l01In_eq]
    show (bif !sm (mapQ m m1 m2 m3 b b1 x).1 then _ else bif !sm (mapQ m m1 m2 m3 b b1 x).2 then _ else _) = _
    cases h1 : sm (mapQ m m1 m2 m3 b b1 x).1 with
    | false => rfl
    | true =>
      cases h2 : sm (mapQ m m1 m2 m3 b b1 x).2 with
      | false => rfl
      | true =>
        simp only [Bool.not_true, cond_false, Bool.and_self, Bool.true_and]
        rw [show decide (out.length + 1 ≤ big) = true from dec_nle_t (by rw [big_val]; omega), cond_true, en,
          smap_l7 hl hs hm hb c r0 r1 rest k (i + 1) _ g2 (by omega) (by simp; omega) (by omega), List.append_assoc]
        rfl
  | _, 0, _, _, _, _, _, hk => by omega

theorem small_find (k : Nat) (s : List (Int × Int)) (hs : s.length ≤ 4000) (hk : 4000 < k) (r : Bool → Option α) : slices_ContainsFunc_impl_Point_impl_Point_1F_impl_MapPolygon_1 k s r = r (!(s.all fun e => sm e.1 && sm e.2)) := by
  unfold slices_ContainsFunc_impl_Point_impl_Point_1F_impl_MapPolygon_1 slices_IndexFunc_impl_Point_impl_Point_1F_impl_MapPolygon_1
  have h := find_loop (α := α) (p := fun e : Int × Int => !(sm e.1 && sm e.2)) (L := slices_IndexFunc_impl_Point_impl_Point_1F_impl_MapPolygon_1_l2)
    (fun k x i s b r => by
      simp only [slices_IndexFunc_impl_Point_impl_Point_1F_impl_MapPolygon_1_l2, impl_MapPolygon_1, impl_small, impl_in_eq]
      congr 1; congr 1; congr 1; funext e
      unfold sm
      cases inB e.1 (-1000) 1000 <;> cases inB e.2 (-1000) 1000 <;> rfl) s k 0 s
  rw [Int.natCast_zero] at h
  rw [h _ _ (by simp) (by rw [big_val]; omega) (by omega) (by omega)]
  cases hf : s.findIdx? (fun e : Int × Int => !(sm e.1 && sm e.2)) with
  | none =>
    rw [List.findIdx?_eq_none_iff] at hf
    have : (s.all fun e => sm e.1 && sm e.2) = true := List.all_eq_true.2 fun e he => by simpa using hf e he
    simp [this]
  | some j =>
    rw [List.findIdx?_eq_some_iff_getElem] at hf
    obtain ⟨hj, hp, _⟩ := hf
    have : (s.all fun e => sm e.1 && sm e.2) = false := by
      rw [List.all_eq_false]
      exact ⟨s[j], List.getElem_mem hj, by cases h1 : sm s[j].1 <;> cases h2 : sm s[j].2 <;> simp_all⟩
    rw [this]
    simp

theorem units (k : Nat) {m m1 m2 m3 : Int} (hm : crd m = true ∧ crd m1 = true ∧ crd m2 = true ∧ crd m3 = true) : ∃ u : Bool, (u = true → m * m3 - m1 * m2 = 1 ∨ m * m3 - m1 * m2 = -1) ∧ (∀ r : Bool → Option α, impl_Matrix_unimodular k m m1 m2 m3 r = r u) ∧ ∀ r : Bool → Option α, spec_l01Unit k m m1 m2 m3 r = r u := by
  obtain ⟨h0, h1, h2, h3⟩ := hm
  rw [crd_iff] at h0 h1 h2 h3
  have hd : w64 (w64 (m * m3) - w64 (m1 * m2)) = m * m3 - m1 * m2 := det_wP (by omega) (by omega) (by omega) (by omega)
  have g1 := mul_bound h0.1 h0.2 h3.1 h3.2
  have g2 := mul_bound h1.1 h1.2 h2.1 h2.2
  refine ⟨decide (m * m3 - m1 * m2 = 1) || decide (m * m3 - m1 * m2 = -1), fun h => ?_, fun r => ?_, fun r => ?_⟩
  · simpa using h
  · simp only [impl_Matrix_unimodular, impl_Matrix_det, impl_det, impl_size, hd]
    rw [w64_of (by omega) (by omega)]
    congr 1
    rw [Bool.eq_iff_iff]
    simp only [Bool.or_eq_true, decide_eq_true_eq]
    omega
  · simp only [spec_l01Unit, spec_l01DetOf, hd]
    by_cases h : m * m3 - m1 * m2 = 1
    · simp [h]
    · simp [h]

theorem mapQ_o3 (m m1 m2 m3 b b1 : Int) (x y z : Int × Int) : o3 (mapQ m m1 m2 m3 b b1 x) (mapQ m m1 m2 m3 b b1 y) (mapQ m m1 m2 m3 b b1 z) = (m * m3 - m1 * m2) * o3 x y z := by
  unfold o3 mapQ
  grind

theorem cr_o3 (l : List (Int × Int)) (i : Nat) : cr (ringX l) (ringY l) i (i + 1) = o3 (gP l (i % l.length)) (gP l ((i + 1) % l.length)) (gP l ((i + 2) % l.length)) := by
  unfold cr o3
  simp only [ring_gP]

theorem map_both (k : Nat) (hk : 2000010 < k) (m m1 m2 m3 : Int) (l : List (Int × Int)) (b b1 : Int) : (∃ z, (∀ r0 r1, spec_MapPolygon (α := α) k m m1 m2 m3 l b b1 r0 r1 = r0 z) ∧ ∀ r0 r1, impl_MapPolygon (α := α) k m m1 m2 m3 l b b1 r0 r1 = r0 z) ∨
    ∃ v, v.length ≤ 12 ∧ (∀ r0 r1, spec_MapPolygon (α := α) k m m1 m2 m3 l b b1 r0 r1 = r1 v 0) ∧ ∀ r0 r1, impl_MapPolygon (α := α) k m m1 m2 m3 l b b1 r0 r1 = r1 v 0 := by
  simp only [spec_MapPolygon, impl_MapPolygon, spec_l01Matrix_eq, impl_IsMatrix_eq k (by omega), spec_is_eq k (by omega), impl_is_eq k (by omega), spec_l01Is_eq, impl_IsPoint_eq]
  cases hm : (crd m && (crd m1 && (crd m2 && crd m3))) with
  | false => exact .inl ⟨1, fun _ _ => by simp, fun _ _ => by simp⟩
  | true =>
    simp only [Bool.and_eq_true] at hm
    cases hp : polyB l with
    | false => exact .inl ⟨1, fun _ _ => by simp, fun _ _ => by simp⟩
    | true =>
      cases hb : crd b && crd b1 with
      | false => exact .inl ⟨1, fun _ _ => by simp, fun _ _ => by simp⟩
      | true =>
        simp only [Bool.and_eq_true] at hb
        obtain ⟨u, hu, u1, u2⟩ := units (α := α) k hm
        simp only [u1, u2, Bool.not_true, cond_false]
        cases u with
        | false => exact .inl ⟨5, fun _ _ => by simp, fun _ _ => by simp⟩
        | true =>
          have hdet := hu rfl
          obtain ⟨p1, p2⟩ := polyB_len hp
          have i1 := fun c r0 r1 => map_l7 (α := α) p2 (poly_sm2 hp) hm hb c r0 r1 l k 0 [] rfl (by omega) (by simp) (by omega)
          have i2 := fun c r0 r1 => smap_l7 (α := α) p2 (poly_sm2 hp) hm hb c r0 r1 l k 0 [] rfl (by omega) (by simp) (by omega)
          simp only [Int.natCast_zero, List.nil_append] at i1 i2
          simp only [Bool.not_true, cond_false, i1, i2]
          generalize hq : l.map (mapQ m m1 m2 m3 b b1) = q
          have hql : q.length = l.length := by rw [← hq, List.length_map]
          simp only [small_find k q (by omega) (by omega)]
          cases hsm : q.all fun e => sm e.1 && sm e.2 with
          | false => exact .inl ⟨3, fun _ _ => by simp, fun _ _ => by simp⟩
          | true =>
            have hqs : ∀ x ∈ q, sm x.1 = true ∧ sm x.2 = true := fun x hx => by
              have := List.all_eq_true.1 hsm x hx
              simpa using this
            have hqc : ∀ x ∈ q, crdP x := fun x hx => ⟨sm_crd (hqs x hx).1, sm_crd (hqs x hx).2⟩
            obtain ⟨v, v1, v2, v3, v4, v5⟩ := hull_both (α := α) k hk (l := q) (by omega) hqc
            have hne : q ≠ [] := fun e => by rw [e] at hql; simp at hql; omega
            have hmem : ∀ i, i < l.length → mapQ m m1 m2 m3 b b1 (gP l i) ∈ q := fun i hi => by
              rw [← hq]
              exact List.mem_map.2 ⟨gP l i, gP_mem hi, rfl⟩
            have hcr := polyB_cr hp 0 (by omega)
            rw [cr_o3, Nat.mod_eq_of_lt (show 0 < l.length by omega), Nat.mod_eq_of_lt (show 0 + 1 < l.length by omega), Nat.mod_eq_of_lt (show 0 + 2 < l.length by omega)] at hcr
            obtain ⟨w1, w2, w3⟩ := ring_three (v3 hne) (hmem 0 (by omega)) (hmem (0 + 1) (by omega)) (hmem (0 + 2) (by omega)) (by
              rw [mapQ_o3]
              rcases hdet with h | h <;> rw [h] <;> omega)
            have hpv := ring_poly w1 (by omega) (fun x hx => hqs x (v2 x hx)) w2 v2 w3
            refine .inr ⟨v, by omega, fun r0 r1 => ?_, fun r0 r1 => ?_⟩
            · rw [cond_true, v4]
            · rw [Bool.not_true, cond_false, v5, if_neg (by omega), hpv]
              rfl

theorem law_MapPolygon (k : Nat) (hk : 3000000 < k) (m m1 m2 m3 : Int) (l : List (Int × Int)) (b b1 : Int) (r : Bool → Option α) (hlen : l.length ≤ maxLen) : laws_FnExactMapPolygon k m m1 m2 m3 l b b1 r = r true := by
  unfold laws_FnExactMapPolygon
  refine sz_cases k l hlen _ _ fun hl _ _ => ?_
  have hb : l.length ≤ big := by rw [big_val]; omega
  simp only [toPointS_ok k l _ hl (by omega), laws_toMatrix, laws_toInt64A2, laws_toPoint]
  rcases map_both (α := α) k (by omega) m m1 m2 m3 l b b1 with ⟨v, h1, h2⟩ | ⟨d, hd, h1, h2⟩
  · simp only [h1, h2, eqPointS_same k l _ hb (by omega), markPointS_ok k l 1 _ hb (by omega) (by omega) (by omega)]
    rw [dec_lt_f (by omega)]
    simp [laws_eqPointS_0N_1N, laws_markPointS_0N, laws_heldPointS_0N]
  · have hdb : d.length ≤ big := by rw [big_val]; omega
    simp only [h1, h2, eqPointS_same k l _ hb (by omega), eqPointS_same k d _ hdb (by omega), markPointS_ok k l 1 _ hb (by omega) (by omega) (by omega), markPointS_ok k d 1 _ hdb (by omega) (by omega) (by omega), heldPointS_ok k d.length 1 _ hdb (by omega) (by omega) (by omega)]
    rw [dec_lt_f (by omega), dec_lt_f (by omega)]
    simp

end Go.Sh
