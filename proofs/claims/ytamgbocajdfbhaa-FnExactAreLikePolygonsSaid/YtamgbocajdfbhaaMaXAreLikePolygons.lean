/- Plain laws: what the readings without memory answer. -/
import Derived.Test.YtamgbocajdfbhaaShXAreLikePolygons
namespace Go.Sh
open Go Go.Ev

variable {α : Type}

/-- A ring of n points. -/
structure Ring (n : Nat) (X Y : Nat → Int) : Prop where
  pos : 3 ≤ n
  px : ∀ i, X (i + n) = X i
  py : ∀ i, Y (i + n) = Y i

/-- The determinant of the sides i and j. -/
def cr (X Y : Nat → Int) (i j : Nat) : Int := (X (i + 1) - X i) * (Y (j + 1) - Y j) - (Y (i + 1) - Y i) * (X (j + 1) - X j)

/-- Does a direction go up? -/
def upV (x y : Int) : Prop := 0 < y ∨ (y = 0 ∧ 0 < x)

instance (x y : Int) : Decidable (upV x y) := by unfold upV; infer_instance

def upS (X Y : Nat → Int) (i : Nat) : Prop := upV (X (i + 1) - X i) (Y (i + 1) - Y i)

theorem up_neg {x y : Int} (h : ¬ upV x y) (h0 : x ≠ 0 ∨ y ≠ 0) : upV (-x) (-y) := by
  unfold upV at h ⊢
  omega

/-- Directions that go up are in order. -/
theorem up_trans {a b c d e f : Int} (h1 : upV a b) (h2 : upV c d) (h3 : upV e f) (k1 : 0 ≤ a * d - b * c) (k2 : 0 < c * f - d * e) : 0 < a * f - b * e := by
  have key : d * (a * f - b * e) = b * (c * f - d * e) + f * (a * d - b * c) := by grind
  unfold upV at h1 h2 h3
  have hf : 0 ≤ f := by omega
  have hb : 0 ≤ b := by omega
  rcases h2 with hd | ⟨hd, hc⟩
  · rcases h1 with hb1 | ⟨hb1, ha⟩
    · have g1 := Int.mul_pos hb1 k2
      have g2 := Int.mul_nonneg hf k1
      rcases ilt_or_ge 0 (a * f - b * e) with h | h
      · exact h
      · have := Int.mul_nonneg (show 0 ≤ d by omega) (show 0 ≤ -(a * f - b * e) by omega)
        rw [Int.mul_neg] at this
        omega
    · subst hb1
      have hf1 : 0 < f := by
        rcases h3 with h3 | ⟨h3, he⟩
        · exact h3
        · exfalso
          subst h3
          have := Int.mul_pos hd he
          simp at k2
          omega
      have := Int.mul_pos ha hf1
      simp
      exact this
  · subst hd
    have hf1 : 0 < f := by
      rcases h3 with h3 | ⟨h3, he⟩
      · exact h3
      · exfalso
        subst h3
        simp at k2
    have hb0 : b = 0 := by
      rcases ilt_or_ge 0 b with h | h
      · have := Int.mul_pos h hc
        simp at k1
        omega
      · omega
    subst hb0
    have ha : 0 < a := by omega
    have := Int.mul_pos ha hf1
    simp
    exact this

theorem cr_anti (X Y : Nat → Int) (i j : Nat) : cr X Y j i = -(cr X Y i j) := by
  unfold cr
  grind

variable {n : Nat} {X Y : Nat → Int}

theorem Ring.cr_r (h : Ring n X Y) (i j : Nat) : cr X Y i (j + n) = cr X Y i j := by
  unfold cr
  have e : j + n + 1 = j + 1 + n := by omega
  rw [e, h.px, h.px, h.py, h.py]

theorem Ring.cr_l (h : Ring n X Y) (i j : Nat) : cr X Y (i + n) j = cr X Y i j := by
  unfold cr
  have e : i + n + 1 = i + 1 + n := by omega
  rw [e, h.px, h.px, h.py, h.py]

theorem Ring.up_p (h : Ring n X Y) (i : Nat) : upS X Y (i + n) ↔ upS X Y i := by
  unfold upS
  have e : i + n + 1 = i + 1 + n := by omega
  rw [e, h.px, h.px, h.py, h.py]

/-- Around once: first sides that go up, then sides that do not. -/
structure Once (n : Nat) (X Y : Nat → Int) (s m : Nat) : Prop where
  ring : Ring n X Y
  m0 : 1 ≤ m
  m1 : m < n
  turn : ∀ i, 0 < cr X Y i (i + 1)
  up : ∀ j, s ≤ j → j < s + m → upS X Y j
  low : ∀ j, s + m ≤ j → j < s + n → ¬ upS X Y j

theorem side_ne (h : ∀ i, 0 < cr X Y i (i + 1)) (i : Nat) : X (i + 1) - X i ≠ 0 ∨ Y (i + 1) - Y i ≠ 0 := by
  have := h i
  rcases Classical.em (X (i + 1) - X i = 0) with h1 | h1
  · rcases Classical.em (Y (i + 1) - Y i = 0) with h2 | h2
    · exfalso
      unfold cr at this
      rw [h1, h2] at this
      simp at this
    · exact .inr h2
  · exact .inl h1

theorem low_neg (h : ∀ i, 0 < cr X Y i (i + 1)) {i : Nat} (hl : ¬ upS X Y i) : upV (-(X (i + 1) - X i)) (-(Y (i + 1) - Y i)) := up_neg hl (side_ne h i)

theorem tr_up {i j k : Nat} (h1 : upS X Y i) (h2 : upS X Y j) (h3 : upS X Y k) (k1 : 0 ≤ cr X Y i j) (k2 : 0 < cr X Y j k) : 0 < cr X Y i k := up_trans h1 h2 h3 k1 k2

theorem neg_mul2 (a b c d : Int) : -a * -d - -b * -c = a * d - b * c := by grind

theorem tr_low (h : ∀ i, 0 < cr X Y i (i + 1)) {i j k : Nat} (h1 : ¬ upS X Y i) (h2 : ¬ upS X Y j) (h3 : ¬ upS X Y k) (k1 : 0 ≤ cr X Y i j) (k2 : 0 < cr X Y j k) : 0 < cr X Y i k := by
  have := up_trans (low_neg h h1) (low_neg h h2) (low_neg h h3) (by rw [neg_mul2]; exact k1) (by rw [neg_mul2]; exact k2)
  rw [neg_mul2] at this
  exact this

/-- Of a side that goes up, and two that do not. -/
theorem tr_ull (h : ∀ i, 0 < cr X Y i (i + 1)) {i j k : Nat} (h1 : upS X Y i) (h2 : ¬ upS X Y j) (h3 : ¬ upS X Y k) (k1 : cr X Y i j ≤ 0) (k2 : 0 < cr X Y j k) : cr X Y i k < 0 := by
  have := up_trans h1 (low_neg h h2) (low_neg h h3) (by unfold cr at k1; rw [Int.mul_neg, Int.mul_neg]; omega) (by rw [neg_mul2]; exact k2)
  rw [Int.mul_neg, Int.mul_neg] at this
  unfold cr
  omega

theorem tr_luu (h : ∀ i, 0 < cr X Y i (i + 1)) {i j k : Nat} (h1 : ¬ upS X Y i) (h2 : upS X Y j) (h3 : upS X Y k) (k1 : cr X Y i j ≤ 0) (k2 : 0 < cr X Y j k) : cr X Y i k < 0 := by
  have := up_trans (low_neg h h1) h2 h3 (by unfold cr at k1; rw [Int.neg_mul, Int.neg_mul]; omega) k2
  rw [Int.neg_mul, Int.neg_mul] at this
  unfold cr
  omega

variable {s m : Nat}

theorem Once.mono_up (h : Once n X Y s m) {i : Nat} (hi : s ≤ i) : ∀ d, i + d + 1 < s + m → 0 < cr X Y i (i + d + 1)
  | 0, _ => h.turn i
  | d + 1, hd => tr_up (h.up i hi (by omega)) (h.up (i + d + 1) (by omega) (by omega)) (h.up (i + (d + 1) + 1) (by omega) (by omega)) (Int.le_of_lt (h.mono_up hi d (by omega))) (h.turn (i + d + 1))

theorem Once.mono_low (h : Once n X Y s m) {i : Nat} (hi : s + m ≤ i) : ∀ d, i + d + 1 < s + n → 0 < cr X Y i (i + d + 1)
  | 0, _ => h.turn i
  | d + 1, hd => tr_low h.turn (h.low i hi (by omega)) (h.low (i + d + 1) (by omega) (by omega)) (h.low (i + (d + 1) + 1) (by omega) (by omega)) (Int.le_of_lt (h.mono_low hi d (by omega))) (h.turn (i + d + 1))

theorem Once.up_lt (h : Once n X Y s m) {i j : Nat} (hi : s ≤ i) (hij : i < j) (hj : j < s + m) : 0 < cr X Y i j := by
  have := h.mono_up hi (j - i - 1) (by omega)
  rwa [show i + (j - i - 1) + 1 = j by omega] at this

theorem Once.low_lt (h : Once n X Y s m) {i j : Nat} (hi : s + m ≤ i) (hij : i < j) (hj : j < s + n) : 0 < cr X Y i j := by
  have := h.mono_low hi (j - i - 1) (by omega)
  rwa [show i + (j - i - 1) + 1 = j by omega] at this

/-- Behind the first side that is not to the left all are to the right. -/
theorem Once.falls (h : Once n X Y s m) {i j : Nat} (hi : s ≤ i) (hi2 : i < s + n) (hij : i < j) (hj : j + 1 < i + n) (hc : cr X Y i j ≤ 0) : cr X Y i (j + 1) < 0 := by
  have hr := h.ring
  have hm := h.m1
  rcases Nat.lt_or_ge i (s + m) with hu | hu
  · -- the side goes up
    have hiu := h.up i hi hu
    rcases Nat.lt_or_ge j (s + m) with h1 | h1
    · have := h.up_lt hi hij h1
      omega
    · rcases Nat.lt_or_ge (j + 1) (s + n) with h2 | h2
      · exact tr_ull h.turn hiu (h.low j h1 (by omega)) (h.low (j + 1) (by omega) h2) hc (h.turn j)
      · have e : j + 1 = (j + 1 - n) + n := by omega
        rw [e, hr.cr_r, cr_anti]
        have := h.up_lt (i := j + 1 - n) (j := i) (by omega) (by omega) hu
        omega
  · have hil := h.low i hu hi2
    rcases Nat.lt_or_ge j (s + n) with h1 | h1
    · have := h.low_lt hu hij h1
      omega
    · have e0 : j = (j - n) + n := by omega
      have e : j + 1 = (j + 1 - n) + n := by omega
      rcases Nat.lt_or_ge (j + 1) (s + n + m) with h2 | h2
      · have u1 : upS X Y j := by rw [e0, hr.up_p]; exact h.up _ (by omega) (by omega)
        have u2 : upS X Y (j + 1) := by rw [e, hr.up_p]; exact h.up _ (by omega) (by omega)
        exact tr_luu h.turn hil u1 u2 hc (h.turn j)
      · rw [e, hr.cr_r, cr_anti]
        have := h.low_lt (i := j + 1 - n) (j := i) (by omega) (by omega) hi2
        omega

/-- The determinant of side i and the way from its end to a point. -/
def ori (X Y : Nat → Int) (i k : Nat) : Int := (X (i + 1) - X i) * (Y k - Y (i + 1)) - (Y (i + 1) - Y i) * (X k - X (i + 1))

theorem ori_step (i k : Nat) : ori X Y i (k + 1) = ori X Y i k + cr X Y i k := by
  unfold ori cr
  grind

theorem Ring.ori_p (h : Ring n X Y) (i k : Nat) : ori X Y i (k + n) = ori X Y i k := by
  unfold ori
  rw [h.px, h.py]

theorem Ring.ori_l (h : Ring n X Y) (i k : Nat) : ori X Y (i + n) k = ori X Y i k := by
  unfold ori
  have e : i + n + 1 = i + 1 + n := by omega
  rw [e, h.px, h.px, h.py, h.py]

theorem ori_self (i : Nat) : ori X Y i i = 0 ∧ ori X Y i (i + 1) = 0 := by
  unfold ori
  grind

/-- All of them are to the right from a place on. -/
theorem Once.falls_on (h : Once n X Y s m) {i j : Nat} (hi : s ≤ i) (hi2 : i < s + n) (hij : i < j) (hc : cr X Y i j ≤ 0) : ∀ d, j + d + 1 < i + n → cr X Y i (j + d + 1) < 0
  | 0, hd => h.falls hi hi2 hij hd hc
  | d + 1, hd => h.falls hi hi2 (by omega) hd (Int.le_of_lt (h.falls_on hi hi2 hij hc d (by omega)))

/-- To the left of a side lie all other points. -/
theorem Once.left (h : Once n X Y s m) {i : Nat} (hi : s ≤ i) (hi2 : i < s + n) : ∀ d, i + d + 2 < i + n → 0 < ori X Y i (i + d + 2) := by
  have hr := h.ring
  -- as long as sides turn left the determinant grows
  have grow : ∀ d, (∀ j, i < j → j ≤ i + d + 1 → 0 < cr X Y i j) → 0 < ori X Y i (i + d + 2) := by
    intro d
    induction d with
    | zero =>
      intro hj
      rw [ori_step (i := i) (k := i + 1), (ori_self i).2]
      have := hj (i + 1) (by omega) (by omega)
      omega
    | succ d ih =>
      intro hj
      rw [show i + (d + 1) + 2 = (i + d + 2) + 1 by omega, ori_step]
      have h1 := ih fun j a b => hj j a (by omega)
      have h2 := hj (i + d + 2) (by omega) (by omega)
      omega
  -- once they turn right it is greater than 0 till the end
  have back : ∀ d, ∀ k, k + d + 1 = i + n → i < k → (∀ j, k ≤ j → j < i + n → cr X Y i j < 0) → 0 < ori X Y i k := by
    intro d
    induction d with
    | zero =>
      intro k hk hik hj
      have h1 := ori_step (X := X) (Y := Y) i k
      rw [show k + 1 = i + n by omega, hr.ori_p, (ori_self i).1] at h1
      have := hj k (by omega) (by omega)
      omega
    | succ d ih =>
      intro k hk hik hj
      have h1 := ori_step (X := X) (Y := Y) i k
      have h2 := ih (k + 1) (by omega) (by omega) fun j a b => hj j (by omega) b
      have := hj k (by omega) (by omega)
      omega
  intro d hd
  by_cases hall : ∀ j, i < j → j ≤ i + d + 1 → 0 < cr X Y i j
  · exact grow d hall
  · obtain ⟨j, hj⟩ := Classical.not_forall.1 hall
    simp only [Classical.not_imp, Int.not_lt] at hj
    obtain ⟨h1, h2, h3⟩ := hj
    refine back (n - d - 3) (i + d + 2) (by omega) (by omega) fun l a b => ?_
    have := h.falls_on hi hi2 h1 h3 (l - j - 1) (by omega)
    rwa [show j + (l - j - 1) + 1 = l by omega] at this

/-- All points to the left of all sides. -/
def Glob (n : Nat) (X Y : Nat → Int) : Prop := ∀ i d, d + 2 < n → 0 < ori X Y i (i + d + 2)

/-- Left turns alone, and once around. -/
def Loc (n : Nat) (X Y : Nat → Int) : Prop := (∀ i, 0 < cr X Y i (i + 1)) ∧ ∃ t, t < n ∧ ¬ upS X Y t ∧ upS X Y (t + 1) ∧ ∀ j, j < n → ¬ upS X Y j → upS X Y (j + 1) → j = t

theorem least_of (P : Nat → Prop) : ∀ N, P N → ∃ d, d ≤ N ∧ P d ∧ ∀ e, e < d → ¬ P e
  | 0, h => ⟨0, by omega, h, fun e he => by omega⟩
  | N + 1, h => by
    by_cases hl : ∃ e, e ≤ N ∧ P e
    · obtain ⟨e, he, hp⟩ := hl
      obtain ⟨d, h1, h2, h3⟩ := least_of (fun x => P x ∧ x ≤ e) e ⟨hp, Nat.le_refl _⟩ |> fun ⟨d, a, b, c⟩ => (⟨d, a, b.1, fun x hx hPx => c x hx ⟨hPx, by omega⟩⟩ : ∃ d, d ≤ e ∧ P d ∧ ∀ x, x < d → ¬ P x)
      exact ⟨d, by omega, h2, h3⟩
    · exact ⟨N + 1, by omega, h, fun e he hp => hl ⟨e, by omega, hp⟩⟩

theorem Loc.once (hr : Ring n X Y) (h : Loc n X Y) : ∃ s m, Once n X Y s m := by
  obtain ⟨ht, t, htn, hlow, hup, huniq⟩ := h
  have hlow2 : ¬ upS X Y (t + n) := fun h => hlow ((hr.up_p t).1 h)
  have hp := hr.pos
  obtain ⟨m, hm1, hm2, hm3⟩ := least_of (fun d => ¬ upS X Y (t + 1 + d)) (n - 1) (by
    rw [show t + 1 + (n - 1) = t + n by omega]
    exact hlow2)
  have hm0 : 1 ≤ m := by
    rcases Nat.lt_or_ge 0 m with h | h
    · exact h
    · exfalso
      have : m = 0 := by omega
      subst this
      exact hm2 hup
  refine ⟨t + 1, m, ⟨hr, hm0, by omega, ht, fun j h1 h2 => ?_, fun j h1 h2 => ?_⟩⟩
  · have := hm3 (j - (t + 1)) (by omega)
    rw [show t + 1 + (j - (t + 1)) = j by omega] at this
    exact Classical.not_not.1 this
  · have key : ∀ d, t + 1 + m + d < t + 1 + n → ¬ upS X Y (t + 1 + m + d) := by
      intro d
      induction d with
      | zero => intro _; exact hm2
      | succ d ih =>
        intro hd hu
        have h1 := ih (by omega)
        rcases Nat.lt_or_ge (t + 1 + m + d) n with h3 | h3
        · have := huniq _ h3 h1 hu
          omega
        · have e1 : t + 1 + m + d = (t + 1 + m + d - n) + n := by omega
          have e2 : t + 1 + m + (d + 1) = (t + 1 + m + d - n + 1) + n := by omega
          rw [e1, hr.up_p] at h1
          rw [e2, hr.up_p] at hu
          have := huniq _ (by omega) h1 hu
          omega
    have := key (j - (t + 1 + m)) (by omega)
    rwa [show t + 1 + m + (j - (t + 1 + m)) = j by omega] at this

theorem Loc.glob (hr : Ring n X Y) (h : Loc n X Y) : Glob n X Y := by
  obtain ⟨s, m, ho⟩ := h.once hr
  have hp := hr.pos
  -- each number has a neighbour in the round from s on
  have key : ∀ q i d, s ≤ i + n * q → i + n * q < s + n → d + 2 < n → 0 < ori X Y i (i + d + 2) := by
    intro q
    induction q with
    | zero => intro i d h1 h2 hd; exact ho.left (by simpa using h1) (by simpa using h2) d (by omega)
    | succ q ih =>
      intro i d h1 h2 hd
      have := ih (i + n) d (by rw [Nat.mul_add] at h1; omega) (by rw [Nat.mul_add] at h2; omega) hd
      rw [hr.ori_l, show i + n + d + 2 = i + d + 2 + n by omega, hr.ori_p] at this
      exact this
  have down : ∀ q i d, s ≤ i → i < s + n * q → d + 2 < n → 0 < ori X Y i (i + d + 2) := by
    intro q
    induction q with
    | zero => intro i d h1 h2; omega
    | succ q ih =>
      intro i d h1 h2 hd
      rcases Nat.lt_or_ge i (s + n) with h3 | h3
      · exact ho.left h1 h3 d (by omega)
      · have := ih (i - n) d (by omega) (by rw [Nat.mul_add] at h2; omega) hd
        rw [← hr.ori_l, ← hr.ori_p, show i - n + n = i by omega, show i - n + d + 2 + n = i + d + 2 by omega] at this
        exact this
  intro i d hd
  rcases Nat.lt_or_ge i s with h1 | h1
  · -- ahead of s
    have up : ∀ q i d, i < s → s ≤ i + n * q → d + 2 < n → 0 < ori X Y i (i + d + 2) := by
      intro q
      induction q with
      | zero => intro i d h1 h2; omega
      | succ q ih =>
        intro i d h1 h2 hd
        have : 0 < ori X Y (i + n) (i + n + d + 2) := by
          rcases Nat.lt_or_ge (i + n) s with h3 | h3
          · exact ih (i + n) d h3 (by rw [Nat.mul_add] at h2; omega) hd
          · exact down 1 (i + n) d h3 (by omega) hd
        rw [hr.ori_l, show i + n + d + 2 = i + d + 2 + n by omega, hr.ori_p] at this
        exact this
    refine up s i d h1 ?_ hd
    have : s * 1 ≤ s * n := Nat.mul_le_mul_left _ (by omega)
    rw [Nat.mul_comm n s]
    omega
  · refine down (i + 1) i d h1 ?_ hd
    have : (i + 1) * 1 ≤ (i + 1) * n := Nat.mul_le_mul_left _ (by omega)
    rw [Nat.mul_comm n (i + 1)]
    omega

theorem Glob.turn (hr : Ring n X Y) (h : Glob n X Y) (i : Nat) : 0 < cr X Y i (i + 1) := by
  have hp := hr.pos
  have := h i 0 (by omega)
  rw [show i + 0 + 2 = (i + 1) + 1 by omega, ori_step, (ori_self i).2] at this
  omega

/-- Where a side that does not go up is followed by one that does there is the least point. -/
theorem Glob.least (hr : Ring n X Y) (h : Glob n X Y) {t : Nat} (hl : ¬ upS X Y t) (hu : upS X Y (t + 1)) : ∀ d, 1 ≤ d → d < n → upV (X (t + 1 + d) - X (t + 1)) (Y (t + 1 + d) - Y (t + 1)) := by
  have ht := h.turn hr
  intro d hd hdn
  have hln := low_neg ht hl
  rcases Nat.lt_or_ge d 2 with h1 | h1
  · have : d = 1 := by omega
    subst this
    exact hu
  · rcases Nat.lt_or_ge d (n - 1) with h2 | h2
    · have o1 := h t (d - 1) (by omega)
      have o2 := h (t + 1) (d - 2) (by omega)
      rw [show t + (d - 1) + 2 = t + 1 + d by omega] at o1
      rw [show t + 1 + (d - 2) + 2 = t + 1 + d by omega] at o2
      rcases Classical.em (upV (X (t + 1 + d) - X (t + 1)) (Y (t + 1 + d) - Y (t + 1))) with hv | hv
      · exact hv
      · exfalso
        have hne : X (t + 1 + d) - X (t + 1) ≠ 0 ∨ Y (t + 1 + d) - Y (t + 1) ≠ 0 := by
          rcases Classical.em (X (t + 1 + d) - X (t + 1) = 0) with g1 | g1
          · rcases Classical.em (Y (t + 1 + d) - Y (t + 1) = 0) with g2 | g2
            · exfalso
              unfold ori at o1
              rw [g1, g2] at o1
              simp at o1
            · exact .inr g2
          · exact .inl g1
        have hw := up_neg hv hne
        have hh := ht t
        unfold upS at hu
        have := up_trans hln hw hu (by unfold ori at o1; rw [neg_mul2]; exact Int.le_of_lt o1) (by unfold ori at o2; grind)
        unfold cr at hh
        rw [Int.neg_mul, Int.neg_mul] at this
        omega
    · have : d = n - 1 := by omega
      subst this
      rw [show t + 1 + (n - 1) = t + n by omega, hr.px, hr.py]
      rw [Int.neg_sub, Int.neg_sub] at hln
      exact hln

theorem up_both {x y : Int} (h1 : upV x y) (h2 : upV (-x) (-y)) : False := by
  unfold upV at h1 h2
  omega

theorem Glob.loc (hr : Ring n X Y) (h : Glob n X Y) : Loc n X Y := by
  have hp := hr.pos
  have ht := h.turn hr
  refine ⟨ht, ?_⟩
  -- there is a place where sides begin to go up
  have hex : ∃ t, t < n ∧ ¬ upS X Y t ∧ upS X Y (t + 1) := by
    rcases Classical.em (∃ t, t < n ∧ ¬ upS X Y t ∧ upS X Y (t + 1)) with g | g
    · exact g
    · exfalso
      have gno : ∀ j, ¬ upS X Y j → ¬ upS X Y (j + 1) := by
        have : ∀ q j, j < n + n * q → ¬ upS X Y j → ¬ upS X Y (j + 1) := by
          intro q
          induction q with
          | zero => intro j hj h1 h2; exact g ⟨j, by simpa using hj, h1, h2⟩
          | succ q ih =>
            intro j hj h1 h2
            rcases Nat.lt_or_ge j n with h3 | h3
            · exact g ⟨j, h3, h1, h2⟩
            · have e1 : j = (j - n) + n := by omega
              have e2 : j + 1 = (j - n + 1) + n := by omega
              rw [e1, hr.up_p] at h1
              rw [e2, hr.up_p] at h2
              exact ih (j - n) (by rw [Nat.mul_add] at hj; omega) h1 h2
        intro j
        refine this j j ?_
        have : j * 1 ≤ j * n := Nat.mul_le_mul_left _ (by omega)
        rw [Nat.mul_comm n j]
        omega
      by_cases ha : ∃ j, ¬ upS X Y j
      · obtain ⟨j, hj⟩ := ha
        -- none goes up behind it
        have all : ∀ d, ¬ upS X Y (j + d) := by
          intro d
          induction d with
          | zero => exact hj
          | succ d ih => exact gno _ ih
        have mono : ∀ d, Y (j + d) ≤ Y j ∧ (Y (j + d) = Y j → X (j + d) ≤ X j ∧ (1 ≤ d → X (j + d) < X j)) := by
          intro d
          induction d with
          | zero => simp
          | succ d ih =>
            have h1 := low_neg ht (all d)
            unfold upV at h1
            rw [← Nat.add_assoc]
            refine ⟨by omega, fun e => ?_⟩
            have h2 : Y (j + d) = Y j := by omega
            have h3 := ih.2 h2
            refine ⟨by omega, fun _ => by omega⟩
        have := (mono n).2 (hr.py j)
        have h2 := this.2 (by omega)
        rw [hr.px] at h2
        omega
      · have all : ∀ j, upS X Y j := fun j => by
          rcases Classical.em (upS X Y j) with h1 | h1
          · exact h1
          · exact absurd ⟨j, h1⟩ ha
        have mono : ∀ d, Y 0 ≤ Y d ∧ (Y d = Y 0 → X 0 ≤ X d ∧ (1 ≤ d → X 0 < X d)) := by
          intro d
          induction d with
          | zero => simp
          | succ d ih =>
            have h1 := all d
            unfold upS upV at h1
            refine ⟨by omega, fun e => ?_⟩
            have h2 : Y d = Y 0 := by omega
            have h3 := ih.2 h2
            refine ⟨by omega, fun _ => by omega⟩
        have e1 := hr.py 0
        have e2 := hr.px 0
        rw [Nat.zero_add] at e1 e2
        have := ((mono n).2 e1).2 (by omega)
        omega
  obtain ⟨t, htn, hl, hu⟩ := hex
  refine ⟨t, htn, hl, hu, fun j hj hjl hju => ?_⟩
  rcases Nat.lt_trichotomy j t with h1 | h1 | h1
  · exfalso
    have a1 := h.least hr hjl hju (t - j) (by omega) (by omega)
    have a2 := h.least hr hl hu (n + j - t) (by omega) (by omega)
    rw [show j + 1 + (t - j) = t + 1 by omega] at a1
    rw [show t + 1 + (n + j - t) = j + 1 + n by omega, hr.px, hr.py] at a2
    refine up_both a1 ?_
    rw [Int.neg_sub, Int.neg_sub]
    exact a2
  · exact h1
  · exfalso
    have a1 := h.least hr hl hu (j - t) (by omega) (by omega)
    have a2 := h.least hr hjl hju (n + t - j) (by omega) (by omega)
    rw [show t + 1 + (j - t) = j + 1 by omega] at a1
    rw [show j + 1 + (n + t - j) = t + 1 + n by omega, hr.px, hr.py] at a2
    refine up_both a1 ?_
    rw [Int.neg_sub, Int.neg_sub]
    exact a2

/-- Both tests of a polygon come to the same. -/
theorem ring_iff (hr : Ring n X Y) : Loc n X Y ↔ Glob n X Y := ⟨fun h => h.glob hr, fun h => h.loc hr⟩

theorem spec_l01In_eq (k : Nat) (n low high : Int) (r : Bool → Option α) : spec_l01In k n low high r = r (inB n low high) := by
  unfold spec_l01In inB
  cases decide (low ≤ n) <;> rfl

theorem spec_l01Fits_eq (k : Nat) (n : Int) (r : Bool → Option α) : spec_l01Fits k n r = r (crd n) := by
  simp only [spec_l01Fits, spec_l01In_eq]; rfl

theorem spec_l01Is_eq (k : Nat) (a b : Int) (r : Bool → Option α) : spec_l01Is k a b r = r (crd a && crd b) := by
  simp only [spec_l01Is, spec_l01Fits_eq]
  cases crd a <;> rfl

theorem impl_in_eq (k : Nat) (n low high : Int) (r : Bool → Option α) : impl_in k n low high r = r (inB n low high) := by
  unfold impl_in inB
  cases decide (low ≤ n) <;> rfl

theorem impl_isCoord_eq (k : Nat) (n : Int) (r : Bool → Option α) : impl_isCoord k n r = r (crd n) := by
  simp only [impl_isCoord, impl_in_eq]; rfl

theorem impl_IsPoint_eq (k : Nat) (a b : Int) (r : Bool → Option α) : impl_IsPoint k a b r = r (crd a && crd b) := by
  simp only [impl_IsPoint, impl_isCoord_eq]
  cases crd a <;> rfl

theorem impl_points_find (k : Nat) (s : List (Int × Int)) (hs : s.length ≤ big) (hk : s.length < k) (r : Bool → Option α) : impl_points k s r = r (s.all fun e => crd e.1 && crd e.2) := by
  unfold impl_points slices_ContainsFunc_impl_Point_impl_Point_1F_impl_points_1 slices_IndexFunc_impl_Point_impl_Point_1F_impl_points_1
  have h := find_loop (α := α) (p := fun e : Int × Int => !(crd e.1 && crd e.2)) (L := slices_IndexFunc_impl_Point_impl_Point_1F_impl_points_1_l2)
    (fun k x i s b r => by simp only [slices_IndexFunc_impl_Point_impl_Point_1F_impl_points_1_l2, impl_points_1, impl_IsPoint_eq]) s k 0 s
  have h0 : ((0 : Nat) : Int) = 0 := rfl
  rw [h0] at h
  rw [h _ _ (by simp) hs (by omega) hk]
  cases hf : s.findIdx? (fun e : Int × Int => !(crd e.1 && crd e.2)) with
  | none =>
    rw [List.findIdx?_eq_none_iff] at hf
    have : (s.all fun e => crd e.1 && crd e.2) = true := List.all_eq_true.2 fun e he => by simpa using hf e he
    simp [this]
  | some j =>
    rw [List.findIdx?_eq_some_iff_getElem] at hf
    obtain ⟨hj, hp, _⟩ := hf
    have : (s.all fun e => crd e.1 && crd e.2) = false := by
      rw [List.all_eq_false]
      exact ⟨s[j], List.getElem_mem hj, by cases h1 : crd s[j].1 <;> cases h2 : crd s[j].2 <;> simp_all⟩
    rw [this]
    simp

theorem spec_l01Rest_eq (k : Nat) (n x : Int) (r : Int → Option α) (hn : 0 < n) (hn2 : n ≤ 1000000000000000000) : spec_l01Rest k n x r = r (x % n) := by
  have h1 : -n < Int.tmod x n := Int.lt_tmod_of_pos x hn
  have h2 : Int.tmod x n < n := Int.tmod_lt_of_pos x hn
  simp only [spec_l01Rest, dec_eq_f (show n ≠ 0 by omega), cond_false]
  rw [w64_of (by omega) (by omega), rest_eq hn]

theorem impl_floor_eq (k : Nat) (a b : Int) (r : Int → Option α) (hb : 0 < b) (ha : -1000000000000000000 ≤ a) (ha2 : a ≤ 1000000000000000000) : impl_floor k a b r = r (a / b) := by
  have hq := tdiv_abs a b
  simp only [impl_floor, dec_eq_f (show b ≠ 0 by omega), cond_false, w64_of (n := Int.tdiv a b) (by omega) (by omega), w64_of (n := Int.tdiv a b - 1) (by omega) (by omega)]
  rw [← tdiv_floor a b hb]
  cases (!decide (Int.tmod a b = 0)) <;> cases (!(decide (a < 0) == decide (b < 0))) <;> rfl

theorem spec_l01Floor_eq (k : Nat) (a b : Int) (r : Int → Option α) (hb : 0 < b) (ha : -1000000000000000000 ≤ a) (ha2 : a ≤ 1000000000000000000) : spec_l01Floor k a b r = r (a / b) := by
  have hq := tdiv_abs a b
  simp only [spec_l01Floor, dec_eq_f (show b ≠ 0 by omega), cond_false, w64_of (n := Int.tdiv a b) (by omega) (by omega), w64_of (n := Int.tdiv a b - 1) (by omega) (by omega)]
  rw [← tdiv_floor a b hb]
  cases (!decide (Int.tmod a b = 0)) <;> cases (!(decide (a < 0) == decide (b < 0))) <;> rfl

theorem impl_mod_eq (k : Nat) (a b : Int) (r : Int → Option α) (hb : 0 < b) (hb2 : b ≤ 1000000000000000000) (ha : -1000000000000000000 ≤ a) (ha2 : a ≤ 1000000000000000000) : impl_mod k a b r = r (a % b) := by
  simp only [impl_mod, impl_floor_eq k a b _ hb ha ha2]
  have h1 := Int.emod_add_mul_ediv a b
  have h2 := Int.emod_nonneg a (b := b) (by omega)
  have h3 := Int.emod_lt_of_pos a hb
  rw [w64_of (n := b * (a / b)) (by omega) (by omega), w64_of (by omega) (by omega)]
  congr 1
  omega

theorem impl_size_eq (k : Nat) (n : Int) (r : Int → Option α) (h0 : -1000000000000000000 ≤ n) (h1 : n ≤ 1000000000000000000) : impl_size k n r = r (max n (-n)) := by
  simp only [impl_size]
  rw [w64_of (by omega) (by omega), Int.zero_sub]

theorem set_mid {β : Type} (pre : List β) (x y : β) (rest : List β) : (pre ++ x :: rest).set pre.length y = pre ++ [y] ++ rest := by
  rw [List.set_append_right _ _ (Nat.le_refl _)]
  simp

theorem laws_eqPoint_eq (k : Nat) (a b c d : Int) (r : Bool → Option α) : laws_eqPoint k a b c d r = r (decide (a = c) && decide (b = d)) := by
  unfold laws_eqPoint
  cases decide (a = c) <;> cases decide (b = d) <;> rfl

theorem eqPointS_l4_same : ∀ (rest : List (Int × Int)) (k i : Nat) (s : List (Int × Int)) b (r : Bool → Option α), s.drop i = rest → s.length ≤ big → i ≤ s.length → rest.length < k → laws_eqPointS_l4 k i s s b r = b s.length s s
  | [], k + 1, i, s, b, r, hd, hb, hi, _ => by
    have h1 := drop_nil hd
    have h2 : i = s.length := by omega
    subst h2
    rw [laws_eqPointS_l4, dec_lt_f (by omega)]
    rfl
  | e :: rest, k + 1, i, s, b, r, hd, hb, hi, hk => by
    obtain ⟨h1, h2, h3⟩ := drop_cons hd
    rw [big_val] at hb
    rw [laws_eqPointS_l4, dec_lt_t (by omega), dec_le_t (by omega), cond_true, Bool.and_true, cond_true, Int.toNat_natCast, h1, Option.bind_some, cond_true]
    have e1 : w64 ((i : Int) + 1) = ((i + 1 : Nat) : Int) := by rw [w64_of (by omega) (by omega)]; omega
    simp only [Option.bind_some, laws_eqPoint_eq, decide_true, Bool.and_true, Bool.not_true, cond_false, e1]
    exact eqPointS_l4_same rest k (i + 1) s b r h2 (by rw [big_val]; omega) (by omega) (by simp at hk; omega)
  | _, 0, _, _, _, _, _, _, _, hk => by omega

theorem eqPointS_same (k : Nat) (s : List (Int × Int)) (r : Bool → Option α) (hs : s.length ≤ big) (hk : s.length < k) : laws_eqPointS k s s r = r true := by
  unfold laws_eqPointS
  have h := eqPointS_l4_same (α := α) s k 0 s (fun _ _ _ => r true) r (by simp) hs (by omega) hk
  simpa using h

def gcdI (a b : Int) : Int := (Int.gcd a b : Int)

theorem gcdI_le {a b B : Int} (ha : -B ≤ a) (ha1 : a ≤ B) (hb : -B ≤ b) (hb1 : b ≤ B) : 0 ≤ gcdI a b ∧ gcdI a b ≤ B := by
  unfold gcdI
  refine ⟨by omega, ?_⟩
  by_cases h : a = 0
  · subst h
    rw [Int.gcd_zero_left]
    omega
  · have := Int.gcd_le_natAbs_left (a := a) b h
    omega

theorem gcdI_pos {a b : Int} (h : a ≠ 0 ∨ b ≠ 0) : 0 < gcdI a b := by
  unfold gcdI
  have : Int.gcd a b ≠ 0 := fun e => by
    rw [Int.gcd_eq_zero_iff] at e
    omega
  omega

theorem gcd_step (a b : Int) : Int.gcd b (Int.tmod a b) = Int.gcd a b := by
  unfold Int.gcd
  rw [Int.natAbs_tmod, Nat.gcd_comm, ← Nat.gcd_rec, Nat.gcd_comm]

theorem tmod_lt_abs (a : Int) {b : Int} (h : b ≠ 0) : (Int.tmod a b).natAbs < b.natAbs := by
  rw [Int.natAbs_tmod]
  exact Nat.mod_lt _ (by omega)

theorem spec_gcd_l1 : ∀ (n k : Nat) (a b : Int) b0 (r0 : Int → Option α), b.natAbs ≤ n → n < k → ∃ g : Int, g.natAbs = Int.gcd a b ∧ spec_l01Gcd_l1 k a b b0 r0 = b0 g 0
  | n, k + 1, a, b, b0, r0, hn, hk => by
    by_cases h : b = 0
    · subst h
      exact ⟨a, by simp, by simp [spec_l01Gcd_l1]⟩
    · cases n with
      | zero => omega
      | succ n =>
        have := tmod_lt_abs a h
        obtain ⟨g, h1, h2⟩ := spec_gcd_l1 n k b (Int.tmod a b) b0 r0 (by omega) (by omega)
        refine ⟨g, by rw [h1, gcd_step], ?_⟩
        rw [spec_l01Gcd_l1, dec_eq_f h]
        exact h2
  | _, 0, _, _, _, _, _, hk => by omega

theorem impl_gcd_l1_ok : ∀ (n k : Nat) (a b : Int) b0 (r0 : Int → Option α), b.natAbs ≤ n → n < k → ∃ g : Int, g.natAbs = Int.gcd a b ∧ impl_gcd_l1 k a b b0 r0 = b0 g 0
  | n, k + 1, a, b, b0, r0, hn, hk => by
    by_cases h : b = 0
    · subst h
      exact ⟨a, by simp, by simp [impl_gcd_l1]⟩
    · cases n with
      | zero => omega
      | succ n =>
        have := tmod_lt_abs a h
        obtain ⟨g, h1, h2⟩ := impl_gcd_l1_ok n k b (Int.tmod a b) b0 r0 (by omega) (by omega)
        refine ⟨g, by rw [h1, gcd_step], ?_⟩
        rw [impl_gcd_l1, dec_eq_f h]
        exact h2
  | _, 0, _, _, _, _, _, hk => by omega

theorem spec_l01Gcd_eq (k : Nat) (a b : Int) (r : Int → Option α) (ha : -1000000000 ≤ a) (ha1 : a ≤ 1000000000) (hb : -1000000000 ≤ b) (hb1 : b ≤ 1000000000) (hk : 1000000000 < k) : spec_l01Gcd k a b r = r (gcdI a b) := by
  unfold spec_l01Gcd
  obtain ⟨g, h1, h2⟩ := spec_gcd_l1 (α := α) 1000000000 k a b (fun a2 b_2 => r (max a2 (w64 (0 - a2)))) r (by omega) hk
  have hb := gcdI_le ha ha1 hb hb1
  unfold gcdI at hb ⊢
  rw [h2, w64_of (by omega) (by omega)]
  congr 1
  omega

theorem impl_gcd_eq (k : Nat) (a b : Int) (r : Int → Option α) (ha : -1000000000 ≤ a) (ha1 : a ≤ 1000000000) (hb : -1000000000 ≤ b) (hb1 : b ≤ 1000000000) (hk : 1000000000 < k) : impl_gcd k a b r = r (gcdI a b) := by
  unfold impl_gcd
  obtain ⟨g, h1, h2⟩ := impl_gcd_l1_ok (α := α) 1000000000 k a b (fun a2 b_2 => impl_size k a2 fun v => r v) r (by omega) hk
  have hb := gcdI_le ha ha1 hb hb1
  unfold gcdI at hb ⊢
  rw [h2, impl_size_eq _ _ _ (by omega) (by omega)]
  congr 1
  omega

/-- A point's primitive one. -/
def prim (a b : Int) : Int × Int := (Int.tdiv a (gcdI a b), Int.tdiv b (gcdI a b))

theorem spec_l01Part_eq (k : Nat) (a b : Int) (r : Int → Int → Option α) (ha : -1000000000 ≤ a) (ha1 : a ≤ 1000000000) (hb : -1000000000 ≤ b) (hb1 : b ≤ 1000000000) (hk : 1000000000 < k) (h : a ≠ 0 ∨ b ≠ 0) : spec_l01Part k a b r = r (prim a b).1 (prim a b).2 := by
  have hp := gcdI_pos h
  have h1 := tdiv_abs a (gcdI a b)
  have h2 := tdiv_abs b (gcdI a b)
  unfold spec_l01Part prim
  rw [spec_l01Gcd_eq k a b _ ha ha1 hb hb1 hk]
  simp only
  rw [dec_eq_f (show gcdI a b ≠ 0 by omega), w64_of (by omega) (by omega), w64_of (by omega) (by omega)]
  rfl

theorem impl_primitive_eq (k : Nat) (a b : Int) (r : Int → Int → Option α) (ha : -1000000000 ≤ a) (ha1 : a ≤ 1000000000) (hb : -1000000000 ≤ b) (hb1 : b ≤ 1000000000) (hk : 1000000000 < k) (h : a ≠ 0 ∨ b ≠ 0) : impl_Point_primitive k a b r = r (prim a b).1 (prim a b).2 := by
  have hp := gcdI_pos h
  have h1 := tdiv_abs a (gcdI a b)
  have h2 := tdiv_abs b (gcdI a b)
  unfold impl_Point_primitive impl_Point_length prim
  rw [impl_gcd_eq k a b _ ha ha1 hb hb1 hk]
  simp only
  rw [dec_eq_f (show gcdI a b ≠ 0 by omega), w64_of (by omega) (by omega), w64_of (by omega) (by omega)]
  rfl

theorem less_w {a b : Int} (ha : -1000000000 ≤ a) (ha1 : a ≤ 1000000000) (hb : -1000000000 ≤ b) (hb1 : b ≤ 1000000000) : w64 (a + w64 (-1 * b)) = a - b := by
  rw [w64_of (n := -1 * b) (by omega) (by omega), w64_of (by omega) (by omega)]
  omega

theorem spec_less_eq (k : Nat) (a b c d : Int) (r : Int → Int → Option α) (ha : -1000000000 ≤ a ∧ a ≤ 1000000000) (hb : -1000000000 ≤ b ∧ b ≤ 1000000000) (hc : -1000000000 ≤ c ∧ c ≤ 1000000000) (hd : -1000000000 ≤ d ∧ d ≤ 1000000000) : spec_l01Plus k a b c d (-1) r = r (a - c) (b - d) := by
  unfold spec_l01Plus
  rw [less_w ha.1 ha.2 hc.1 hc.2, less_w hb.1 hb.2 hd.1 hd.2]

theorem impl_less_eq (k : Nat) (a b c d : Int) (r : Int → Int → Option α) (ha : -1000000000 ≤ a ∧ a ≤ 1000000000) (hb : -1000000000 ≤ b ∧ b ≤ 1000000000) (hc : -1000000000 ≤ c ∧ c ≤ 1000000000) (hd : -1000000000 ≤ d ∧ d ≤ 1000000000) : impl_Point_less k a b c d r = r (a - c) (b - d) := by
  unfold impl_Point_less impl_Point_plus
  rw [less_w ha.1 ha.2 hc.1 hc.2, less_w hb.1 hb.2 hd.1 hd.2]

/-- The numbers of a ring of points. -/
def ringX (l : List (Int × Int)) (i : Nat) : Int := (l.getD (i % l.length) (0, 0)).1

def ringY (l : List (Int × Int)) (i : Nat) : Int := (l.getD (i % l.length) (0, 0)).2

theorem ring_of {l : List (Int × Int)} (h : 3 ≤ l.length) : Ring l.length (ringX l) (ringY l) := ⟨h, fun i => by simp [ringX], fun i => by simp [ringY]⟩

theorem ring_get {l : List (Int × Int)} {i : Nat} (h : 0 < l.length) : l[i % l.length]? = some (ringX l i, ringY l i) := by
  have hlt : i % l.length < l.length := Nat.mod_lt _ h
  simp [ringX, ringY, List.getD_eq_getElem?_getD, List.getElem?_eq_getElem hlt]

theorem ring_get' {l : List (Int × Int)} {i : Nat} (h : i < l.length) : l[i]? = some (ringX l i, ringY l i) := by
  have := ring_get (l := l) (i := i) (by omega)
  rwa [Nat.mod_eq_of_lt h] at this

theorem tmod_nat (i n : Nat) (hi : (i : Int) ≤ 1000000000000) (c : Nat) (hc : c ≤ 2) : Int.tmod (w64 ((i : Int) + (c : Int))) (n : Int) = (((i + c) % n : Nat) : Int) := by
  rw [w64_of (by omega) (by omega)]
  have : (i : Int) + (c : Int) = ((i + c : Nat) : Int) := by omega
  rw [this]
  rfl

def sm (x : Int) : Bool := inB x (-1000) 1000

theorem sm_crd {x : Int} (h : sm x = true) : crd x = true := by
  unfold sm at h
  rw [inB_iff] at h
  rw [crd_iff]
  omega

/-- What is looked at from a corner on. -/
def atC (X Y : Nat → Int) (i : Nat) : Bool := sm (X i) && (sm (Y i) && ((crd (X (i + 1)) && crd (Y (i + 1))) && ((crd (X (i + 2)) && crd (Y (i + 2))) && decide (0 < cr X Y i (i + 1)))))

instance (X Y : Nat → Int) (i : Nat) : Decidable (upS X Y i) := by unfold upS; infer_instance

def turnsUp (X Y : Nat → Int) (i : Nat) : Bool := !decide (upS X Y i) && decide (upS X Y (i + 1))

def allF (ok : Nat → Bool) : Nat → Nat → Bool
  | _, 0 => true
  | i, m + 1 => ok i && allF ok (i + 1) m

def cntF (p : Nat → Bool) : Nat → Nat → Int
  | _, 0 => 0
  | i, m + 1 => (bif p i then 1 else 0) + cntF p (i + 1) m

theorem allF_iff {ok : Nat → Bool} : ∀ {m i : Nat}, allF ok i m = true ↔ ∀ j, i ≤ j → j < i + m → ok j = true
  | 0, i => by simp [allF]; intro j h1 h2; omega
  | m + 1, i => by
    simp only [allF, Bool.and_eq_true, allF_iff]
    constructor
    · rintro ⟨h1, h2⟩ j h3 h4
      by_cases e : j = i
      · subst e; exact h1
      · exact h2 j (by omega) (by omega)
    · intro h
      exact ⟨h i (by omega) (by omega), fun j h1 h2 => h j (by omega) (by omega)⟩

theorem cntF_nn {p : Nat → Bool} : ∀ {m i : Nat}, 0 ≤ cntF p i m ∧ cntF p i m ≤ m
  | 0, i => by simp [cntF]
  | m + 1, i => by
    have := cntF_nn (p := p) (m := m) (i := i + 1)
    simp only [cntF]
    cases p i <;> simp <;> omega

theorem cntF_zero {p : Nat → Bool} : ∀ {m i : Nat}, cntF p i m = 0 ↔ ∀ j, i ≤ j → j < i + m → p j = false
  | 0, i => by simp [cntF]; intro j h1 h2; omega
  | m + 1, i => by
    have hn := cntF_nn (p := p) (m := m) (i := i + 1)
    have ih := cntF_zero (p := p) (m := m) (i := i + 1)
    simp only [cntF]
    cases hp : p i with
    | true =>
      simp only [cond_true]
      constructor
      · intro h; omega
      · intro h
        have := h i (by omega) (by omega)
        rw [hp] at this; cases this
    | false =>
      simp only [cond_false, Int.zero_add]
      rw [ih]
      constructor
      · intro h j h1 h2
        by_cases e : j = i
        · subst e; exact hp
        · exact h j (by omega) (by omega)
      · intro h j h1 h2
        exact h j (by omega) (by omega)

theorem cntF_one {p : Nat → Bool} : ∀ {m i : Nat}, cntF p i m = 1 ↔ ∃ t, i ≤ t ∧ t < i + m ∧ p t = true ∧ ∀ j, i ≤ j → j < i + m → p j = true → j = t
  | 0, i => by
    simp only [cntF]
    constructor
    · intro h; omega
    · rintro ⟨t, h1, h2, _⟩; omega
  | m + 1, i => by
    have ih := cntF_one (p := p) (m := m) (i := i + 1)
    have iz := cntF_zero (p := p) (m := m) (i := i + 1)
    simp only [cntF]
    cases hp : p i with
    | true =>
      simp only [cond_true]
      constructor
      · intro h
        have hz := iz.1 (by omega)
        refine ⟨i, by omega, by omega, hp, fun j h1 h2 h3 => ?_⟩
        by_cases e : j = i
        · exact e
        · have := hz j (by omega) (by omega)
          rw [this] at h3; cases h3
      · rintro ⟨t, h1, h2, h3, h4⟩
        have ht := h4 i (by omega) (by omega) hp
        subst ht
        have := iz.2 fun j h5 h6 => by
          cases hj : p j with
          | false => rfl
          | true => have := h4 j (by omega) (by omega) hj; omega
        omega
    | false =>
      simp only [cond_false, Int.zero_add]
      rw [ih]
      constructor
      · rintro ⟨t, h1, h2, h3, h4⟩
        refine ⟨t, by omega, by omega, h3, fun j h5 h6 h7 => ?_⟩
        by_cases e : j = i
        · subst e; rw [hp] at h7; cases h7
        · exact h4 j (by omega) (by omega) h7
      · rintro ⟨t, h1, h2, h3, h4⟩
        have hne : t ≠ i := fun e => by subst e; rw [hp] at h3; cases h3
        exact ⟨t, by omega, by omega, h3, fun j h5 h6 h7 => h4 j (by omega) (by omega) h7⟩

theorem sub_wP {a b : Int} (ha : -1000000 ≤ a ∧ a ≤ 1000000) (hb : -1000000 ≤ b ∧ b ≤ 1000000) : w64 (b + w64 (-1 * a)) = b - a := by
  rw [w64_of (n := -1 * a) (by omega) (by omega), w64_of (by omega) (by omega)]
  omega

theorem det_wP {a b c d : Int} (ha : -2000000 ≤ a ∧ a ≤ 2000000) (hb : -2000000 ≤ b ∧ b ≤ 2000000) (hc : -2000000 ≤ c ∧ c ≤ 2000000) (hd : -2000000 ≤ d ∧ d ≤ 2000000) : w64 (w64 (a * d) - w64 (b * c)) = a * d - b * c := by
  have h1 := mul_bound ha.1 ha.2 hd.1 hd.2
  have h2 := mul_bound hb.1 hb.2 hc.1 hc.2
  rw [w64_of (n := a * d) (by omega) (by omega), w64_of (n := b * c) (by omega) (by omega), w64_of (by omega) (by omega)]

theorem spec_side_eq {a b c d e f : Int} (ha : crd a = true) (hb : crd b = true) (hc : crd c = true) (hd : crd d = true) (he : crd e = true) (hf : crd f = true) (k : Nat) (r : Int → Option α) : spec_l09Side k a b c d e f r = r ((c - a) * (f - d) - (d - b) * (e - c)) := by
  rw [crd_iff] at ha hb hc hd he hf
  simp only [spec_l09Side, spec_l01Plus, spec_l01Det]
  rw [sub_wP ha hc, sub_wP hb hd, sub_wP hc he, sub_wP hd hf, det_wP (by omega) (by omega) (by omega) (by omega)]

theorem spec_half_eq (x y : Int) (k : Nat) (r : Int → Option α) : spec_l09Half k x y r = r (if upV x y then 0 else 1) := by
  simp only [spec_l09Half]
  by_cases h : 0 < y
  · simp [h, upV]
  · by_cases h0 : y = 0
    · subst h0
      by_cases h1 : 0 < x
      · simp [h1, upV]
      · simp [h1, upV]
    · simp [h, h0, upV]

theorem spec_l6 {l : List (Int × Int)} (hl : 3 ≤ l.length) (hl2 : l.length ≤ 12) : ∀ (m k i : Nat) (t : Int) (r : Bool → Option α), i + m = l.length → m < k → 0 ≤ t → t ≤ i →
    spec_l09Is_l6 k l.length t i l (fun _ t _ _ => r (decide (t = 1))) r = r (allF (atC (ringX l) (ringY l)) i m && decide (t + cntF (turnsUp (ringX l) (ringY l)) i m = 1))
  | 0, k + 1, i, t, r, hi, _, _, _ => by
    rw [spec_l09Is_l6, dec_lt_f (by omega)]
    simp [allF, cntF]
  | m + 1, k + 1, i, t, r, hi, hk, h0, h1 => by
    have e1 := tmod_nat i l.length (by omega) 1 (by omega)
    have e2 := tmod_nat i l.length (by omega) 2 (by omega)
    simp only [Int.cast_ofNat_Int] at e1 e2
    have b1 : (i + 1) % l.length < l.length := Nat.mod_lt _ (by omega)
    have b2 : (i + 2) % l.length < l.length := Nat.mod_lt _ (by omega)
    have g0 := ring_get' (l := l) (i := i) (by omega)
    have g1 := ring_get (l := l) (i := i + 1) (by omega)
    have g2 := ring_get (l := l) (i := i + 2) (by omega)
    have hn : decide ((l.length : Int) = 0) = false := decide_eq_false (by omega)
    have en : w64 ((i : Int) + 1) = (i : Int) + 1 := w64_of (by omega) (by omega)
    have et : w64 (t + 1) = t + 1 := w64_of (by omega) (by omega)
    rw [spec_l09Is_l6, dec_lt_t (by omega), dec_le_t (by omega), cond_true, Bool.and_true, cond_true, Int.toNat_natCast, g0, Option.bind_some, hn, cond_false]
    simp only [e1, e2, cond_false, Int.toNat_natCast, g1, g2, Option.bind_some, dec_le_t (Int.natCast_nonneg ((i + 1) % l.length)), dec_le_t (Int.natCast_nonneg ((i + 2) % l.length)), dec_lt_t (Int.ofNat_lt.2 b1), dec_lt_t (Int.ofNat_lt.2 b2), Bool.and_self, cond_true, spec_l01In_eq, spec_l01Is_eq, allF, cntF, atC]
    cases s0 : sm (ringX l i) with
    | false => unfold sm at s0; simp [s0]
    | true =>
      cases s1 : sm (ringY l i) with
      | false => unfold sm at s0 s1; simp [s0, s1]
      | true =>
        have c0 := sm_crd s0
        have c1 := sm_crd s1
        unfold sm at s0 s1
        cases c2 : (crd (ringX l (i + 1)) && crd (ringY l (i + 1))) with
        | false => simp [s0, s1]
        | true =>
          cases c3 : (crd (ringX l (i + 2)) && crd (ringY l (i + 2))) with
          | false => simp [s0, s1]
          | true =>
            simp only [Bool.and_eq_true] at c2 c3
            simp only [s0, s1, Bool.not_true, cond_false, Bool.true_and]
            rw [spec_side_eq c0 c1 c2.1 c2.2 c3.1 c3.2]
            have ec : (ringX l (i + 1) - ringX l i) * (ringY l (i + 2) - ringY l (i + 1)) - (ringY l (i + 1) - ringY l i) * (ringX l (i + 2) - ringX l (i + 1)) = cr (ringX l) (ringY l) i (i + 1) := rfl
            rw [ec]
            rcases ilt_or_ge 0 (cr (ringX l) (ringY l) i (i + 1)) with hc | hc
            · rw [dec_le_f hc, dec_lt_t hc, cond_false, Bool.true_and]
              have k0 := crd_iff.1 c0
              have k1 := crd_iff.1 c1
              have k2 := crd_iff.1 c2.1
              have k3 := crd_iff.1 c2.2
              have k4 := crd_iff.1 c3.1
              have k5 := crd_iff.1 c3.2
              simp only [spec_l01Plus, spec_half_eq]
              rw [sub_wP k0 k2, sub_wP k1 k3, sub_wP k2 k4, sub_wP k3 k5, et, en]
              have u0 : upV (ringX l (i + 1) - ringX l i) (ringY l (i + 1) - ringY l i) ↔ upS (ringX l) (ringY l) i := Iff.rfl
              have u1 : upV (ringX l (i + 2) - ringX l (i + 1)) (ringY l (i + 2) - ringY l (i + 1)) ↔ upS (ringX l) (ringY l) (i + 1) := Iff.rfl
              have ih1 := spec_l6 hl hl2 m k (i + 1) (t + 1) r (by omega) (by omega) (by omega) (by omega)
              have ih2 := spec_l6 hl hl2 m k (i + 1) t r (by omega) (by omega) h0 (by omega)
              rw [show ((i + 1 : Nat) : Int) = (i : Int) + 1 by omega] at ih1 ih2
              by_cases p0 : upS (ringX l) (ringY l) i
              · rw [if_pos (u0.2 p0)]
                simp [ih2, turnsUp, p0]
              · rw [if_neg fun h => p0 (u0.1 h)]
                by_cases p1 : upS (ringX l) (ringY l) (i + 1)
                · rw [if_pos (u1.2 p1)]
                  simp [ih1, turnsUp, p0, p1, Int.add_assoc]
                · rw [if_neg fun h => p1 (u1.1 h)]
                  simp [ih2, turnsUp, p0, p1]
            · rw [dec_le_t hc, dec_lt_f hc, cond_true, Bool.false_and, Bool.false_and]
  | _, 0, _, _, _, _, hk, _, _ => by omega

def polyB (l : List (Int × Int)) : Bool := inB (l.length : Int) 3 12 && (l.all (fun e => sm e.1 && sm e.2) && (allF (fun i => decide (0 < cr (ringX l) (ringY l) i (i + 1))) 0 l.length && decide (cntF (turnsUp (ringX l) (ringY l)) 0 l.length = 1)))

theorem small_iff {l : List (Int × Int)} (h : 0 < l.length) : (l.all (fun e => sm e.1 && sm e.2) = true) ↔ ∀ i, sm (ringX l i) = true ∧ sm (ringY l i) = true := by
  rw [List.all_eq_true]
  constructor
  · intro ha i
    have hg := ring_get (l := l) (i := i) h
    have := ha _ (List.mem_of_getElem? hg)
    simpa using this
  · intro ha e he
    obtain ⟨i, hi, rfl⟩ := List.mem_iff_getElem.1 he
    have hg := ring_get' hi
    rw [List.getElem?_eq_getElem hi] at hg
    have := Option.some.inj hg
    rw [this]
    simpa using ha i

theorem spec_is_eq (k : Nat) (hk : 13 < k) (l : List (Int × Int)) (r : Bool → Option α) : spec_l09Is k l r = r (polyB l) := by
  simp only [spec_l09Is, polyB, inB]
  rcases ilt_or_ge (l.length : Int) 3 with h | h
  · rw [dec_lt_t h, dec_le_f h]; rfl
  · rw [dec_lt_f h, dec_le_t h, cond_false]
    rcases ilt_or_ge 12 (l.length : Int) with h2 | h2
    · rw [dec_lt_t h2, dec_le_f h2]; rfl
    · rw [dec_lt_f h2, dec_le_t h2, cond_false, Bool.and_self, Bool.true_and]
      have e := spec_l6 (α := α) (l := l) (by omega) (by omega) l.length k 0 0 r (by omega) (by omega) (by omega) (by omega)
      rw [Int.zero_add] at e
      refine Eq.trans e ?_
      congr 1
      rw [Bool.eq_iff_iff, Bool.and_eq_true, Bool.and_eq_true, Bool.and_eq_true, ← and_assoc]
      refine and_congr_left fun _ => ?_
      rw [allF_iff, allF_iff, small_iff (by omega)]
      constructor
      · intro ha
        have hs : ∀ i, i < l.length → sm (ringX l i) = true ∧ sm (ringY l i) = true := fun i hi => by
          have := ha i (by omega) (by omega)
          simp only [atC, Bool.and_eq_true] at this
          exact ⟨this.1, this.2.1⟩
        refine ⟨fun i => ?_, fun j h3 h4 => ?_⟩
        · have := hs (i % l.length) (Nat.mod_lt _ (by omega))
          simpa [ringX, ringY] using this
        · have := ha j h3 h4
          simp only [atC, Bool.and_eq_true] at this
          exact this.2.2.2.2
      · rintro ⟨hs, hc⟩ j h3 h4
        simp only [atC, Bool.and_eq_true]
        exact ⟨(hs j).1, (hs j).2, ⟨sm_crd (hs (j + 1)).1, sm_crd (hs (j + 1)).2⟩, ⟨sm_crd (hs (j + 2)).1, sm_crd (hs (j + 2)).2⟩, hc j h3 h4⟩

def farOK (l : List (Int × Int)) (i j : Nat) : Bool := decide (j = i) || (decide (j = (i + 1) % l.length) || decide (0 < ori (ringX l) (ringY l) i j))

theorem plus_eq {a b c d : Int} (ha : crd a = true) (hb : crd b = true) (hc : crd c = true) (hd : crd d = true) (k : Nat) (r : Int → Int → Option α) : impl_Point_less k a b c d r = r (a - c) (b - d) := by
  rw [crd_iff] at ha hb hc hd
  simp only [impl_Point_less, impl_Point_plus]
  rw [sub_wP hc ha, sub_wP hd hb]

theorem impl_turn_eq {a b c d e f : Int} (ha : crd a = true) (hb : crd b = true) (hc : crd c = true) (hd : crd d = true) (he : crd e = true) (hf : crd f = true) (k : Nat) (r : Int → Option α) : impl_turn k a b c d e f r = r ((c - a) * (f - d) - (d - b) * (e - c)) := by
  simp only [impl_turn, impl_det]
  rw [plus_eq hc hd ha hb, plus_eq he hf hc hd]
  rw [crd_iff] at ha hb hc hd he hf
  rw [det_wP (by omega) (by omega) (by omega) (by omega)]

theorem impl_l6 {l : List (Int × Int)} (hl : 3 ≤ l.length) (hl2 : l.length ≤ 12) (hs : ∀ i, sm (ringX l i) = true ∧ sm (ringY l i) = true) (i : Nat) (hi : i < l.length) : ∀ (m k j : Nat) (x : Int) b (r : Bool → Option α), j + m = l.length → m < k →
    impl_polygon_convex_l6 k i x i l.length j l (ringX l i) (ringY l i) (ringX l (i + 1)) (ringY l (i + 1)) b r = bif allF (farOK l i) j m then b i x i l.length l.length l (ringX l i) (ringY l i) (ringX l (i + 1)) (ringY l (i + 1)) else r false
  | 0, k + 1, j, x, b, r, hj, _ => by
    have : j = l.length := by omega
    subst this
    rw [impl_polygon_convex_l6, dec_lt_f (by omega)]
    rfl
  | m + 1, k + 1, j, x, b, r, hj, hk => by
    have e1 := tmod_nat i l.length (by omega) 1 (by omega)
    simp only [Int.natCast_one] at e1
    have g0 := ring_get' (l := l) (i := j) (by omega)
    have hn : decide ((l.length : Int) = 0) = false := decide_eq_false (by omega)
    have en : w64 ((j : Int) + 1) = ((j + 1 : Nat) : Int) := by rw [w64_of (by omega) (by omega)]; omega
    have ih := impl_l6 hl hl2 hs i hi m k (j + 1) x b r (by omega) (by omega)
    have d1 : decide ((j : Int) = (i : Int)) = decide (j = i) := decide_eq_decide.2 (by omega)
    have d2 : decide ((j : Int) = (((i + 1) % l.length : Nat) : Int)) = decide (j = (i + 1) % l.length) := decide_eq_decide.2 (by omega)
    rw [impl_polygon_convex_l6, dec_lt_t (by omega), dec_le_t (by omega), cond_true, Bool.and_true, cond_true, Int.toNat_natCast, g0, Option.bind_some, hn, e1, d1, d2, en, ih]
    simp only [allF, farOK, cond_false]
    cases decide (j = i) with
    | true => simp
    | false =>
      cases decide (j = (i + 1) % l.length) with
      | true => simp
      | false =>
        simp only [Bool.not_false, cond_true, Bool.false_or]
        rw [impl_turn_eq (sm_crd (hs i).1) (sm_crd (hs i).2) (sm_crd (hs (i + 1)).1) (sm_crd (hs (i + 1)).2) (sm_crd (hs j).1) (sm_crd (hs j).2)]
        have ec : (ringX l (i + 1) - ringX l i) * (ringY l j - ringY l (i + 1)) - (ringY l (i + 1) - ringY l i) * (ringX l j - ringX l (i + 1)) = ori (ringX l) (ringY l) i j := rfl
        rw [ec]
        rcases ilt_or_ge 0 (ori (ringX l) (ringY l) i j) with hc | hc
        · rw [dec_le_f hc, dec_lt_t hc, Bool.true_and]; rfl
        · rw [dec_le_t hc, dec_lt_f hc, Bool.false_and]; rfl
  | _, 0, _, _, _, _, _, hk => by omega

theorem impl_l2 {l : List (Int × Int)} (hl : 3 ≤ l.length) (hl2 : l.length ≤ 12) (hs : ∀ i, sm (ringX l i) = true ∧ sm (ringY l i) = true) : ∀ (m k i : Nat) (r : Bool → Option α), i + m = l.length → m + 13 < k →
    impl_polygon_convex_l2 k l.length i l (fun _ _ _ => r true) r = r (allF (fun i => allF (farOK l i) 0 l.length) i m)
  | 0, k + 1, i, r, hi, _ => by
    rw [impl_polygon_convex_l2, dec_lt_f (by omega)]
    rfl
  | m + 1, k + 1, i, r, hi, hk => by
    have e1 := tmod_nat i l.length (by omega) 1 (by omega)
    simp only [Int.natCast_one] at e1
    have b1 : (i + 1) % l.length < l.length := Nat.mod_lt _ (by omega)
    have g0 := ring_get' (l := l) (i := i) (by omega)
    have g1 := ring_get (l := l) (i := i + 1) (by omega)
    have hn : decide ((l.length : Int) = 0) = false := decide_eq_false (by omega)
    have en : w64 ((i : Int) + 1) = ((i + 1 : Nat) : Int) := by rw [w64_of (by omega) (by omega)]; omega
    have ih := impl_l2 hl hl2 hs m k (i + 1) r (by omega) (by omega)
    rw [impl_polygon_convex_l2, dec_lt_t (by omega), dec_le_t (by omega), cond_true, Bool.and_true, cond_true, Int.toNat_natCast, g0, Option.bind_some]
    simp only [impl_polygon_next, hn, cond_false, e1, Int.toNat_natCast, g1, Option.bind_some, dec_le_t (Int.natCast_nonneg ((i + 1) % l.length)), dec_lt_t (Int.ofNat_lt.2 b1), Bool.and_self, cond_true]
    have h6 := impl_l6 (α := α) hl hl2 hs i (by omega) l.length k 0 l.length (fun i1 x6 x7 x8 x9 p_3 a2 a3 b_2 b_3 => impl_polygon_convex_l2 k x6 (w64 (x7 + 1)) p_3 (fun _ _ _ => r true) r) r (by omega) (by omega)
    rw [Int.natCast_zero] at h6
    rw [h6, en, ih]
    simp only [allF]
    cases allF (farOK l i) 0 l.length <;> rfl
  | _, 0, _, _, _, hk => by omega

theorem glob_iff {l : List (Int × Int)} (hl : 3 ≤ l.length) : allF (fun i => allF (farOK l i) 0 l.length) 0 l.length = true ↔ Glob l.length (ringX l) (ringY l) := by
  have hr := ring_of hl
  rw [allF_iff]
  constructor
  · intro h i
    induction i using Nat.strongRecOn with
    | ind i ih =>
      intro d hd
      rcases Nat.lt_or_ge i l.length with hi | hi
      · have := allF_iff.1 (h i (by omega) (by omega))
        rcases Nat.lt_or_ge (i + d + 2) l.length with hj | hj
        · have := this (i + d + 2) (by omega) (by omega)
          rw [farOK, Bool.or_eq_true, Bool.or_eq_true, decide_eq_true_eq, decide_eq_true_eq, decide_eq_true_eq, Nat.mod_eq_of_lt (show i + 1 < l.length by omega)] at this
          rcases this with h1 | h1 | h1
          · omega
          · omega
          · exact h1
        · have := this (i + d + 2 - l.length) (by omega) (by omega)
          rw [farOK, Bool.or_eq_true, Bool.or_eq_true, decide_eq_true_eq, decide_eq_true_eq, decide_eq_true_eq] at this
          rcases this with h1 | h1 | h1
          · omega
          · rcases Nat.lt_or_ge (i + 1) l.length with h2 | h2
            · rw [Nat.mod_eq_of_lt h2] at h1; omega
            · have : i + 1 = l.length := by omega
              rw [this, Nat.mod_self] at h1; omega
          · have e := hr.ori_p i (i + d + 2 - l.length)
            rw [show i + d + 2 - l.length + l.length = i + d + 2 by omega] at e
            rw [e]; exact h1
      · have := ih (i - l.length) (by omega) d hd
        have e1 := hr.ori_l (i - l.length) (i + d + 2)
        have e2 := hr.ori_p (i - l.length) (i - l.length + d + 2)
        rw [show i - l.length + l.length = i by omega] at e1
        rw [show i - l.length + d + 2 + l.length = i + d + 2 by omega] at e2
        rw [e1, e2]; exact this
  · intro h i h1 h2
    rw [allF_iff]
    intro j h3 h4
    rw [farOK, Bool.or_eq_true, Bool.or_eq_true, decide_eq_true_eq, decide_eq_true_eq, decide_eq_true_eq]
    by_cases e1 : j = i
    · exact .inl e1
    · by_cases e2 : j = (i + 1) % l.length
      · exact .inr (.inl e2)
      · refine .inr (.inr ?_)
        rcases Nat.lt_or_ge i j with hij | hij
        · have hne : j ≠ i + 1 := fun e => e2 (by rw [Nat.mod_eq_of_lt (by omega)]; exact e)
          have := h i (j - i - 2) (by omega)
          rwa [show i + (j - i - 2) + 2 = j by omega] at this
        · have hne : j + l.length ≠ i + 1 := fun e => e2 (by
            have : i + 1 = l.length := by omega
            rw [this, Nat.mod_self]; omega)
          have := h i (j + l.length - i - 2) (by omega)
          rw [show i + (j + l.length - i - 2) + 2 = j + l.length by omega, hr.ori_p] at this
          exact this

theorem loc_iff {l : List (Int × Int)} (hl : 3 ≤ l.length) : (allF (fun i => decide (0 < cr (ringX l) (ringY l) i (i + 1))) 0 l.length = true ∧ cntF (turnsUp (ringX l) (ringY l)) 0 l.length = 1) ↔ Loc l.length (ringX l) (ringY l) := by
  have hr := ring_of hl
  rw [allF_iff, cntF_one, Loc]
  refine and_congr ⟨fun h i => ?_, fun h j _ _ => decide_eq_true (h j)⟩ ⟨?_, ?_⟩
  · induction i using Nat.strongRecOn with
    | ind i ih =>
      rcases Nat.lt_or_ge i l.length with hi | hi
      · exact of_decide_eq_true (h i (by omega) (by omega))
      · have := ih (i - l.length) (by omega)
        have e1 := hr.cr_l (i - l.length) (i + 1)
        have e2 := hr.cr_r (i - l.length) (i - l.length + 1)
        rw [show i - l.length + l.length = i by omega] at e1
        rw [show i - l.length + 1 + l.length = i + 1 by omega] at e2
        rw [e1, e2]; exact this
  · rintro ⟨t, h1, h2, h3, h4⟩
    simp only [turnsUp, Bool.and_eq_true, Bool.not_eq_true', decide_eq_false_iff_not, decide_eq_true_eq] at h3 h4
    exact ⟨t, by omega, h3.1, h3.2, fun j hj a b => h4 j (by omega) (by omega) ⟨a, b⟩⟩
  · rintro ⟨t, h1, h2, h3, h4⟩
    refine ⟨t, by omega, by omega, ?_, fun j _ hj hp => ?_⟩
    · simp [turnsUp, h2, h3]
    · simp only [turnsUp, Bool.and_eq_true, Bool.not_eq_true', decide_eq_false_iff_not, decide_eq_true_eq] at hp
      exact h4 j (by omega) hp.1 hp.2

theorem impl_is_eq (k : Nat) (hk : 30 < k) (l : List (Int × Int)) (r : Bool → Option α) : impl_IsPolygon k l r = r (polyB l) := by
  simp only [impl_IsPolygon, impl_in_eq, polyB]
  cases hin : inB (l.length : Int) 3 12 with
  | false => rfl
  | true =>
    rw [inB_iff] at hin
    simp only [Bool.not_true, cond_false, Bool.true_and]
    unfold slices_ContainsFunc_impl_Point_impl_Point_1F_impl_IsPolygon_1 slices_IndexFunc_impl_Point_impl_Point_1F_impl_IsPolygon_1
    have h := find_loop (α := α) (p := fun e : Int × Int => !(sm e.1 && sm e.2)) (L := slices_IndexFunc_impl_Point_impl_Point_1F_impl_IsPolygon_1_l2)
      (fun k x i s b r => by
        simp only [slices_IndexFunc_impl_Point_impl_Point_1F_impl_IsPolygon_1_l2, impl_IsPolygon_1, impl_small, impl_in_eq]
        congr 1; congr 1; congr 1; funext e
        unfold sm
        cases inB e.1 (-1000) 1000 <;> cases inB e.2 (-1000) 1000 <;> rfl) l k 0 l
    rw [Int.natCast_zero] at h
    rw [h _ _ (by simp) (by rw [big_val]; omega) (by omega) (by omega)]
    cases hf : l.findIdx? (fun e : Int × Int => !(sm e.1 && sm e.2)) with
    | some j =>
      rw [List.findIdx?_eq_some_iff_getElem] at hf
      obtain ⟨hj, hp, _⟩ := hf
      have : (l.all fun e => sm e.1 && sm e.2) = false := by
        rw [List.all_eq_false]
        exact ⟨l[j], List.getElem_mem hj, by
          intro h
          have h' : (sm l[j].1 && sm l[j].2) = true := h
          have hp' : (!(sm l[j].1 && sm l[j].2)) = true := hp
          rw [h'] at hp'
          cases hp'⟩
      rw [this]
      simp
    | none =>
      rw [List.findIdx?_eq_none_iff] at hf
      have hall : (l.all fun e => sm e.1 && sm e.2) = true := List.all_eq_true.2 fun e he => by simpa using hf e he
      have hs := (small_iff (by omega)).1 hall
      rw [hall, Bool.true_and]
      have h2 := impl_l2 (α := α) (l := l) (by omega) (by omega) hs l.length k 0 r (by omega) (by omega)
      rw [Int.natCast_zero] at h2
      simp only [show decide ((0 : Int) ≤ -1) = false from rfl, cond_false, impl_polygon_convex]
      refine h2.trans ?_
      congr 1
      rw [Bool.eq_iff_iff, Bool.and_eq_true, decide_eq_true_eq, glob_iff (by omega), loc_iff (by omega)]
      exact (ring_iff (ring_of (by omega))).symm

theorem toPointS_l3_ok : ∀ (rest : List (Int × Int)) (k : Nat) (pre out : List (Int × Int)) b (r : List (Int × Int) → Option α), out.length = rest.length → pre.length + rest.length ≤ big → rest.length < k →
    laws_toPointS_l3 k pre.length (pre ++ rest) (pre ++ out) b r = b (pre.length + rest.length : Nat) (pre ++ rest) (pre ++ rest)
  | [], k + 1, pre, out, b, r, ho, hb, _ => by
    have : out = [] := List.eq_nil_of_length_eq_zero (by simpa using ho)
    subst this
    rw [laws_toPointS_l3, dec_lt_f (by simp)]
    simp
  | e :: rest, k + 1, pre, [], b, r, ho, hb, _ => by simp at ho
  | e :: rest, k + 1, pre, o :: out, b, r, ho, hb, hk => by
    rw [big_val] at hb
    simp only [List.length_cons] at hb hk ho
    have hl : (pre ++ e :: rest).length = pre.length + (rest.length + 1) := by simp
    have hl2 : (pre ++ o :: out).length = pre.length + (rest.length + 1) := by simp; omega
    have e1 : w64 ((pre.length : Int) + 1) = ((pre ++ [e]).length : Int) := by rw [w64_of (by omega) (by omega)]; simp
    have hg : (pre ++ e :: rest)[pre.length]? = some e := by simp
    have hg2 : (pre ++ o :: out)[pre.length]? = some o := by simp
    rw [laws_toPointS_l3, hl, dec_lt_t (by omega), dec_le_t (by omega), cond_true, Bool.and_true, cond_true, Int.toNat_natCast, hg, Option.bind_some]
    simp only [laws_toPoint]
    rw [hl2, dec_lt_t (by omega), Bool.and_self, cond_true, hg2, Option.bind_some, set_mid, e1]
    have := toPointS_l3_ok rest k (pre ++ [e]) out b r (by omega) (by rw [big_val]; simp; omega) (by omega)
    simp only [List.append_assoc, List.singleton_append, List.length_append, List.length_cons, List.length_nil] at this ⊢
    refine this.trans ?_
    congr 1
    omega
  | _, 0, _, _, _, _, _, _, hk => by omega

theorem toPointS_ok (k : Nat) (l : List (Int × Int)) (r : List (Int × Int) → Option α) (hl : l.length ≤ 1048576) (hk : l.length < k) : laws_toPointS k l r = r l := by
  have hb : l.length ≤ big := by rw [big_val]; omega
  unfold laws_toPointS
  rw [dec_le_t (by omega), dec_le_t (by omega), Bool.and_self, cond_true, Int.toNat_natCast]
  have := toPointS_l3_ok (α := α) l k [] (List.replicate l.length (0, 0)) (fun _ _ o => r o) r (by simp) (by simpa using hb) hk
  simpa using this

theorem polyB_len {l : List (Int × Int)} (h : polyB l = true) : 3 ≤ l.length ∧ l.length ≤ 12 := by
  unfold polyB at h
  rw [Bool.and_eq_true] at h
  have := inB_iff.1 h.1
  omega

theorem sm_b {x : Int} (h : sm x = true) : -1000 ≤ x ∧ x ≤ 1000 := by
  unfold sm at h
  rwa [inB_iff] at h

theorem polyB_small {l : List (Int × Int)} (h : polyB l = true) : ∀ i, sm (ringX l i) = true ∧ sm (ringY l i) = true := by
  have hl := polyB_len h
  unfold polyB at h
  rw [Bool.and_eq_true, Bool.and_eq_true] at h
  exact (small_iff (by omega)).1 h.2.1

theorem euclid_both : ∀ (m : Nat) (n β s u v rest next : Int), (s = 1 ∨ s = -1) → 0 ≤ u → u ≤ n → 0 ≤ v → v ≤ n → 0 ≤ rest → rest ≤ n → 0 ≤ next → next ≤ n → n ≤ 1000000000 → u * next + v * rest = n → n ∣ s * u * β - rest → n ∣ -s * v * β - next → next ≤ m →
    ∃ X g bef : Int, -n ≤ X ∧ X ≤ n ∧ n ∣ X * β - g ∧ g = gcdI rest next ∧ (∀ k, m < k → ∀ a2 a3 p q b0 (r0 : Int → Int → Option α), spec_l01Base_l5 k n (s * u) (-s * v) rest next a2 a3 p q b0 r0 = b0 n X bef g 0 a2 a3 p q) ∧
      (∀ k, m < k → ∀ b0 (r0 : Int → Option α), impl_bezout_l2 k n rest next (s * u) (-s * v) b0 r0 = b0 n g 0 X bef)
  | m, n, β, s, u, v, rest, next, hs, hu, hu2, hv, hv2, hr, hr2, hn, hn2, hb, he, d1, d2, hm => by
    by_cases hz : next = 0
    · subst hz
      refine ⟨s * u, rest, -s * v, ?_, ?_, d1, ?_, fun k hk a2 a3 p q b0 r0 => ?_, fun k hk b0 r0 => ?_⟩
      · rcases hs with rfl | rfl <;> omega
      · rcases hs with rfl | rfl <;> omega
      · unfold gcdI; rw [Int.gcd_zero_right]; omega
      · obtain ⟨k, rfl⟩ : ∃ k', k = k' + 1 := ⟨k - 1, by omega⟩
        rw [spec_l01Base_l5]; rfl
      · obtain ⟨k, rfl⟩ : ∃ k', k = k' + 1 := ⟨k - 1, by omega⟩
        rw [impl_bezout_l2]; rfl
    · have hpos : 0 < next := by omega
      have hq : Int.tdiv rest next = rest / next := Int.tdiv_eq_ediv_of_nonneg hr
      have hq0 : 0 ≤ rest / next := Int.ediv_nonneg hr (by omega)
      have hd := ediv_bounds (a := rest) hpos
      generalize rest / next = t at hq hq0 hd
      have c1 : next * t = t * next := Int.mul_comm _ _
      have tv : 0 ≤ t * v := Int.mul_nonneg hq0 hv
      have e2 : v * (rest - t * next) + (u + t * v) * next = n := by rw [← he]; grind
      have p1 : 0 ≤ v * (rest - t * next) := Int.mul_nonneg hv (by omega)
      have p2 : (u + t * v) * 1 ≤ (u + t * v) * next := Int.mul_le_mul_of_nonneg_left (by omega) (by omega)
      have tn : 0 ≤ t * next := Int.mul_nonneg hq0 hn
      have d2' : n ∣ -s * v * β - next := d2
      have d3 : n ∣ - -s * (u + t * v) * β - (rest - t * next) := by
        have e : - -s * (u + t * v) * β - (rest - t * next) = (s * u * β - rest) - t * (-s * v * β - next) := by grind
        rw [e]
        exact Int.dvd_sub d1 (Int.dvd_trans d2 (Int.dvd_mul_left _ _))
      obtain ⟨X, g, bef, x1, x2, x3, x4, f1, f2⟩ := euclid_both (m - 1) n β (-s) v (u + t * v) next (rest - t * next) (by omega) hv hv2 (by omega) (by omega) hn hn2 (by omega) (by omega) hb e2 d2' d3 (by omega)
      have eb : -s * (-s * v) = -s * -s * v := by grind
      have ex : s * u - t * (-s * v) = - -s * (u + t * v) := by grind
      have w1 : w64 (t * (-s * v)) = t * (-s * v) := by
        have : t * (-s * v) = -s * (t * v) := by grind
        rw [this]
        rcases hs with rfl | rfl
        · exact w64_of (by omega) (by omega)
        · exact w64_of (by omega) (by omega)
      have w2 : w64 (s * u - t * (-s * v)) = - -s * (u + t * v) := by
        rw [ex]
        rcases hs with rfl | rfl
        · exact w64_of (by omega) (by omega)
        · exact w64_of (by omega) (by omega)
      have w3 : w64 (t * next) = t * next := w64_of (by omega) (by omega)
      have w4 : w64 (rest - t * next) = rest - t * next := w64_of (by omega) (by omega)
      have w5 : w64 t = t := by
        have : t * 1 ≤ t * next := Int.mul_le_mul_of_nonneg_left (by omega) hq0
        exact w64_of (by omega) (by omega)
      refine ⟨X, g, bef, x1, x2, x3, ?_, fun k hk a2 a3 p q b0 r0 => ?_, fun k hk b0 r0 => ?_⟩
      · rw [x4]; unfold gcdI
        rw [Int.gcd_sub_mul_right_right, Int.gcd_comm]
      · obtain ⟨k, rfl⟩ : ∃ k', k = k' + 1 := ⟨k - 1, by omega⟩
        rw [spec_l01Base_l5, decide_eq_false hz, Bool.not_false, cond_true, cond_false, hq, w5, w1, w2, w3, w4]
        exact f1 k (by omega) a2 a3 p q b0 r0
      · obtain ⟨k, rfl⟩ : ∃ k', k = k' + 1 := ⟨k - 1, by omega⟩
        rw [impl_bezout_l2, decide_eq_false hz, Bool.not_false, cond_true, cond_false, hq, w5, w1, w2, w3, w4]
        exact f2 k (by omega) b0 r0
  termination_by m => m
  decreasing_by omega

/-- Base point and mate: what both programs hand back. -/
theorem mate_both (k : Nat) (hk : 1000000000 < k) {a b : Int} (h0 : a ≠ 0) (ha : -1000000 ≤ a) (ha1 : a ≤ 1000000) (hb : -1000000 ≤ b) (hb1 : b ≤ 1000000) : ∃ p q : Int, 0 ≤ p ∧ p < a.natAbs ∧ -1000000000001 ≤ q ∧ q ≤ 1000000000001 ∧ (gcdI a b = 1 → a * q - b * p = 1) ∧
    (∀ r : Int → Int → Option α, spec_l01Base k a b r = r p q) ∧ (∀ r : Int → Int → Option α, impl_Point_mate k a b r = r p q) := by
  have hn : max a (w64 (0 - a)) = max a (-a) := by rw [w64_of (by omega) (by omega)]; omega
  generalize hN : max a (-a) = n at hn
  have n0 : 1 ≤ n := by omega
  have n1 : n ≤ 1000000 := by omega
  have r0 := Int.emod_nonneg b (b := n) (by omega)
  have r1 := Int.emod_lt_of_pos b (show 0 < n by omega)
  have d1 : n ∣ 1 * 1 * b - b % n := ⟨b / n, by have := Int.emod_add_mul_ediv b n; omega⟩
  have d2 : n ∣ -1 * 0 * b - n := ⟨-1, by omega⟩
  obtain ⟨X, g, bef, x1, x2, x3, x4, f1, f2⟩ := euclid_both (α := α) 1000000000 n b 1 1 0 (b % n) n (.inl rfl) (by omega) (by omega) (by omega) (by omega) r0 (by omega) (by omega) (by omega) (by omega) (by omega) d1 d2 (by omega)
  rw [show (1 : Int) * 1 = 1 from rfl, show -(1 : Int) * 0 = 0 from rfl] at f1 f2
  have p0 := Int.emod_nonneg (0 - X) (b := n) (by omega)
  have p1 := Int.emod_lt_of_pos (0 - X) (show 0 < n by omega)
  have q0 := Int.emod_nonneg X (b := n) (by omega)
  have q1 := Int.emod_lt_of_pos X (show 0 < n by omega)
  have hm := mul_bound hb hb1 (show -1000000 ≤ (0 - X) % n by omega) (show (0 - X) % n ≤ 1000000 by omega)
  have hq := tdiv_abs (1 + b * ((0 - X) % n)) a
  have epq : (0 - X % n) % n = (0 - X) % n := by
    have e := Int.emod_add_mul_ediv X n
    have : 0 - X % n = (0 - X) + n * (X / n) := by omega
    rw [this, Int.add_mul_emod_self_left]
  refine ⟨(0 - X) % n, Int.tdiv (1 + b * ((0 - X) % n)) a, p0, by omega, by omega, by omega, fun hg => ?_, fun r => ?_, fun r => ?_⟩
  · have eg : g = 1 := by
      rw [x4, ← hg]; unfold gcdI
      have e1 : Int.gcd (b % n) n = Int.gcd b n := by
        rw [Int.emod_def, Int.gcd_sub_mul_left_left]
      have e2 : Int.gcd b n = Int.gcd a b := by
        rw [Int.gcd_comm a b]
        rcases (show n = a ∨ n = -a by omega) with e | e
        · rw [e]
        · rw [e, Int.gcd_neg]
      rw [e1, e2]
    subst eg
    have e3 := Int.emod_add_mul_ediv (0 - X) n
    have hdv : a ∣ 1 + b * ((0 - X) % n) := by
      have hna : a ∣ n := by
        rcases (show n = a ∨ n = -a by omega) with e | e
        · rw [e]; exact Int.dvd_refl _
        · rw [e]; exact (Int.dvd_neg).2 (Int.dvd_refl _)
      obtain ⟨c, hc⟩ := x3
      have e4 : 1 + b * ((0 - X) % n) = n * (-c - b * ((0 - X) / n)) := by
        have e5 : (0 - X) % n = 0 - X - n * ((0 - X) / n) := by omega
        rw [e5]; grind
      rw [e4]
      exact Int.dvd_trans hna (Int.dvd_mul_right _ _)
    have := Int.mul_tdiv_cancel' hdv
    omega
  · unfold spec_l01Base
    rw [decide_eq_false h0, cond_false, hn, spec_l01Rest_eq k n b _ (by omega) (by omega), f1 k hk]
    rw [w64_of (n := 0 - X) (by omega) (by omega), spec_l01Rest_eq k n _ _ (by omega) (by omega)]
    simp only [decide_eq_false h0, cond_false]
    rw [w64_of (n := b * ((0 - X) % n)) (by omega) (by omega), w64_of (n := 1 + b * ((0 - X) % n)) (by omega) (by omega), w64_of (by omega) (by omega)]
  · unfold impl_Point_mate impl_bezout
    rw [decide_eq_false h0, cond_false, impl_size_eq _ _ _ (by omega) (by omega), hN, impl_mod_eq _ _ _ _ (by omega) (by omega) (by omega) (by omega), f2 k hk]
    simp only
    rw [impl_mod_eq _ _ _ _ (by omega) (by omega) (by omega) (by omega), impl_size_eq _ _ _ (by omega) (by omega), hN, w64_of (n := 0 - X % n) (by omega) (by omega), impl_mod_eq _ _ _ _ (by omega) (by omega) (by omega) (by omega), epq]
    simp only [cond_false]
    rw [w64_of (n := b * ((0 - X) % n)) (by omega) (by omega), w64_of (n := 1 + b * ((0 - X) % n)) (by omega) (by omega), w64_of (by omega) (by omega)]

/-- A mate of a primitive point. -/
structure IsMate (a b p q : Int) : Prop where
  det : a * q - b * p = 1
  p0 : a ≠ 0 → 0 ≤ p ∧ p < a.natAbs
  z : a = 0 → p = -b ∧ q = 0
  pb : -1000000 ≤ p ∧ p ≤ 1000000
  qb : -1000000000001 ≤ q ∧ q ≤ 1000000000001

theorem mate_ok (k : Nat) (hk : 1000000000 < k) {a b : Int} (ha : -1000000 ≤ a) (ha1 : a ≤ 1000000) (hb : -1000000 ≤ b) (hb1 : b ≤ 1000000) (hg : gcdI a b = 1) : ∃ p q : Int, IsMate a b p q ∧
    (∀ r : Int → Int → Option α, spec_l01Base k a b r = r p q) ∧ (∀ r : Int → Int → Option α, impl_Point_mate k a b r = r p q) := by
  by_cases h0 : a = 0
  · subst h0
    unfold gcdI at hg
    rw [Int.gcd_zero_left] at hg
    have w : w64 (0 - b) = -b := by rw [w64_of (by omega) (by omega)]; omega
    refine ⟨-b, 0, ⟨?_, fun h => absurd rfl h, fun _ => ⟨rfl, rfl⟩, by omega, by omega⟩, fun r => ?_, fun r => ?_⟩
    · rcases (show b = 1 ∨ b = -1 by omega) with rfl | rfl <;> rfl
    · unfold spec_l01Base; rw [decide_eq_true rfl, cond_true, w]
    · unfold impl_Point_mate; rw [decide_eq_true rfl, cond_true, w]
  · obtain ⟨p, q, h1, h2, h3, h4, h5, h6, h7⟩ := mate_both (α := α) k hk h0 ha ha1 hb hb1
    exact ⟨p, q, ⟨h5 hg, fun _ => ⟨h1, h2⟩, fun e => absurd e h0, by omega, by omega⟩, h6, h7⟩

theorem mate_uniq {a b p q p' q' : Int} (h0 : a ≠ 0) (h : a * q - b * p = 1) (h' : a * q' - b * p' = 1) (b1 : 0 ≤ p ∧ p < a.natAbs) (b2 : 0 ≤ p' ∧ p' < a.natAbs) : p = p' ∧ q = q' := by
  have e : a * (q - q') = b * (p - p') := by grind
  have hd : a ∣ p - p' := by
    have e1 : p - p' = a * (q * (p - p') - p * (q - q')) := by
      have e2 : (a * q - b * p) * (p - p') = p - p' := by rw [h, Int.one_mul]
      grind
    rw [e1]; exact Int.dvd_mul_right _ _
  have hp : p - p' = 0 := Int.eq_zero_of_dvd_of_natAbs_lt_natAbs hd (by omega)
  have hq : a * (q - q') = 0 := by rw [e, hp, Int.mul_zero]
  rcases Int.mul_eq_zero.1 hq with e | e
  · exact absurd e h0
  · omega

/-- The mate. -/
def mateI (a b : Int) : Int × Int := if a = 0 then (-b, 0) else
  match (List.range a.natAbs).find? (fun p : Nat => decide ((1 + b * (p : Int)) % a = 0)) with
  | some p => ((p : Int), (1 + b * (p : Int)) / a)
  | none => (0, 0)

theorem mateI_is {a b p q : Int} (h : IsMate a b p q) : mateI a b = (p, q) := by
  unfold mateI
  split
  · rename_i h0
    have := h.z h0
    rw [this.1, this.2]
  · rename_i h0
    have hp := h.p0 h0
    split
    · rename_i p' hf
      have h1 := List.find?_some hf
      have h2 := List.mem_range.1 (List.mem_of_find?_eq_some hf)
      simp only [decide_eq_true_eq] at h1
      have h3 := Int.mul_ediv_cancel' (Int.dvd_of_emod_eq_zero h1)
      have := mate_uniq h0 h.det (q' := (1 + b * (p' : Int)) / a) (p' := (p' : Int)) (by omega) hp ⟨by omega, by omega⟩
      rw [this.1, this.2]
    · rename_i hf
      have := List.find?_eq_none.1 hf p.toNat (List.mem_range.2 (by omega))
      rw [show ((p.toNat : Nat) : Int) = p by omega] at this
      refine absurd ?_ this
      rw [decide_eq_true_iff, show 1 + b * p = a * q by have := h.det; omega]
      exact Int.mul_emod_right _ _

theorem gcd_prim {a b : Int} (h : a ≠ 0 ∨ b ≠ 0) : gcdI (prim a b).1 (prim a b).2 = 1 := by
  have hp := gcdI_pos h
  unfold prim gcdI at *
  simp only
  have d1 := Int.gcd_dvd_left a b
  have d2 := Int.gcd_dvd_right a b
  rw [Int.tdiv_eq_ediv_of_dvd d1, Int.tdiv_eq_ediv_of_dvd d2, Int.gcd_ediv d1 d2]
  rw [Int.natAbs_natCast, Nat.div_self (by omega)]
  rfl

theorem prim_le {a b B : Int} (ha : -B ≤ a ∧ a ≤ B) (hb : -B ≤ b ∧ b ≤ B) : (-B ≤ (prim a b).1 ∧ (prim a b).1 ≤ B) ∧ -B ≤ (prim a b).2 ∧ (prim a b).2 ≤ B := by
  have h1 := tdiv_abs a (gcdI a b)
  have h2 := tdiv_abs b (gcdI a b)
  unfold prim
  simp only
  omega

theorem prim_mul (a b : Int) : (prim a b).1 * gcdI a b = a ∧ (prim a b).2 * gcdI a b = b := by
  unfold prim gcdI
  exact ⟨Int.tdiv_mul_cancel (Int.gcd_dvd_left a b), Int.tdiv_mul_cancel (Int.gcd_dvd_right a b)⟩

def cmpI (x y : Int) : Int := if x < y then -1 else if y < x then 1 else 0

theorem cmp_Compare_eq (k : Nat) (x y : Int) (r : Int → Option α) : cmp_Compare_int64 k x y r = r (cmpI x y) := by
  simp only [cmp_Compare_int64, cmp_isNaN_int64, decide_true, Bool.not_true, cond_false]
  unfold cmpI
  by_cases h : x < y
  · simp [h]
  · by_cases h2 : y < x <;> simp [h, h2]

/-- Which shape comes ahead. -/
def bef (x y : Int × Int × Int) : Bool := bif !decide (x.1 = y.1) then decide (x.1 < y.1) else bif !decide (x.2.1 = y.2.1) then decide (x.2.1 < y.2.1) else decide (x.2.2 < y.2.2)

theorem code_l2 : ∀ (rest : List (Int × Int)) (k i : Nat) (s : List (Int × Int)) (r : Int → Option α), s.drop i = rest → s.length ≤ big → i ≤ s.length → rest.length < k → spec_l01Code_l2 k i s (fun _ _ => r 0) r = r (if rest.all (fun e => crd e.1 && crd e.2) then 0 else 1)
  | [], k + 1, i, s, r, hd, hb, hi, _ => by
    have := drop_nil hd
    rw [spec_l01Code_l2, dec_lt_f (by omega)]
    simp
  | e :: rest, k + 1, i, s, r, hd, hb, hi, hk => by
    obtain ⟨h1, h2, h3⟩ := drop_cons hd
    rw [big_val] at hb
    have en : w64 ((i : Int) + 1) = ((i + 1 : Nat) : Int) := by rw [w64_of (by omega) (by omega)]; omega
    simp only [List.length_cons] at hk
    rw [spec_l01Code_l2, dec_lt_t (by omega), dec_le_t (by omega), cond_true, Bool.and_true, cond_true, Int.toNat_natCast, h1, Option.bind_some, spec_l01Is_eq]
    cases hc : (crd e.1 && crd e.2) with
    | false => simp [hc]
    | true =>
      rw [Bool.not_true, cond_false, en, code_l2 rest k (i + 1) s r h2 (by rw [big_val]; omega) (by omega) (by omega)]
      simp only [List.all_cons, hc, Bool.true_and]
  | _, 0, _, _, _, _, _, _, hk => by omega

theorem code_eq (k : Nat) (s : List (Int × Int)) (hs : s.length ≤ big) (hk : s.length < k) (r : Int → Option α) : spec_l01Code k s r = r (if s.all (fun e => crd e.1 && crd e.2) then 0 else 1) := by
  have := code_l2 (α := α) s k 0 s r (by simp) hs (by omega) hk
  unfold spec_l01Code
  simpa using this

/-- Which point comes ahead. -/
def ptBef (x y : Int × Int) : Bool := decide (x.1 < y.1) || (decide (x.1 = y.1) && decide (x.2 < y.2))

theorem ptBef_iff {x y : Int × Int} : ptBef x y = true ↔ x.1 < y.1 ∨ (x.1 = y.1 ∧ x.2 < y.2) := by simp [ptBef]

theorem ptBef_trans {x y z : Int × Int} (h1 : ptBef x y = true) (h2 : ptBef y z = true) : ptBef x z = true := by
  rw [ptBef_iff] at *
  omega

theorem ptBef_irr (x : Int × Int) : ptBef x x = false := by simp [ptBef]

theorem ptBef_tri {x y : Int × Int} (h1 : ¬ ptBef x y = true) (h2 : ¬ ptBef y x = true) : x = y := by
  rw [ptBef_iff] at *
  exact Prod.ext (by omega) (by omega)

theorem spec_ptBefore_eq (k : Nat) (a b c d : Int) (r : Bool → Option α) : spec_l09Before k a b c d r = r (ptBef (a, b) (c, d)) := by
  simp only [spec_l09Before, ptBef]
  by_cases h1 : a < c
  · simp [h1]
  · by_cases h2 : a = c <;> simp [h1, h2]

def or2 (a b : Int) : Int := if a ≠ 0 then a else b

theorem cmp_Or2 (k : Nat) (hk : 3 ≤ k) (a b : Int) (r : Int → Option α) : cmp_Or_int k [a, b] r = r (or2 a b) := by
  obtain ⟨k, rfl⟩ : ∃ k', k = k' + 3 := ⟨k - 3, by omega⟩
  have w1 : w64 (0 + 1) = 1 := by decide
  have w2 : w64 (1 + 1) = 2 := by decide
  unfold cmp_Or_int or2
  rw [cmp_Or_int_l3]
  simp only [List.length_cons, List.length_nil, w1]
  by_cases ha : a = 0
  · rw [cmp_Or_int_l3]
    simp only [List.length_cons, List.length_nil, w2]
    by_cases hb : b = 0
    · rw [cmp_Or_int_l3]
      simp [ha, hb]
    · simp [ha, hb]
  · simp [ha]

def ordP (x y : Int × Int) : Int := or2 (cmpI x.1 y.1) (cmpI x.2 y.2)

theorem impl_pointOrder_eq (k : Nat) (hk : 3 ≤ k) (a b c d : Int) (r : Int → Option α) : impl_pointOrder k a b c d r = r (ordP (a, b) (c, d)) := by
  simp only [impl_pointOrder, cmp_Compare_eq]
  rw [cmp_Or2 k hk]
  rfl

theorem ordP_bef (x y : Int × Int) : decide (ordP x y < 0) = ptBef x y := by
  unfold ordP or2 cmpI ptBef
  by_cases h1 : x.1 < y.1
  · simp [h1]
  · by_cases h2 : y.1 < x.1
    · have : x.1 ≠ y.1 := by omega
      simp [h1, h2, this]
    · have e1 : x.1 = y.1 := by omega
      by_cases h3 : x.2 < y.2
      · simp [e1, h3]
      · by_cases h4 : y.2 < x.2 <;> simp [e1, h3, h4]

def gP (l : List (Int × Int)) (i : Nat) : Int × Int := l.getD i (0, 0)

theorem gP_get {l : List (Int × Int)} {i : Nat} (h : i < l.length) : l[i]? = some (gP l i) := by
  simp [gP, List.getD_eq_getElem?_getD, List.getElem?_eq_getElem h]

theorem take_all_sub {l : List (Int × Int)} (n : Nat) : List.take (l.length - n) (List.drop n l) = List.drop n l := List.take_of_length_le (by simp)

theorem concat2_eq (k : Nat) (a b : List (Int × Int)) (h0 : 0 < a.length + b.length) (hl : a.length + b.length ≤ 12) (r : List (Int × Int) → Option α) : slices_Concat_impl_polygon_impl_Point_0M2 k a b r = r (a ++ b) := by
  unfold slices_Concat_impl_polygon_impl_Point_0M2
  simp only [slices_Grow_impl_polygon_impl_Point_0N, Int.zero_add]
  rw [w64_of (n := (a.length : Int)) (by omega) (by omega), w64_of (n := (a.length : Int) + b.length) (by omega) (by omega), Int.sub_zero, w64_of (n := (a.length : Int) + b.length) (by omega) (by omega)]
  have n1 : decide (((a.length : Nat) : Int) < 0) = false := dec_lt_f (by omega)
  have n2 : decide (((a.length : Nat) : Int) + b.length < 0) = false := dec_lt_f (by omega)
  have n3 : decide (0 < ((a.length : Nat) : Int) + b.length) = true := dec_lt_t (by omega)
  have n4 : decide (1 ≤ ((a.length : Nat) : Int) + b.length) = true := dec_le_t (by omega)
  have n5 : decide (((a.length : Nat) : Int) + b.length ≤ (big : Int)) = true := dec_le_t (by rw [big_val]; omega)
  have n6 : decide (a.length ≤ big) = true := dec_nle_t (by rw [big_val]; omega)
  have n7 : decide (a.length + b.length ≤ big) = true := dec_nle_t (by rw [big_val]; omega)
  have n8 : decide (0 ≤ max (((a.length : Nat) : Int) + b.length) 0) = true := dec_le_t (by omega)
  simp [n1, n2, n3, n4, n5, n6, n7, n8]

/-- The determinant of two points. -/
def dt (p q : Int × Int) : Int := p.1 * q.2 - p.2 * q.1

def Crd (p : Int × Int) : Prop := (-1000000 ≤ p.1 ∧ p.1 ≤ 1000000) ∧ (-1000000 ≤ p.2 ∧ p.2 ≤ 1000000)

theorem dt_w {p q : Int × Int} (hp : Crd p) (hq : Crd q) : w64 (w64 (p.1 * q.2) - w64 (p.2 * q.1)) = dt p q := by
  have h1 := mul_bound hp.1.1 hp.1.2 hq.2.1 hq.2.2
  have h2 := mul_bound hp.2.1 hp.2.2 hq.1.1 hq.1.2
  rw [w64_of (n := p.1 * q.2) (by omega) (by omega), w64_of (n := p.2 * q.1) (by omega) (by omega), w64_of (by omega) (by omega)]
  rfl

theorem floor_p (a b : Int) (hb : 0 < b) : -(a.natAbs : Int) ≤ a / b ∧ a / b ≤ a.natAbs := by
  have h := ediv_bounds (a := a) hb
  constructor
  · rcases ilt_or_ge (a / b) (-(a.natAbs : Int)) with hn | hn
    · exfalso
      have h2 : 0 ≤ (b - 1) * (-(a / b) - 1) := Int.mul_nonneg (by omega) (by omega)
      have h3 : (b - 1) * (-(a / b) - 1) = -(b * (a / b)) - b + a / b + 1 := by grind
      omega
    · exact hn
  · rcases ilt_or_ge (a.natAbs : Int) (a / b) with hn | hn
    · exfalso
      have h2 : 0 ≤ (b - 1) * (a / b) := Int.mul_nonneg (by omega) (by omega)
      have h3 : (b - 1) * (a / b) = b * (a / b) - a / b := by grind
      omega
    · exact hn

def Sm (p : Int × Int) : Prop := (-1000 ≤ p.1 ∧ p.1 ≤ 1000) ∧ (-1000 ≤ p.2 ∧ p.2 ≤ 1000)

theorem mate_small (k : Nat) (hk : 1000000000 < k) {u : Int × Int} {B : Int} (hB : 1 ≤ B) (hB2 : B ≤ 1000000) (h1 : -B ≤ u.1 ∧ u.1 ≤ B) (h2 : -B ≤ u.2 ∧ u.2 ≤ B) (hg : gcdI u.1 u.2 = 1) :
    dt u (mateI u.1 u.2) = 1 ∧ ((-B ≤ (mateI u.1 u.2).1 ∧ (mateI u.1 u.2).1 ≤ B) ∧ (-B ≤ (mateI u.1 u.2).2 ∧ (mateI u.1 u.2).2 ≤ B)) ∧
    (∀ r : Int → Int → Option α, spec_l01Base k u.1 u.2 r = r (mateI u.1 u.2).1 (mateI u.1 u.2).2) ∧ (∀ r : Int → Int → Option α, impl_Point_mate k u.1 u.2 r = r (mateI u.1 u.2).1 (mateI u.1 u.2).2) := by
  obtain ⟨p, q, hm, e1, e2⟩ := mate_ok (α := α) k hk (show -1000000 ≤ u.1 by omega) (by omega) (show -1000000 ≤ u.2 by omega) (by omega) hg
  have e := mateI_is hm
  rw [e]
  have hd := hm.det
  refine ⟨by unfold dt; simpa using hd, ?_, e1, e2⟩
  by_cases h0 : u.1 = 0
  · have hz := hm.z h0
    simp only
    rw [hz.1, hz.2]
    omega
  · have hp := hm.p0 h0
    simp only
    have hb := mul_bound h2.1 h2.2 (show -((u.1.natAbs : Int) - 1) ≤ p by omega) (by omega)
    have hm2 : B * ((u.1.natAbs : Int) - 1) = B * (u.1.natAbs : Int) - B := by rw [Int.mul_sub, Int.mul_one]
    have habs : (u.1 * q).natAbs = u.1.natAbs * q.natAbs := Int.natAbs_mul _ _
    have hle : (u.1.natAbs : Int) * (q.natAbs : Int) ≤ (u.1.natAbs : Int) * B := by
      rw [← Int.natCast_mul, ← habs, Int.mul_comm _ B]
      omega
    have := Int.le_of_mul_le_mul_left hle (by omega)
    omega

/-- A list of corners that has a frame. -/
structure Frm (l : List (Int × Int)) : Prop where
  n3 : 3 ≤ l.length
  n12 : l.length ≤ 12
  sm : ∀ e ∈ l, Sm e
  det : dt ((gP l 1).1 - (gP l 0).1, (gP l 1).2 - (gP l 0).2) ((gP l 2).1 - (gP l 1).1, (gP l 2).2 - (gP l 1).2) ≠ 0

def subP (a b : Int × Int) : Int × Int := (a.1 - b.1, a.2 - b.2)

def uF (l : List (Int × Int)) : Int × Int := prim ((gP l 1).1 - (gP l 0).1) ((gP l 1).2 - (gP l 0).2)

def mF (l : List (Int × Int)) : Int × Int := mateI (uF l).1 (uF l).2

def yF (l : List (Int × Int)) : Int := dt (uF l) (subP (gP l 2) (gP l 1))

def xF (l : List (Int × Int)) : Int := dt (subP (gP l 2) (gP l 1)) (mF l)

def wF (l : List (Int × Int)) : Int := if yF l < 0 then -1 else 1

def kF (l : List (Int × Int)) : Int := xF l / max (yF l) (-yF l)

/-- A corner, moved and led. -/
def ledP (l : List (Int × Int)) (e : Int × Int) : Int × Int :=
  (dt (subP e (gP l 0)) (mF l) - kF l * wF l * dt (uF l) (subP e (gP l 0)), wF l * dt (uF l) (subP e (gP l 0)))

def frameL (l : List (Int × Int)) : List (Int × Int) := l.map (ledP l)

theorem gP_mem {l : List (Int × Int)} {i : Nat} (h : i < l.length) : gP l i ∈ l := by
  have := gP_get h
  exact List.mem_of_getElem? this

structure FrmB (l : List (Int × Int)) : Prop where
  u : (-2000 ≤ (uF l).1 ∧ (uF l).1 ≤ 2000) ∧ (-2000 ≤ (uF l).2 ∧ (uF l).2 ≤ 2000)
  m : (-2000 ≤ (mF l).1 ∧ (mF l).1 ≤ 2000) ∧ (-2000 ≤ (mF l).2 ∧ (mF l).2 ≤ 2000)
  ne : (gP l 1).1 - (gP l 0).1 ≠ 0 ∨ (gP l 1).2 - (gP l 0).2 ≠ 0
  y0 : yF l ≠ 0
  par : dt (uF l) (subP (gP l 1) (gP l 0)) = 0

theorem dt_b2 {p q : Int × Int} {A : Int} (hA : 0 ≤ A) (hp : (-A ≤ p.1 ∧ p.1 ≤ A) ∧ (-A ≤ p.2 ∧ p.2 ≤ A)) (hq : (-A ≤ q.1 ∧ q.1 ≤ A) ∧ (-A ≤ q.2 ∧ q.2 ≤ A)) : -(2 * (A * A)) ≤ dt p q ∧ dt p q ≤ 2 * (A * A) := by
  have h1 := mul_bound hp.1.1 hp.1.2 hq.2.1 hq.2.2
  have h2 := mul_bound hp.2.1 hp.2.2 hq.1.1 hq.1.2
  unfold dt
  omega

theorem sub_b {a b : Int × Int} (ha : Sm a) (hb : Sm b) : (-2000 ≤ (subP a b).1 ∧ (subP a b).1 ≤ 2000) ∧ (-2000 ≤ (subP a b).2 ∧ (subP a b).2 ≤ 2000) := by
  have h1 := ha.1
  have h2 := ha.2
  have h3 := hb.1
  have h4 := hb.2
  unfold subP
  simp only
  omega

theorem frm_b (k : Nat) (hk : 1000000000 < k) {l : List (Int × Int)} (h : Frm l) : FrmB l ∧ (∀ r : Int → Int → Option α, spec_l01Base k (uF l).1 (uF l).2 r = r (mF l).1 (mF l).2) ∧ (∀ r : Int → Int → Option α, impl_Point_mate k (uF l).1 (uF l).2 r = r (mF l).1 (mF l).2) := by
  have n3 := h.n3
  have s0 := h.sm _ (gP_mem (l := l) (i := 0) (by omega))
  have s1 := h.sm _ (gP_mem (l := l) (i := 1) (by omega))
  have hs := sub_b s1 s0
  have hne : (gP l 1).1 - (gP l 0).1 ≠ 0 ∨ (gP l 1).2 - (gP l 0).2 ≠ 0 := by
    rcases Classical.em ((gP l 1).1 - (gP l 0).1 = 0) with e | e
    · refine .inr fun e2 => h.det ?_
      unfold dt
      rw [e, e2]
      simp
    · exact .inl e
  have hu := prim_le (a := (gP l 1).1 - (gP l 0).1) (b := (gP l 1).2 - (gP l 0).2) hs.1 hs.2
  have hg := gcd_prim hne
  obtain ⟨m1, m2, m3, m4⟩ := mate_small (α := α) k hk (u := uF l) (B := 2000) (by omega) (by omega) hu.1 hu.2 hg
  have hpm := prim_mul ((gP l 1).1 - (gP l 0).1) ((gP l 1).2 - (gP l 0).2)
  have hy : gcdI ((gP l 1).1 - (gP l 0).1) ((gP l 1).2 - (gP l 0).2) * yF l = dt ((gP l 1).1 - (gP l 0).1, (gP l 1).2 - (gP l 0).2) ((gP l 2).1 - (gP l 1).1, (gP l 2).2 - (gP l 1).2) := by
    unfold yF dt subP uF
    simp only
    generalize hgg : gcdI ((gP l 1).1 - (gP l 0).1) ((gP l 1).2 - (gP l 0).2) = g at hpm
    generalize (prim ((gP l 1).1 - (gP l 0).1) ((gP l 1).2 - (gP l 0).2)) = u at hpm
    rw [← hpm.1, ← hpm.2]
    grind
  refine ⟨⟨hu, m2, hne, fun e => h.det ?_, ?_⟩, m3, m4⟩
  · rw [← hy, e, Int.mul_zero]
  · unfold dt subP uF
    simp only
    generalize hgg : gcdI ((gP l 1).1 - (gP l 0).1) ((gP l 1).2 - (gP l 0).2) = g at hpm
    generalize (prim ((gP l 1).1 - (gP l 0).1) ((gP l 1).2 - (gP l 0).2)) = u at hpm
    rw [← hpm.1, ← hpm.2]
    grind

theorem kF_b {l : List (Int × Int)} (hb : FrmB l) (hx : -16000000 ≤ xF l ∧ xF l ≤ 16000000) : -16000000 ≤ kF l ∧ kF l ≤ 16000000 := by
  have := floor_p (xF l) (max (yF l) (-yF l)) (by have := hb.y0; omega)
  unfold kF
  omega

theorem wF_c (l : List (Int × Int)) : wF l = 1 ∨ wF l = -1 := by
  unfold wF
  split
  · exact .inr rfl
  · exact .inl rfl

theorem w_sub {a b : Int} (ha : -1000 ≤ a ∧ a ≤ 1000) (hb : -1000 ≤ b ∧ b ≤ 1000) : w64 (a + w64 (-1 * b)) = a - b := less_w (by omega) (by omega) (by omega) (by omega)

theorem dt_w2 {p q : Int × Int} (hp : (-2000 ≤ p.1 ∧ p.1 ≤ 2000) ∧ (-2000 ≤ p.2 ∧ p.2 ≤ 2000)) (hq : (-2000 ≤ q.1 ∧ q.1 ≤ 2000) ∧ (-2000 ≤ q.2 ∧ q.2 ≤ 2000)) : w64 (w64 (p.1 * q.2) - w64 (p.2 * q.1)) = dt p q := dt_w ⟨by omega, by omega⟩ ⟨by omega, by omega⟩

theorem split_eq (k : Nat) {l : List (Int × Int)} (h : Frm l) (hb : FrmB l) {e : Int × Int} (he : Sm e) (r : Int → Int → Option α) :
    impl_ledBy_1_1P_2P_3P k e.1 e.2 l (mF l).1 (mF l).2 (uF l).1 (uF l).2 r = r (dt (subP e (gP l 0)) (mF l)) (dt (uF l) (subP e (gP l 0))) := by
  have n3 := h.n3
  have s0 := h.sm _ (gP_mem (l := l) (i := 0) (by omega))
  have hs := sub_b he s0
  unfold impl_ledBy_1_1P_2P_3P
  rw [dec_lt_t (by omega), Bool.and_self, cond_true, gP_get (by omega), Option.bind_some, Option.bind_some]
  simp only [impl_Point_less, impl_Point_plus, impl_det, cond_true]
  rw [w_sub he.1 s0.1, w_sub he.2 s0.2]
  have d1 := dt_w2 hs hb.m
  have d2 := dt_w2 hb.u hs
  unfold subP at d1 d2 ⊢
  simp only at d1 d2
  rw [d1, d2]

theorem led_b {l : List (Int × Int)} (hb : FrmB l) {v : Int × Int} (hs : (-2000 ≤ v.1 ∧ v.1 ≤ 2000) ∧ (-2000 ≤ v.2 ∧ v.2 ≤ 2000)) : (-8000000 ≤ dt v (mF l) ∧ dt v (mF l) ≤ 8000000) ∧ (-8000000 ≤ dt (uF l) v ∧ dt (uF l) v ≤ 8000000) := by
  have h1 := dt_b2 (A := 2000) (by omega) hs hb.m
  have h2 := dt_b2 (A := 2000) (by omega) hb.u hs
  omega

theorem led_l9 {l : List (Int × Int)} (h : Frm l) (hb : FrmB l) (hk : -16000000 ≤ kF l ∧ kF l ≤ 16000000) : ∀ (rest : List (Int × Int)) (k i : Nat) (out : List (Int × Int)) b (r : List (Int × Int) → Option α), l.drop i = rest → i ≤ l.length → out.length = i → rest.length < k →
    impl_ledBy_l9 k (wF l) (-(wF l) * kF l) l.length i (mF l).1 (mF l).2 (uF l).1 (uF l).2 out l b r = b (wF l) (-(wF l) * kF l) l.length l.length (mF l).1 (mF l).2 (uF l).1 (uF l).2 (out ++ rest.map (ledP l)) l
  | [], k + 1, i, out, b, r, hd, hi, ho, _ => by
    have := drop_nil hd
    have : i = l.length := by omega
    subst this
    rw [impl_ledBy_l9, dec_lt_f (by omega)]
    simp
  | e :: rest, k + 1, i, out, b, r, hd, hi, ho, hk2 => by
    obtain ⟨h1, h2, h3⟩ := drop_cons hd
    have n12 := h.n12
    have n3 := h.n3
    have he := h.sm e (List.mem_of_getElem? h1)
    have s0 := h.sm _ (gP_mem (l := l) (i := 0) (by omega))
    have hs := sub_b he s0
    have hl := led_b hb hs
    have en : w64 ((i : Int) + 1) = ((i + 1 : Nat) : Int) := by rw [w64_of (by omega) (by omega)]; omega
    rw [impl_ledBy_l9, dec_lt_t (by omega), dec_le_t (by omega), cond_true, Bool.and_true, cond_true, Int.toNat_natCast, h1, Option.bind_some, split_eq k h hb he, dec_nle_t (by rw [big_val]; omega), cond_true, en]
    generalize hp : dt (subP e (gP l 0)) (mF l) = p at hl
    generalize hq : dt (uF l) (subP e (gP l 0)) = q at hl
    have hbq := mul_bound (a := kF l) (b := q) (A := 16000000) (B := 8000000) hk.1 hk.2 hl.2.1 hl.2.2
    have w1 : w64 (-(wF l) * kF l * q) = -(kF l * wF l * q) := by
      rcases wF_c l with e | e
      · rw [e, w64_of (by grind) (by grind)]; grind
      · rw [e, w64_of (by grind) (by grind)]; grind
    have w2 : w64 (p + -(kF l * wF l * q)) = p - kF l * wF l * q := by
      rcases wF_c l with e | e
      · rw [e, w64_of (by grind) (by grind)]; grind
      · rw [e, w64_of (by grind) (by grind)]; grind
    have w3 : w64 (wF l * q) = wF l * q := by
      rcases wF_c l with e | e
      · rw [e, w64_of (by omega) (by omega)]
      · rw [e, w64_of (by omega) (by omega)]
    have hle : ledP l e = (p - kF l * wF l * q, wF l * q) := by unfold ledP; rw [hp, hq]
    rw [w1, w2, w3, led_l9 h hb hk rest k (i + 1) _ b r h2 (by omega) (by simp; omega) (by simp at hk2; omega)]
    simp [hle]
  | _, 0, _, _, _, _, _, _, _, hk2 => by omega

theorem xF_b {l : List (Int × Int)} (h : Frm l) (hb : FrmB l) : -16000000 ≤ xF l ∧ xF l ≤ 16000000 := by
  have n3 := h.n3
  have s1 := h.sm _ (gP_mem (l := l) (i := 1) (by omega))
  have s2 := h.sm _ (gP_mem (l := l) (i := 2) (by omega))
  have := (led_b hb (sub_b s2 s1)).1
  unfold xF
  omega

theorem yF_b {l : List (Int × Int)} (h : Frm l) (hb : FrmB l) : -8000000 ≤ yF l ∧ yF l ≤ 8000000 := by
  have n3 := h.n3
  have s1 := h.sm _ (gP_mem (l := l) (i := 1) (by omega))
  have s2 := h.sm _ (gP_mem (l := l) (i := 2) (by omega))
  exact (led_b hb (sub_b s2 s1)).2

theorem impl_led_eq (k : Nat) (hk : 1000000000 < k) {l : List (Int × Int)} (h : Frm l) (r : List (Int × Int) → Option α) : impl_ledBy k l r = r (frameL l) := by
  obtain ⟨hb, _, hm⟩ := frm_b (α := α) k hk h
  have n3 := h.n3
  have n12 := h.n12
  have s0 := h.sm _ (gP_mem (l := l) (i := 0) (by omega))
  have s1 := h.sm _ (gP_mem (l := l) (i := 1) (by omega))
  have s2 := h.sm _ (gP_mem (l := l) (i := 2) (by omega))
  have hx := xF_b h hb
  have hy := yF_b h hb
  have hkF := kF_b hb hx
  have c10 := led_b hb (sub_b s1 s0)
  have c20 := led_b hb (sub_b s2 s0)
  have hs := sub_b s1 s0
  have ey : dt (uF l) (subP (gP l 2) (gP l 0)) = yF l := by
    have : dt (uF l) (subP (gP l 2) (gP l 0)) = yF l + dt (uF l) (subP (gP l 1) (gP l 0)) := by unfold yF dt subP; simp only; grind
    rw [this, hb.par, Int.add_zero]
  have ex : dt (subP (gP l 2) (gP l 0)) (mF l) - dt (subP (gP l 1) (gP l 0)) (mF l) = xF l := by unfold xF dt subP; simp only; grind
  have hu : prim (gP l 1).1 (gP l 1).2 = prim (gP l 1).1 (gP l 1).2 := rfl
  unfold impl_ledBy
  rw [dec_lt_t (show (0 : Int) < ((l.length : Nat) : Int) by omega), dec_lt_t (show (1 : Int) < ((l.length : Nat) : Int) by omega), dec_lt_t (show (2 : Int) < ((l.length : Nat) : Int) by omega), gP_get (show 0 < l.length by omega), gP_get (show 1 < l.length by omega), gP_get (show 2 < l.length by omega)]
  simp only [Bool.and_self, cond_true, Option.bind_some]
  rw [impl_less_eq k _ _ _ _ _ (by have := s1.1; omega) (by have := s1.2; omega) (by have := s0.1; omega) (by have := s0.2; omega), impl_primitive_eq k _ _ _ (by have := hs.1; unfold subP at this; simp only at this; omega) (by have := hs.1; unfold subP at this; simp only at this; omega) (by have := hs.2; unfold subP at this; simp only at this; omega) (by have := hs.2; unfold subP at this; simp only at this; omega) hk hb.ne]
  change impl_Point_mate k (uF l).1 (uF l).2 _ = _
  rw [hm]
  change impl_ledBy_1_1P_2P_3P k (gP l 1).1 (gP l 1).2 l (mF l).1 (mF l).2 (uF l).1 (uF l).2 _ = _
  rw [split_eq k h hb s1]
  change impl_ledBy_1_1P_2P_3P k (gP l 2).1 (gP l 2).2 l (mF l).1 (mF l).2 (uF l).1 (uF l).2 _ = _
  rw [split_eq k h hb s2, ey]
  have hw : (if yF l < 0 then (-1 : Int) else 1) = wF l := rfl
  have hsg : ∀ r : Int → Option α, impl_sign k (yF l) r = r (wF l) := fun r => by
    unfold impl_sign wF
    by_cases hn : yF l < 0
    · rw [decide_eq_true hn, cond_true, if_pos hn]
    · rw [decide_eq_false hn, cond_false, if_neg hn]
  have y0 := hb.y0
  rw [hsg, impl_size_eq k _ _ (by omega) (by omega)]
  rw [show w64 (dt (subP (gP l 2) (gP l 0)) (mF l) - dt (subP (gP l 1) (gP l 0)) (mF l)) = xF l by rw [ex, w64_of (by omega) (by omega)]]
  rw [impl_floor_eq k _ _ _ (by omega) (by omega) (by omega)]
  change impl_ledBy_l9 k (wF l) (w64 (w64 (0 - wF l) * kF l)) _ _ _ _ _ _ _ _ _ _ = _
  have hby : w64 (w64 (0 - wF l) * kF l) = -(wF l) * kF l := by
    rcases wF_c l with e | e
    · rw [e, w64_of (n := 0 - 1) (by omega) (by omega), w64_of (by omega) (by omega)]; omega
    · rw [e, w64_of (n := 0 - -1) (by omega) (by omega), w64_of (by omega) (by omega)]; omega
  rw [hby]
  have := led_l9 (α := α) h hb hkF l k 0 [] (fun _ _ _ _ _ _ _ _ out1 _ => r out1) r rfl (by omega) rfl (by omega)
  simp only [Int.natCast_zero, List.nil_append] at this
  exact this

theorem lin_w2 {A B x y : Int} (hA : -100000000000 ≤ A ∧ A ≤ 100000000000) (hB : -100000000000 ≤ B ∧ B ≤ 100000000000) (hx : -2000 ≤ x ∧ x ≤ 2000) (hy : -2000 ≤ y ∧ y ≤ 2000) : w64 (w64 (A * x) + w64 (B * y)) = A * x + B * y := by
  have h1 := mul_bound hA.1 hA.2 hx.1 hx.2
  have h2 := mul_bound hB.1 hB.2 hy.1 hy.2
  rw [w64_of (n := A * x) (by omega) (by omega), w64_of (n := B * y) (by omega) (by omega), w64_of (by omega) (by omega)]

theorem frame_l14 {l : List (Int × Int)} (h : Frm l) {A B C D : Int} (hA : -100000000000 ≤ A ∧ A ≤ 100000000000) (hB : -100000000000 ≤ B ∧ B ≤ 100000000000) (hC : -100000000000 ≤ C ∧ C ≤ 100000000000) (hD : -100000000000 ≤ D ∧ D ≤ 100000000000) : ∀ (rest : List (Int × Int)) (k i : Nat) (out : List (Int × Int)) b (r : List (Int × Int) → Option α), l.drop i = rest → i ≤ l.length → out.length = i → rest.length < k →
    spec_l09Frame_l14 k i l (gP l 0).1 (gP l 0).2 A B C D out b r = b l.length l (gP l 0).1 (gP l 0).2 A B C D (out ++ rest.map fun e => (A * (subP e (gP l 0)).1 + B * (subP e (gP l 0)).2, C * (subP e (gP l 0)).1 + D * (subP e (gP l 0)).2))
  | [], k + 1, i, out, b, r, hd, hi, ho, _ => by
    have := drop_nil hd
    have : i = l.length := by omega
    subst this
    rw [spec_l09Frame_l14, dec_lt_f (by omega)]
    simp
  | e :: rest, k + 1, i, out, b, r, hd, hi, ho, hk2 => by
    obtain ⟨h1, h2, h3⟩ := drop_cons hd
    have n12 := h.n12
    have n3 := h.n3
    have he := h.sm e (List.mem_of_getElem? h1)
    have s0 := h.sm _ (gP_mem (l := l) (i := 0) (by omega))
    have hs := sub_b he s0
    have en : w64 ((i : Int) + 1) = ((i + 1 : Nat) : Int) := by rw [w64_of (by omega) (by omega)]; omega
    rw [spec_l09Frame_l14, dec_lt_t (by omega), dec_le_t (by omega), cond_true, Bool.and_true, cond_true, Int.toNat_natCast, h1, Option.bind_some]
    simp only [spec_l01Plus, spec_l01Apply]
    rw [w_sub he.1 s0.1, w_sub he.2 s0.2, dec_nle_t (by rw [big_val]; omega), cond_true, en]
    change spec_l09Frame_l14 k _ l _ _ A B C D (out ++ [(w64 (w64 (A * (subP e (gP l 0)).1) + w64 (B * (subP e (gP l 0)).2)), w64 (w64 (C * (subP e (gP l 0)).1) + w64 (D * (subP e (gP l 0)).2)))]) b r = _
    rw [lin_w2 hA hB hs.1 hs.2, lin_w2 hC hD hs.1 hs.2, frame_l14 h hA hB hC hD rest k (i + 1) _ b r h2 (by omega) (by simp; omega) (by simp at hk2; omega)]
    simp
  | _, 0, _, _, _, _, _, _, _, hk2 => by omega

theorem spec_frame_eq (k : Nat) (hk : 1000000000 < k) {l : List (Int × Int)} (h : Frm l) (r : List (Int × Int) → Option α) : spec_l09Frame k l r = r (frameL l) := by
  obtain ⟨hb, hm, _⟩ := frm_b (α := α) k hk h
  have n3 := h.n3
  have n12 := h.n12
  have s0 := h.sm _ (gP_mem (l := l) (i := 0) (by omega))
  have s1 := h.sm _ (gP_mem (l := l) (i := 1) (by omega))
  have s2 := h.sm _ (gP_mem (l := l) (i := 2) (by omega))
  have hx := xF_b h hb
  have hy := yF_b h hb
  have hkF := kF_b hb hx
  have y0 := hb.y0
  have hs := sub_b s1 s0
  have hs2 := sub_b s2 s1
  have bu := hb.u
  have bm := hb.m
  unfold spec_l09Frame
  rw [dec_lt_t (show (0 : Int) < ((l.length : Nat) : Int) by omega), dec_lt_t (show (1 : Int) < ((l.length : Nat) : Int) by omega), dec_lt_t (show (2 : Int) < ((l.length : Nat) : Int) by omega), gP_get (show 0 < l.length by omega), gP_get (show 1 < l.length by omega), gP_get (show 2 < l.length by omega)]
  simp only [Bool.and_self, cond_true, Option.bind_some]
  rw [spec_less_eq k _ _ _ _ _ (by have := s1.1; omega) (by have := s1.2; omega) (by have := s0.1; omega) (by have := s0.2; omega), spec_l01Part_eq k _ _ _ (by have := hs.1; unfold subP at this; simp only at this; omega) (by have := hs.1; unfold subP at this; simp only at this; omega) (by have := hs.2; unfold subP at this; simp only at this; omega) (by have := hs.2; unfold subP at this; simp only at this; omega) hk hb.ne]
  rw [show prim ((gP l 1).1 - (gP l 0).1) ((gP l 1).2 - (gP l 0).2) = uF l from rfl, hm]
  rw [spec_less_eq k _ _ _ _ _ (by have := s2.1; omega) (by have := s2.2; omega) (by have := s1.1; omega) (by have := s1.2; omega)]
  have wa : w64 (0 - (mF l).1) = -(mF l).1 := by rw [w64_of (by omega) (by omega)]; omega
  have wb : w64 (0 - (uF l).2) = -(uF l).2 := by rw [w64_of (by omega) (by omega)]; omega
  have wc : w64 (0 - (uF l).1) = -(uF l).1 := by rw [w64_of (by omega) (by omega)]; omega
  have wd : w64 (0 - -(uF l).2) = (uF l).2 := by rw [w64_of (by omega) (by omega)]; omega
  have g1 : w64 (w64 ((mF l).2 * ((gP l 2).1 - (gP l 1).1)) + w64 (-(mF l).1 * ((gP l 2).2 - (gP l 1).2))) = xF l := by
    have := lin_w2 (A := (mF l).2) (B := -(mF l).1) (x := (subP (gP l 2) (gP l 1)).1) (y := (subP (gP l 2) (gP l 1)).2) (by omega) (by omega) hs2.1 hs2.2
    unfold subP at this
    simp only at this
    rw [this]
    unfold xF dt subP
    simp only
    grind
  have g2 : w64 (w64 (-(uF l).2 * ((gP l 2).1 - (gP l 1).1)) + w64 ((uF l).1 * ((gP l 2).2 - (gP l 1).2))) = yF l := by
    have := lin_w2 (A := -(uF l).2) (B := (uF l).1) (x := (subP (gP l 2) (gP l 1)).1) (y := (subP (gP l 2) (gP l 1)).2) (by omega) (by omega) hs2.1 hs2.2
    unfold subP at this
    simp only at this
    rw [this]
    unfold yF dt subP
    simp only
    grind
  simp only [spec_l01Apply, wa, wb, g1, g2]
  have one : ∀ {x : Int}, (-2000 ≤ x ∧ x ≤ 2000) → ∀ {c y : Int}, (-16000000 ≤ c ∧ c ≤ 16000000) → (-2000 ≤ y ∧ y ≤ 2000) → w64 (w64 (1 * x) + w64 (c * y)) = x + c * y := fun hx _ _ hc hy => by
    rw [lin_w2 (by omega) (by omega) hx hy, Int.one_mul]
  have zero : ∀ {x y : Int}, (-2000 ≤ x ∧ x ≤ 2000) → (-2000 ≤ y ∧ y ≤ 2000) → w64 (w64 (0 * x) + w64 (1 * y)) = y := fun hx hy => by
    rw [lin_w2 (by omega) (by omega) hx hy, Int.zero_mul, Int.one_mul, Int.zero_add]
  have kb : ∀ {y : Int}, (-2000 ≤ y ∧ y ≤ 2000) → -32000000000 ≤ -kF l * y ∧ -kF l * y ≤ 32000000000 := fun hy => by
    have := mul_bound (a := -kF l) (A := 16000000) (B := 2000) (by omega) (by omega) hy.1 hy.2
    omega
  by_cases hn : yF l < 0
  · have hmx : max (yF l) (-yF l) = -yF l := by omega
    have hw : wF l = -1 := by unfold wF; rw [if_pos hn]
    have wy : w64 (0 - yF l) = -yF l := by rw [w64_of (by omega) (by omega)]; omega
    have hkk : xF l / -yF l = kF l := by unfold kF; rw [hmx]
    have wk : w64 (0 - kF l) = -kF l := by rw [w64_of (by omega) (by omega)]; omega
    rw [decide_eq_true hn, cond_true, wy, spec_l01Floor_eq k _ _ _ (by omega) (by omega) (by omega), hkk, wk, wc, wd]
    simp only [spec_l01Times]
    rw [one (x := (mF l).2) (by omega) (by omega) (by omega), one (x := -(mF l).1) (by omega) (by omega) (by omega), zero (by omega) (by omega), zero (by omega) (by omega)]
    have b1 := kb bu.2
    have b2 := kb (y := -(uF l).1) (by omega)
    have := frame_l14 (α := α) h (A := (mF l).2 + -kF l * (uF l).2) (B := -(mF l).1 + -kF l * -(uF l).1) (C := (uF l).2) (D := -(uF l).1) (by omega) (by omega) (by omega) (by omega) l k 0 [] (fun _ _ _ _ _ _ _ _ out1 => r out1) r rfl (by omega) rfl (by omega)
    simp only [Int.natCast_zero, List.nil_append] at this
    rw [this]
    congr 1
    unfold frameL ledP
    rw [hw]
    apply List.map_congr_left
    intro e _
    unfold dt
    apply Prod.ext
    · simp only; grind
    · simp only; grind
  · have hmx : max (yF l) (-yF l) = yF l := by omega
    have hw : wF l = 1 := by unfold wF; rw [if_neg hn]
    have hkk : xF l / yF l = kF l := by unfold kF; rw [hmx]
    have wk : w64 (0 - kF l) = -kF l := by rw [w64_of (by omega) (by omega)]; omega
    rw [decide_eq_false hn, cond_false, spec_l01Floor_eq k _ _ _ (by omega) (by omega) (by omega), hkk, wk]
    simp only [spec_l01Times]
    rw [one (x := (mF l).2) (by omega) (by omega) (by omega), one (x := -(mF l).1) (by omega) (by omega) (by omega), zero (by omega) (by omega), zero (by omega) (by omega)]
    have b1 := kb bu.1
    have b2 := kb (y := -(uF l).2) (by omega)
    have := frame_l14 (α := α) h (A := (mF l).2 + -kF l * -(uF l).2) (B := -(mF l).1 + -kF l * (uF l).1) (C := -(uF l).2) (D := (uF l).1) (by omega) (by omega) (by omega) (by omega) l k 0 [] (fun _ _ _ _ _ _ _ _ out1 => r out1) r rfl (by omega) rfl (by omega)
    simp only [Int.natCast_zero, List.nil_append] at this
    rw [this]
    congr 1
    unfold frameL ledP
    rw [hw]
    apply List.map_congr_left
    intro e _
    unfold dt
    apply Prod.ext
    · simp only; grind
    · simp only; grind

/-- A list from a place on, and around. -/
def rotL (l : List (Int × Int)) (i : Nat) : List (Int × Int) := l.drop i ++ l.take i

theorem rotL_len (l : List (Int × Int)) (i : Nat) : (rotL l i).length = l.length := by simp [rotL]; omega

theorem rotL_get {l : List (Int × Int)} {i j : Nat} (hi : i < l.length) (hj : j < l.length) : gP (rotL l i) j = gP l ((i + j) % l.length) := by
  unfold rotL gP
  simp only [List.getD_eq_getElem?_getD, List.getElem?_append, List.length_drop, List.getElem?_drop, List.getElem?_take]
  by_cases h : i + j < l.length
  · rw [if_pos (by omega), Nat.mod_eq_of_lt h]
  · rw [if_neg (by omega), if_pos (by omega)]
    have : (i + j) % l.length = j - (l.length - i) := by
      rw [Nat.mod_eq_sub_mod (by omega), Nat.mod_eq_of_lt (by omega)]
      omega
    rw [this]

theorem ext_gP {a b : List (Int × Int)} (hl : a.length = b.length) (h : ∀ i, i < a.length → gP a i = gP b i) : a = b := by
  apply List.ext_getElem hl
  intro i h1 h2
  have := h i h1
  simpa [gP, List.getD_eq_getElem?_getD, List.getElem?_eq_getElem h1, List.getElem?_eq_getElem h2] using this

theorem rev_get {l : List (Int × Int)} {i : Nat} (h : i < l.length) : gP l.reverse i = gP l (l.length - 1 - i) := by
  unfold gP
  rw [List.getD_eq_getElem?_getD, List.getD_eq_getElem?_getD, List.getElem?_reverse h]

theorem gP_map_range (f : Nat → Int × Int) {n i : Nat} (h : i < n) : gP ((List.range n).map f) i = f i := by
  simp [gP, List.getD_eq_getElem?_getD, h]

/-- The rounds of the reversal. -/
def revI (l : List (Int × Int)) (i : Nat) : List (Int × Int) := (List.range l.length).map fun t => if t < i ∨ l.length ≤ t + i then gP l (l.length - 1 - t) else gP l t

theorem revI_len (l : List (Int × Int)) (i : Nat) : (revI l i).length = l.length := by simp [revI]

theorem revI_get (l : List (Int × Int)) (i : Nat) {t : Nat} (h : t < l.length) : gP (revI l i) t = if t < i ∨ l.length ≤ t + i then gP l (l.length - 1 - t) else gP l t := gP_map_range _ h

theorem gP_set {l : List (Int × Int)} {i t : Nat} (v : Int × Int) (hi : i < l.length) : gP (l.set i v) t = if t = i then v else gP l t := by
  unfold gP
  simp only [List.getD_eq_getElem?_getD, List.getElem?_set]
  by_cases h : i = t
  · subst h; simp [hi]
  · rw [if_neg h, if_neg (fun e => h e.symm)]

theorem rev_l1 {l : List (Int × Int)} (hl : l.length ≤ 4000) : ∀ (m k i : Nat) (b r : List (Int × Int) → Option α), m + 2 * i = l.length → m < k →
    slices_Reverse_impl_polygon_impl_Point_l1 k i ((l.length : Int) - 1 - i) (revI l i) (fun _ _ s => b s) r = b l.reverse
  | 0, k + 1, i, b, r, hm, hk => by
    rw [slices_Reverse_impl_polygon_impl_Point_l1, dec_lt_f (by omega)]
    simp only [cond_false]
    congr 1
    apply ext_gP (by simp [revI_len])
    intro t ht
    rw [revI_len] at ht
    rw [revI_get l i ht, rev_get ht, if_pos (by omega)]
  | 1, k + 1, i, b, r, hm, hk => by
    rw [slices_Reverse_impl_polygon_impl_Point_l1, dec_lt_f (by omega)]
    simp only [cond_false]
    congr 1
    apply ext_gP (by simp [revI_len])
    intro t ht
    rw [revI_len] at ht
    rw [revI_get l i ht, rev_get ht]
    split
    · rfl
    · have : t = i := by omega
      subst this
      congr 1
      omega
  | m + 2, k + 1, i, b, r, hm, hk => by
    have ej : (l.length : Int) - 1 - i = ((l.length - 1 - i : Nat) : Int) := by omega
    have en : w64 ((i : Int) + 1) = ((i + 1 : Nat) : Int) := by rw [w64_of (by omega) (by omega)]; omega
    have ep : w64 (((l.length - 1 - i : Nat) : Int) - 1) = (l.length : Int) - 1 - ((i + 1 : Nat) : Int) := by rw [w64_of (by omega) (by omega)]; omega
    have hrl := revI_len l i
    rw [ej, slices_Reverse_impl_polygon_impl_Point_l1, dec_lt_t (by omega), hrl, dec_le_t (by omega), dec_lt_t (by omega), dec_le_t (by omega), dec_lt_t (by omega)]
    simp only [Bool.and_self, cond_true, Int.toNat_natCast]
    rw [gP_get (l := revI l i) (i := l.length - 1 - i) (by rw [hrl]; omega), gP_get (l := revI l i) (i := i) (by rw [hrl]; omega)]
    simp only [Option.bind_some]
    have hlt : ((l.length - 1 - i : Nat) : Int) < (l.length : Int) := by omega
    simp only [List.length_set, hrl, hlt, decide_true, Bool.and_self, cond_true]
    rw [gP_get (l := (revI l i).set i _) (by rw [List.length_set, hrl]; omega)]
    simp only [Option.bind_some, Bool.and_self, cond_true]
    rw [en, ep]
    have he : ((revI l i).set i ((gP (revI l i) (l.length - 1 - i)).1, (gP (revI l i) (l.length - 1 - i)).2)).set (l.length - 1 - i) ((gP (revI l i) i).1, (gP (revI l i) i).2) = revI l (i + 1) := by
      apply ext_gP (by simp [revI_len])
      intro t ht
      simp only [List.length_set, hrl] at ht
      rw [gP_set _ (by rw [List.length_set, hrl]; omega), gP_set _ (by rw [hrl]; omega), revI_get l (i + 1) ht]
      by_cases h1 : t = l.length - 1 - i
      · rw [if_pos h1, if_pos (by omega), revI_get l i (by omega), if_neg (by omega)]
        rw [h1, show l.length - 1 - (l.length - 1 - i) = i by omega]
      · rw [if_neg h1]
        by_cases h2 : t = i
        · rw [if_pos h2, if_pos (by omega), revI_get l i (by omega), if_neg (by omega), h2]
        · rw [if_neg h2, revI_get l i ht]
          by_cases h3 : t < i ∨ l.length ≤ t + i
          · rw [if_pos h3, if_pos (by omega)]
          · rw [if_neg h3, if_neg (by omega)]
    rw [he]
    exact rev_l1 hl m k (i + 1) b r (by omega) (by omega)
  | _, 0, _, _, _, _, hk => by omega

theorem reverse_eq (k : Nat) {l : List (Int × Int)} (hl : l.length ≤ 4000) (hk : 4001 < k) (r : List (Int × Int) → Option α) : slices_Reverse_impl_polygon_impl_Point k l r = r l.reverse := by
  unfold slices_Reverse_impl_polygon_impl_Point
  have h0 : revI l 0 = l := by
    apply ext_gP (revI_len l 0)
    intro t ht
    rw [revI_len] at ht
    rw [revI_get l 0 ht, if_neg (by omega)]
  have := rev_l1 (α := α) hl l.length k 0 r r (by omega) (by omega)
  rw [h0] at this
  simp only [Int.natCast_zero, Int.sub_zero] at this
  rw [w64_of (by omega) (by omega)]
  exact this

def lexB : List (Int × Int) → List (Int × Int) → Bool
  | x :: xs, y :: ys => if x = y then lexB xs ys else ptBef x y
  | _, _ => false

theorem lexB_irr : ∀ l, lexB l l = false
  | [] => rfl
  | x :: xs => by simp [lexB, lexB_irr xs]

theorem ptBef_asym {x y : Int × Int} (h : ptBef x y = true) : ¬ ptBef y x = true := fun h2 => by
  have := ptBef_trans h h2
  rw [ptBef_irr] at this
  cases this

theorem lexB_trans : ∀ {a b c : List (Int × Int)}, lexB a b = true → lexB b c = true → lexB a c = true
  | x :: xs, y :: ys, z :: zs, h1, h2 => by
    simp only [lexB] at h1 h2 ⊢
    split at h1
    · rename_i e
      subst e
      split at h2
      · rename_i e
        subst e
        rw [if_pos rfl]
        exact lexB_trans h1 h2
      · rename_i e
        rw [if_neg e]
        exact h2
    · rename_i e
      split at h2
      · rename_i e2
        subst e2
        rw [if_neg e]
        exact h1
      · have ht := ptBef_trans h1 h2
        rw [if_neg fun e3 => by subst e3; exact ptBef_asym h1 h2]
        exact ht
  | [], _, _, h, _ => by simp [lexB] at h
  | _ :: _, [], _, h, _ => by simp [lexB] at h
  | _ :: _, _ :: _, [], _, h => by simp [lexB] at h

theorem lexB_tri : ∀ {a b : List (Int × Int)}, a.length = b.length → ¬ lexB a b = true → ¬ lexB b a = true → a = b
  | [], [], _, _, _ => rfl
  | x :: xs, y :: ys, hl, h1, h2 => by
    simp only [lexB] at h1 h2
    by_cases e : x = y
    · subst e
      rw [if_pos rfl] at h1 h2
      rw [lexB_tri (by simpa using hl) h1 h2]
    · rw [if_neg e] at h1
      rw [if_neg fun e2 => e e2.symm] at h2
      exact absurd (ptBef_tri h1 h2) e
  | [], _ :: _, hl, _, _ => by simp at hl
  | _ :: _, [], hl, _, _ => by simp at hl

theorem spec_less_l2 {a b : List (Int × Int)} (hab : a.length = b.length) (hl : a.length ≤ 4000) : ∀ (ra rb : List (Int × Int)) (k i : Nat) (r : Bool → Option α), a.drop i = ra → b.drop i = rb → i ≤ a.length → ra.length < k →
    spec_l09Less_l2 k i a b (fun _ _ _ => r false) r = r (lexB ra rb)
  | [], rb, k + 1, i, r, ha, hb, hi, _ => by
    have := drop_nil ha
    rw [spec_l09Less_l2, dec_lt_f (by omega)]
    rfl
  | x :: ra, rb, k + 1, i, r, ha, hb, hi, hk => by
    obtain ⟨h1, h2, h3⟩ := drop_cons ha
    have en : w64 ((i : Int) + 1) = ((i + 1 : Nat) : Int) := by rw [w64_of (by omega) (by omega)]; omega
    match rb, hb with
    | [], hb => have := drop_nil hb; omega
    | y :: rb, hb =>
      obtain ⟨g1, g2, g3⟩ := drop_cons hb
      rw [spec_l09Less_l2, dec_lt_t (by omega), dec_le_t (by omega), dec_lt_t (by omega)]
      simp only [Bool.and_self, cond_true, Int.toNat_natCast, h1, g1, Option.bind_some, spec_ptBefore_eq, en, lexB]
      rw [spec_less_l2 hab hl ra rb k (i + 1) r h2 g2 (by omega) (by simp at hk; omega)]
      by_cases e : x = y
      · subst e; simp
      · have : (decide (x.1 = y.1) && decide (x.2 = y.2)) = false := by
          rw [Bool.and_eq_false_iff, decide_eq_false_iff_not, decide_eq_false_iff_not]
          by_cases e1 : x.1 = y.1
          · exact .inr fun e2 => e (Prod.ext e1 e2)
          · exact .inl e1
        rw [this, if_neg e]
        rfl
  | _ :: _, _, 0, _, _, _, _, _, hk => by omega
  | [], _, 0, _, _, _, _, _, hk => by omega

theorem spec_lexless_eq (k : Nat) {a b : List (Int × Int)} (hab : a.length = b.length) (hl : a.length ≤ 4000) (hk : 4000 < k) (r : Bool → Option α) : spec_l09Less k a b r = r (lexB a b) := by
  unfold spec_l09Less
  have := spec_less_l2 (α := α) hab hl a b k 0 r rfl rfl (by omega) (by omega)
  simpa using this

theorem ordP_zero {x y : Int × Int} (h : ordP x y = 0) : x = y := by
  unfold ordP or2 cmpI at h
  by_cases h1 : x.1 < y.1
  · simp [h1] at h
  · by_cases h2 : y.1 < x.1
    · simp [h1, h2] at h
    · by_cases h3 : x.2 < y.2
      · simp [h1, h2, h3] at h
      · by_cases h4 : y.2 < x.2
        · simp [h1, h2, h3, h4] at h
        · exact Prod.ext (by omega) (by omega)

theorem ordP_self (x : Int × Int) : ordP x x = 0 := by simp [ordP, or2, cmpI]

/-- The comparison of two lists, as a number: less than 0 where the first comes ahead. -/
theorem cmpF_l2 {a b : List (Int × Int)} (hab : a.length = b.length) (hl : a.length ≤ 4000) : ∀ (ra rb : List (Int × Int)) (k i : Nat), a.drop i = ra → b.drop i = rb → i ≤ a.length → ra.length + 5 < k →
    ∃ v, decide (v < 0) = lexB ra rb ∧ ∀ r : Int → Option α, slices_CompareFunc_impl_Point_impl_Point_impl_Point_impl_Point_2F_impl_pointOrder_l2 k a.length i a b (fun _ _ s12 s22 => bif decide ((((List.length s12) : Nat) : Int) < (((List.length s22) : Nat) : Int)) then r (-1) else r 0) r = r v
  | [], rb, k + 1, i, ha, hb, hi, _ => by
    have := drop_nil ha
    refine ⟨0, rfl, fun r => ?_⟩
    rw [slices_CompareFunc_impl_Point_impl_Point_impl_Point_impl_Point_2F_impl_pointOrder_l2, dec_lt_f (by omega), cond_false, dec_lt_f (by omega)]
    rfl
  | x :: ra, rb, k + 1, i, ha, hb, hi, hk => by
    obtain ⟨h1, h2, h3⟩ := drop_cons ha
    have en : w64 ((i : Int) + 1) = ((i + 1 : Nat) : Int) := by rw [w64_of (by omega) (by omega)]; omega
    match rb, hb with
    | [], hb => have := drop_nil hb; omega
    | y :: rb, hb =>
      obtain ⟨g1, g2, g3⟩ := drop_cons hb
      obtain ⟨v, hv, e⟩ := cmpF_l2 hab hl ra rb k (i + 1) h2 g2 (by omega) (by simp at hk; omega)
      have hkk : 3 ≤ k := by simp at hk; omega
      by_cases hxy : x = y
      · subst hxy
        refine ⟨v, by simp [lexB, hv], fun r => ?_⟩
        rw [slices_CompareFunc_impl_Point_impl_Point_impl_Point_impl_Point_2F_impl_pointOrder_l2, dec_lt_t (by omega), dec_le_t (by omega), dec_lt_t (by omega), dec_le_f (by omega)]
        simp only [Bool.and_self, cond_true, cond_false, Int.toNat_natCast, h1, g1, Option.bind_some, impl_pointOrder_eq k hkk]
        rw [ordP_self]
        simp only [decide_true, Bool.not_true, cond_false, en]
        exact e r
      · refine ⟨ordP x y, by rw [ordP_bef]; simp [lexB, hxy], fun r => ?_⟩
        rw [slices_CompareFunc_impl_Point_impl_Point_impl_Point_impl_Point_2F_impl_pointOrder_l2, dec_lt_t (by omega), dec_le_t (by omega), dec_lt_t (by omega), dec_le_f (by omega)]
        simp only [Bool.and_self, cond_true, cond_false, Int.toNat_natCast, h1, g1, Option.bind_some, impl_pointOrder_eq k hkk]
        rw [decide_eq_false (fun h : ordP x y = 0 => hxy (ordP_zero h))]
        rfl
  | _ :: _, _, 0, _, _, _, _, hk => by omega
  | [], _, 0, _, _, _, _, hk => by omega

theorem cmpF_eq (k : Nat) {a b : List (Int × Int)} (hab : a.length = b.length) (hl : a.length ≤ 4000) (hk : 4010 < k) : ∃ v, decide (v < 0) = lexB a b ∧ ∀ r : Int → Option α, slices_CompareFunc_impl_Point_impl_Point_impl_Point_impl_Point_2F_impl_pointOrder k a b r = r v := by
  obtain ⟨v, hv, e⟩ := cmpF_l2 (α := α) hab hl a b k 0 rfl rfl (by omega) (by omega)
  refine ⟨v, hv, fun r => ?_⟩
  unfold slices_CompareFunc_impl_Point_impl_Point_impl_Point_impl_Point_2F_impl_pointOrder
  have := e r
  simp only [Int.natCast_zero] at this
  exact this

def minLF : List (List (Int × Int)) → List (Int × Int) → List (Int × Int)
  | [], b => b
  | x :: xs, b => minLF xs (bif lexB x b then x else b)

theorem minLF_spec {N : Nat} : ∀ (xs : List (List (Int × Int))) (b : List (Int × Int)), (∀ z ∈ b :: xs, z.length = N) → minLF xs b ∈ b :: xs ∧ ∀ z ∈ b :: xs, ¬ lexB z (minLF xs b) = true
  | [], b, _ => by simp [minLF, lexB_irr]
  | x :: xs, b, hN => by
    simp only [minLF]
    cases h : lexB x b with
    | true =>
      obtain ⟨h1, h2⟩ := minLF_spec xs x (fun z hz => hN z (List.mem_cons_of_mem _ hz))
      refine ⟨List.mem_cons_of_mem _ h1, fun z hz => ?_⟩
      rcases List.mem_cons.1 hz with rfl | hz
      · intro hc
        exact h2 x (by simp) (lexB_trans h hc)
      · exact h2 z hz
    | false =>
      have hN2 : ∀ z ∈ b :: xs, z.length = N := fun z hz => by
        rcases List.mem_cons.1 hz with rfl | hz
        · exact hN _ (by simp)
        · exact hN _ (by simp [hz])
      obtain ⟨h1, h2⟩ := minLF_spec xs b hN2
      refine ⟨?_, fun z hz => ?_⟩
      · rcases List.mem_cons.1 h1 with e | e
        · rw [cond_false, e]; simp
        · exact List.mem_cons_of_mem _ (List.mem_cons_of_mem _ e)
      · rcases List.mem_cons.1 hz with rfl | hz
        · exact h2 z (by simp)
        · rcases List.mem_cons.1 hz with rfl | hz
          · intro hc
            by_cases hb : lexB (minLF xs b) b = true
            · have := lexB_trans hc hb
              rw [h] at this
              cases this
            · have e := lexB_tri (by rw [hN2 _ h1, hN2 b (by simp)]) hb (h2 b (by simp))
              rw [cond_false, e, h] at hc
              cases hc
          · exact h2 z (by simp [hz])

/-- The least one does not hang on the order. -/
theorem minLF_same {N : Nat} {xs ys : List (List (Int × Int))} {b c : List (Int × Int)} (h1 : ∀ z ∈ b :: xs, z.length = N) (h2 : ∀ z ∈ b :: xs, z ∈ c :: ys) (h3 : ∀ z ∈ c :: ys, z ∈ b :: xs) : minLF xs b = minLF ys c := by
  obtain ⟨a1, a2⟩ := minLF_spec xs b h1
  obtain ⟨c1, c2⟩ := minLF_spec ys c (fun z hz => h1 z (h3 z hz))
  exact lexB_tri (by rw [h1 _ a1, h1 _ (h3 _ c1)]) (c2 _ (h2 _ a1)) (a2 _ (h3 _ c1))

theorem polyB_cr {l : List (Int × Int)} (h : polyB l = true) (i : Nat) (hi : i < l.length) : 0 < cr (ringX l) (ringY l) i (i + 1) := by
  unfold polyB at h
  simp only [Bool.and_eq_true] at h
  have := allF_iff.1 h.2.2.1 i (by omega) (by omega)
  simpa using this

theorem ring_gP (l : List (Int × Int)) (i : Nat) : ringX l i = (gP l (i % l.length)).1 ∧ ringY l i = (gP l (i % l.length)).2 := ⟨rfl, rfl⟩

theorem poly_sm {l : List (Int × Int)} (h : polyB l = true) : ∀ e ∈ l, Sm e := fun e he => by
  obtain ⟨i, hi, rfl⟩ := List.mem_iff_getElem.1 he
  have hs := polyB_small h i
  have hg : l[i] = gP l (i % l.length) := by
    rw [Nat.mod_eq_of_lt hi]
    simp [gP, List.getD_eq_getElem?_getD, List.getElem?_eq_getElem hi]
  rw [hg]
  exact ⟨sm_b hs.1, sm_b hs.2⟩

theorem mod_c {i n : Nat} (h : i < 2 * n) : i % n = if i < n then i else i - n := by
  split
  · rename_i h1; exact Nat.mod_eq_of_lt h1
  · rw [Nat.mod_eq_sub_mod (by omega), Nat.mod_eq_of_lt (by omega)]

theorem frm_rot {l : List (Int × Int)} (h : polyB l = true) {i : Nat} (hi : i < l.length) : Frm (rotL l i) := by
  obtain ⟨n3, n12⟩ := polyB_len h
  refine ⟨by rw [rotL_len]; exact n3, by rw [rotL_len]; exact n12, fun e he => poly_sm h e ?_, ?_⟩
  · unfold rotL at he
    rcases List.mem_append.1 he with he | he
    · exact List.mem_of_mem_drop he
    · exact List.mem_of_mem_take he
  · rw [rotL_get hi (by omega), rotL_get hi (by omega), rotL_get hi (by omega)]
    have := polyB_cr h i hi
    unfold cr at this
    simp only [(ring_gP l _).1, (ring_gP l _).2] at this
    unfold dt
    simp only
    rw [Nat.add_zero]
    intro e
    rw [show i + 1 + 1 = i + 2 by omega] at this
    simp only [Nat.add_zero] at e
    rw [e] at this
    exact absurd this (by omega)

theorem rev_mem {l : List (Int × Int)} {e : Int × Int} (h : e ∈ l.reverse) : e ∈ l := by simpa using h

theorem frm_rev {l : List (Int × Int)} (h : polyB l = true) {i : Nat} (hi : i < l.length) : Frm (rotL l.reverse i) := by
  obtain ⟨n3, n12⟩ := polyB_len h
  have hrl : l.reverse.length = l.length := List.length_reverse
  refine ⟨by rw [rotL_len, hrl]; exact n3, by rw [rotL_len, hrl]; exact n12, fun e he => poly_sm h e (rev_mem ?_), ?_⟩
  · unfold rotL at he
    rcases List.mem_append.1 he with he | he
    · exact List.mem_of_mem_drop he
    · exact List.mem_of_mem_take he
  · rw [rotL_get (by omega) (by omega), rotL_get (by omega) (by omega), rotL_get (by omega) (by omega), hrl]
    have m0 := Nat.mod_lt (i + 0) (show 0 < l.length by omega)
    have m1 := Nat.mod_lt (i + 1) (show 0 < l.length by omega)
    have m2 := Nat.mod_lt (i + 2) (show 0 < l.length by omega)
    rw [rev_get m0, rev_get m1, rev_get m2]
    generalize ht : l.length - 1 - (i + 2) % l.length = t
    have t1 : l.length - 1 - (i + 1) % l.length = (t + 1) % l.length := by
      rw [mod_c (i := i + 1) (by omega), mod_c (i := t + 1) (by omega), ← ht, mod_c (i := i + 2) (by omega)]
      split <;> split <;> split <;> omega
    have t2 : l.length - 1 - (i + 0) % l.length = (t + 2) % l.length := by
      rw [mod_c (i := i + 0) (by omega), mod_c (i := t + 2) (by omega), ← ht, mod_c (i := i + 2) (by omega)]
      split <;> split <;> split <;> omega
    have t0 : t % l.length = t := Nat.mod_eq_of_lt (by omega)
    have := polyB_cr h t (by omega)
    unfold cr at this
    simp only [(ring_gP l _).1, (ring_gP l _).2] at this
    rw [show t + 1 + 1 = t + 2 by omega, t0] at this
    rw [t1, t2]
    unfold dt
    simp only
    intro e
    generalize gP l t = a at *
    generalize gP l ((t + 1) % l.length) = b at *
    generalize gP l ((t + 2) % l.length) = c at *
    grind

theorem frameL_len (l : List (Int × Int)) : (frameL l).length = l.length := by simp [frameL]

def candF (l : List (Int × Int)) (k : Nat) : List (Int × Int) := frameL (rotL l k)

theorem candF_len (l : List (Int × Int)) (k : Nat) : (candF l k).length = l.length := by rw [candF, frameL_len, rotL_len]

theorem minLF_len {N : Nat} {xs : List (List (Int × Int))} {b : List (Int × Int)} (h : ∀ z ∈ b :: xs, z.length = N) : (minLF xs b).length = N := h _ (minLF_spec xs b h).1

/-- The rounds of the program's loop, the first list and the second one. -/
theorem norm_loop {l : List (Int × Int)} (n3 : 3 ≤ l.length) (n12 : l.length ≤ 12) (hf : ∀ i, i < l.length → Frm (rotL l i)) {L : Nat → Int → Int → List (Int × Int) → List (Int × Int) → (Int → Int → List (Int × Int) → List (Int × Int) → Option α) → (Int → Option α) → (List (Int × Int) → Int → Option α) → Option α}
    (hL : ∀ k x x1 p best b2 r0 r1, L (k + 1) x x1 p best b2 r0 r1 = bif decide (x1 < x) then
      bif (decide (0 ≤ x1) && decide (x1 ≤ (((List.length p) : Nat) : Int))) then
        bif (decide (0 ≤ x1) && decide (x1 ≤ (((List.length p) : Nat) : Int))) then
          slices_Concat_impl_polygon_impl_Point_0M2 k (List.take ((List.length p) - x1.toNat) (List.drop x1.toNat p)) (List.take (x1.toNat - 0) (List.drop 0 p)) fun v2 =>
          impl_ledBy k v2 fun v3 =>
          bif Nat.beq (List.length best) 0 then none
          else
            slices_CompareFunc_impl_Point_impl_Point_impl_Point_impl_Point_2F_impl_pointOrder k v3 best fun v4 =>
            bif decide (v4 < 0) then L k x (w64 (x1 + 1)) p v3 b2 r0 r1
            else L k x (w64 (x1 + 1)) p best b2 r0 r1
        else none
      else none
    else b2 x x1 p best) : ∀ (m k i : Nat) (best : List (Int × Int)) b2 r0 r1, i + m = l.length → best.length = l.length → m + 1000000000 < k →
    L k l.length i l best b2 r0 r1 = b2 l.length l.length l (minLF ((List.range' i m).map (candF l)) best)
  | 0, k + 1, i, best, b2, r0, r1, hi, hb, hk => by
    have : i = l.length := by omega
    subst this
    rw [hL, dec_lt_f (by omega)]
    rfl
  | m + 1, k + 1, i, best, b2, r0, r1, hi, hb, hk => by
    have en : w64 ((i : Int) + 1) = ((i + 1 : Nat) : Int) := by rw [w64_of (by omega) (by omega)]; omega
    have hcat : List.take (l.length - i) (List.drop i l) = List.drop i l := take_all_sub i
    have hcl := candF_len l i
    obtain ⟨v, hv, e⟩ := cmpF_eq (α := α) k (a := candF l i) (b := best) (by rw [hcl, hb]) (by omega) (by omega)
    have hne : Nat.beq best.length 0 = false := by
      cases hbb : best with
      | nil => rw [hbb] at hb; simp at hb; omega
      | cons => rfl
    rw [hL, dec_lt_t (by omega), dec_le_t (by omega), dec_le_t (by omega)]
    simp only [Bool.and_self, cond_true, Int.toNat_natCast, hcat, List.drop_zero, Nat.sub_zero]
    rw [concat2_eq k _ _ (by simp; omega) (by simp; omega)]
    change impl_ledBy k (rotL l i) _ = _
    rw [impl_led_eq k (by omega) (hf i (by omega)), hne, cond_false]
    change slices_CompareFunc_impl_Point_impl_Point_impl_Point_impl_Point_2F_impl_pointOrder k (candF l i) best _ = _
    rw [e, hv, en, List.range'_succ, List.map_cons, minLF]
    cases hlx : lexB (candF l i) best with
    | true => exact norm_loop n3 n12 hf hL m k (i + 1) (candF l i) b2 r0 r1 (by omega) hcl (by omega)
    | false => exact norm_loop n3 n12 hf hL m k (i + 1) best b2 r0 r1 (by omega) hb (by omega)
  | _, 0, _, _, _, _, _, _, _, hk => by omega

/-- The normal form. -/
def normP (l : List (Int × Int)) : List (Int × Int) :=
  minLF ((List.range' 0 l.length).map (candF l.reverse)) (minLF ((List.range' 1 (l.length - 1)).map (candF l)) (candF l 0))

theorem clone_eq (k : Nat) {l : List (Int × Int)} (h0 : 0 < l.length) (hl : l.length ≤ 4000) (r : List (Int × Int) → Option α) : slices_Clone_impl_polygon_impl_Point k l r = r l := by
  have hne : Nat.beq l.length 0 = false := by
    cases l with
    | nil => simp at h0
    | cons => rfl
  unfold slices_Clone_impl_polygon_impl_Point
  rw [hne, cond_false, Nat.zero_add, dec_nle_t (by rw [big_val]; omega), cond_true, List.nil_append]

theorem allcrd (k : Nat) {l : List (Int × Int)} (hl : l.length ≤ 4000) (hk : 4000 < k) (r : Bool → Option α) : impl_points k l r = r (l.all fun e => crd e.1 && crd e.2) := impl_points_find k l (by rw [big_val]; omega) (by omega) r

theorem impl_normal_eq (k : Nat) (hk : 1000000100 < k) {l : List (Int × Int)} (hp : polyB l = true) (r0 : Int → Option α) (r1 : List (Int × Int) → Int → Option α) : impl_polygon_normal k l r0 r1 = bif (normP l).all (fun e => crd e.1 && crd e.2) then r1 (normP l) 0 else r0 3 := by
  obtain ⟨n3, n12⟩ := polyB_len hp
  have hrl : l.reverse.length = l.length := List.length_reverse
  have f1 := fun i hi => frm_rot hp (i := i) hi
  have f2 : ∀ i, i < l.reverse.length → Frm (rotL l.reverse i) := fun i hi => frm_rev hp (i := i) (by omega)
  have hA : ∀ z ∈ candF l 0 :: (List.range' 1 (l.length - 1)).map (candF l), z.length = l.length := fun z hz => by
    rcases List.mem_cons.1 hz with rfl | hz
    · exact candF_len l 0
    · obtain ⟨i, _, rfl⟩ := List.mem_map.1 hz
      exact candF_len l i
  have hBl := minLF_len hA
  generalize hB : minLF ((List.range' 1 (l.length - 1)).map (candF l)) (candF l 0) = B at hBl
  have L1 := fun b2 => norm_loop (α := α) n3 n12 f1 (L := impl_polygon_normal_l5) (fun k x x1 p best b2 r0 r1 => by rw [impl_polygon_normal_l5]) (l.length - 1) k 1 (candF l 0) b2 r0 r1 (by omega) (candF_len l 0) (by omega)
  have L2 := fun best hb b2 => norm_loop (α := α) (l := l.reverse) (by omega) (by omega) f2 (L := impl_polygon_normal_l100005) (fun k x x1 p best b2 r0 r1 => by rw [impl_polygon_normal_l100005]) (l.length - 1) k 1 best b2 r0 r1 (by omega) hb (by omega)
  simp only [Int.natCast_one] at L1 L2
  rw [hB] at L1
  have hN : normP l = minLF ((List.range' 1 (l.length - 1)).map (candF l.reverse)) (bif lexB (candF l.reverse 0) B then candF l.reverse 0 else B) := by
    unfold normP
    rw [hB]
    obtain ⟨m, hm⟩ : ∃ m, l.length = m + 1 := ⟨l.length - 1, by omega⟩
    rw [hm, List.range'_succ, List.map_cons, minLF]
    rfl
  have hNl : (normP l).length = l.length := by
    unfold normP
    rw [hB]
    refine minLF_len fun z hz => ?_
    rcases List.mem_cons.1 hz with rfl | hz
    · exact hBl
    · obtain ⟨i, _, rfl⟩ := List.mem_map.1 hz
      rw [candF_len, hrl]
  have hneB : Nat.beq B.length 0 = false := by
    cases hbb : B with
    | nil => rw [hbb] at hBl; simp at hBl; omega
    | cons => rfl
  obtain ⟨v, hv, e⟩ := cmpF_eq (α := α) k (a := candF l.reverse 0) (b := B) (by rw [candF_len, hrl, hBl]) (by rw [candF_len]; omega) (by omega)
  have cat : ∀ l' : List (Int × Int), l'.length = l.length → ∀ r : List (Int × Int) → Option α, slices_Concat_impl_polygon_impl_Point_0M2 k (List.take (l'.length - 0) (List.drop 0 l')) (List.take 0 (List.drop 0 l')) r = r (rotL l' 0) := fun l' hl' r => by
    rw [Nat.sub_zero, List.drop_zero, List.take_length, List.take_zero, concat2_eq k _ _ (by simp; omega) (by simp; omega)]
    rfl
  have fin : ∀ best, best.length = l.length → (bif best.all (fun e => crd e.1 && crd e.2) then r1 best 0 else r0 3) = slices_Clone_impl_polygon_impl_Point k l.reverse fun v13 => slices_Reverse_impl_polygon_impl_Point k v13 fun _ => impl_points k best fun v15 => bif (!v15) then r0 3 else r1 best 0 := fun best hb => by
    rw [clone_eq k (by omega) (by omega), reverse_eq k (by omega) (by omega), allcrd k (by omega) (by omega)]
    cases (best.all fun e => crd e.1 && crd e.2) <;> rfl
  unfold impl_polygon_normal
  rw [dec_lt_t (by omega), dec_le_t (by omega)]
  simp only [Bool.and_self, cond_true]
  rw [cat l rfl, impl_led_eq k (by omega) (f1 0 (by omega))]
  change impl_polygon_normal_l5 k _ 1 l (candF l 0) _ r0 r1 = _
  rw [L1, clone_eq k (by omega) (by omega), reverse_eq k (by omega) (by omega), hrl, dec_lt_t (by omega), dec_le_t (by omega)]
  simp only [Bool.and_self, cond_true]
  have c2 := cat l.reverse hrl
  rw [hrl] at c2 L2
  rw [c2, impl_led_eq k (by omega) (f2 0 (by omega)), hneB, cond_false]
  change slices_CompareFunc_impl_Point_impl_Point_impl_Point_impl_Point_2F_impl_pointOrder k (candF l.reverse 0) B _ = _
  rw [e, hv]
  cases hlx : lexB (candF l.reverse 0) B with
  | true =>
    rw [hlx, cond_true] at hN
    rw [cond_true]
    change impl_polygon_normal_l100005 k _ 1 l.reverse (candF l.reverse 0) _ r0 r1 = _
    rw [L2 _ (by rw [candF_len, hrl]), ← hN]
    exact (fin _ hNl).symm
  | false =>
    rw [hlx, cond_false] at hN
    rw [cond_false, L2 _ hBl, ← hN]
    exact (fin _ hNl).symm

theorem own_l10 {l : List (Int × Int)} (n3 : 3 ≤ l.length) (n12 : l.length ≤ 12) (way : Int) (hw : way = 0 ∨ way = 1) (best : List (Int × Int)) {i : Nat} (hi : i < l.length) : ∀ (m k j : Nat) (own : List (Int × Int)) b4 (r : List (Int × Int) → Bool → Option α), j + m = l.length → own.length = j → m < k →
    spec_l09Normal_l10 k l.length way i j l best own b4 r = b4 l.length way i l.length l best (own ++ (List.range' j m).map fun t => if way = 0 then gP l ((i + t) % l.length) else gP l ((i + l.length - t) % l.length))
  | 0, k + 1, j, own, b4, r, hj, ho, hk => by
    have : j = l.length := by omega
    subst this
    rw [spec_l09Normal_l10, dec_lt_f (by omega)]
    simp
  | m + 1, k + 1, j, own, b4, r, hj, ho, hk => by
    have en : w64 ((j : Int) + 1) = ((j + 1 : Nat) : Int) := by rw [w64_of (by omega) (by omega)]; omega
    have hn : decide ((l.length : Int) = 0) = false := decide_eq_false (by omega)
    have e1 : Int.tmod (w64 ((i : Int) + (j : Int))) (l.length : Int) = (((i + j) % l.length : Nat) : Int) := by
      rw [w64_of (by omega) (by omega), show (i : Int) + (j : Int) = ((i + j : Nat) : Int) by omega]
      rfl
    have e2 : Int.tmod (w64 (w64 ((i : Int) - (j : Int)) + (l.length : Int))) (l.length : Int) = (((i + l.length - j) % l.length : Nat) : Int) := by
      rw [w64_of (n := (i : Int) - (j : Int)) (by omega) (by omega), w64_of (by omega) (by omega), show (i : Int) - (j : Int) + (l.length : Int) = ((i + l.length - j : Nat) : Int) by omega]
      rfl
    have b1 : (i + j) % l.length < l.length := Nat.mod_lt _ (by omega)
    have b2 : (i + l.length - j) % l.length < l.length := Nat.mod_lt _ (by omega)
    rw [spec_l09Normal_l10, dec_lt_t (by omega), hn, e1, e2, en, dec_nle_t (by rw [big_val]; omega), List.range'_succ, List.map_cons]
    simp only [cond_true, cond_false, Int.toNat_natCast]
    rw [gP_get b1, gP_get b2]
    simp only [Option.bind_some, dec_le_t (Int.natCast_nonneg ((i + j) % l.length)), dec_le_t (Int.natCast_nonneg ((i + l.length - j) % l.length)), dec_lt_t (Int.ofNat_lt.2 b1), dec_lt_t (Int.ofNat_lt.2 b2), Bool.and_self, cond_true]
    rw [own_l10 n3 n12 way hw best hi m k (j + 1) _ b4 r (by omega) (by simp; omega) (by omega), own_l10 n3 n12 way hw best hi m k (j + 1) _ b4 r (by omega) (by simp; omega) (by omega)]
    rcases hw with rfl | rfl
    · simp
    · simp
  | _, 0, _, _, _, _, _, _, hk => by omega

theorem own0 {l : List (Int × Int)} {i : Nat} (hi : i < l.length) : ((List.range' 0 l.length).map fun t => gP l ((i + t) % l.length)) = rotL l i := by
  apply ext_gP (by simp [rotL_len])
  intro t ht
  simp only [List.length_map, List.length_range'] at ht
  rw [rotL_get hi ht, ← List.range_eq_range', gP_map_range _ ht]

theorem own1 {l : List (Int × Int)} {i : Nat} (hi : i < l.length) : ((List.range' 0 l.length).map fun t => gP l ((i + l.length - t) % l.length)) = rotL l.reverse (l.length - 1 - i) := by
  have hrl : l.reverse.length = l.length := List.length_reverse
  apply ext_gP (by simp [rotL_len])
  intro t ht
  simp only [List.length_map, List.length_range'] at ht
  have hm := Nat.mod_lt (l.length - 1 - i + t) (show 0 < l.length by omega)
  rw [rotL_get (by omega) (by omega), ← List.range_eq_range', gP_map_range _ ht, hrl, rev_get hm]
  congr 1
  rw [mod_c (i := i + l.length - t) (by omega), mod_c (i := l.length - 1 - i + t) (by omega)]
  split <;> split <;> omega

/-- What the reference tries, one way or the other. -/
def candS (l : List (Int × Int)) (way : Int) (i : Nat) : List (Int × Int) := if way = 0 then candF l i else candF l.reverse (l.length - 1 - i)

theorem candS_len (l : List (Int × Int)) (way : Int) (i : Nat) : (candS l way i).length = l.length := by
  unfold candS
  split
  · exact candF_len l i
  · rw [candF_len, List.length_reverse]

theorem norm_l6 {l : List (Int × Int)} (hp : polyB l = true) (way : Int) (hw : way = 0 ∨ way = 1) : ∀ (m k i : Nat) (best : List (Int × Int)) b2 (r : List (Int × Int) → Bool → Option α), i + m = l.length → best.length = l.length → m + 1000000020 < k →
    spec_l09Normal_l6 k l.length way i l best b2 r = b2 l.length way l.length l (minLF ((List.range' i m).map (candS l way)) best)
  | 0, k + 1, i, best, b2, r, hi, hb, hk => by
    have : i = l.length := by omega
    subst this
    rw [spec_l09Normal_l6, dec_lt_f (by omega)]
    rfl
  | m + 1, k + 1, i, best, b2, r, hi, hb, hk => by
    obtain ⟨n3, n12⟩ := polyB_len hp
    have en : w64 ((i : Int) + 1) = ((i + 1 : Nat) : Int) := by rw [w64_of (by omega) (by omega)]; omega
    have hne : decide (((best.length : Nat) : Int) = 0) = false := decide_eq_false (by omega)
    have ho := fun b4 => own_l10 (α := α) n3 n12 way hw best (i := i) (by omega) l.length k 0 [] b4 r (by omega) rfl (by omega)
    simp only [Int.natCast_zero, List.nil_append] at ho
    have hc : ∀ r : List (Int × Int) → Option α, spec_l09Frame k ((List.range' 0 l.length).map fun t => if way = 0 then gP l ((i + t) % l.length) else gP l ((i + l.length - t) % l.length)) r = r (candS l way i) := fun r => by
      rcases hw with rfl | rfl
      · simp only [if_true, candS]
        rw [own0 (by omega), spec_frame_eq k (by omega) (frm_rot hp (by omega))]
        rfl
      · simp only [candS, show ¬ ((1 : Int) = 0) by omega, if_false]
        rw [own1 (by omega), spec_frame_eq k (by omega) (frm_rev hp (by omega))]
        rfl
    rw [spec_l09Normal_l6, dec_lt_t (by omega), cond_true, ho, hc, hne, cond_false, spec_lexless_eq k (by rw [candS_len, hb]) (by rw [candS_len]; omega) (by omega), en, List.range'_succ, List.map_cons, minLF]
    cases hlx : lexB (candS l way i) best with
    | true => exact norm_l6 hp way hw m k (i + 1) (candS l way i) b2 r (by omega) (candS_len l way i) (by omega)
    | false => exact norm_l6 hp way hw m k (i + 1) best b2 r (by omega) hb (by omega)
  | _, 0, _, _, _, _, _, _, hk => by omega

theorem spec_normal_eq (k : Nat) (hk : 1000000100 < k) {l : List (Int × Int)} (hp : polyB l = true) (r : List (Int × Int) → Bool → Option α) : spec_l09Normal k l r = r (normP l) ((normP l).all fun e => crd e.1 && crd e.2) := by
  obtain ⟨n3, n12⟩ := polyB_len hp
  obtain ⟨k, rfl⟩ : ∃ k', k = k' + 4 := ⟨k - 4, by omega⟩
  have hA : ∀ z ∈ candF l 0 :: (List.range' 1 (l.length - 1)).map (candF l), z.length = l.length := fun z hz => by
    rcases List.mem_cons.1 hz with rfl | hz
    · exact candF_len l 0
    · obtain ⟨i, _, rfl⟩ := List.mem_map.1 hz
      exact candF_len l i
  have hBl := minLF_len hA
  have w0 : w64 (0 + 1) = 1 := by decide
  have w1 : w64 (1 + 1) = 2 := by decide
  have c0 : (fun i => candS l 0 i) = candF l := by
    funext i
    simp [candS]
  unfold spec_l09Normal
  rw [spec_l09Normal_l3, dec_lt_t (show (0 : Int) < 2 by omega), cond_true]
  -- the first corner of all
  rw [spec_l09Normal_l6, dec_lt_t (by omega), cond_true]
  have ho := fun b4 r => own_l10 (α := α) n3 n12 0 (.inl rfl) [] (i := 0) (by omega) l.length (k + 2) 0 [] b4 r (by omega) rfl (by omega)
  simp only [Int.natCast_zero, List.nil_append, if_true] at ho
  rw [ho, own0 (by omega), spec_frame_eq (k + 2) (by omega) (frm_rot hp (by omega))]
  simp only [List.length_nil, Int.natCast_zero, decide_true, cond_true, w0]
  change spec_l09Normal_l6 (k + 2) _ 0 1 l (candF l 0) _ _ = _
  have s1 := fun b2 r => norm_l6 (α := α) hp 0 (.inl rfl) (l.length - 1) (k + 2) 1 (candF l 0) b2 r (by omega) (candF_len l 0) (by omega)
  simp only [Int.natCast_one] at s1
  rw [s1, show (candS l 0) = candF l from c0]
  generalize hB : minLF ((List.range' 1 (l.length - 1)).map (candF l)) (candF l 0) = B at hBl
  rw [w0, spec_l09Normal_l3, dec_lt_t (show (1 : Int) < 2 by omega), cond_true]
  have s2 := fun b2 r => norm_l6 (α := α) hp 1 (.inr rfl) l.length (k + 2) 0 B b2 r (by omega) hBl (by omega)
  simp only [Int.natCast_zero] at s2
  rw [s2, w1, spec_l09Normal_l3, dec_lt_f (show (2 : Int) ≤ 2 by omega), cond_false]
  have hsame : minLF ((List.range' 0 l.length).map (candS l 1)) B = normP l := by
    unfold normP
    rw [hB]
    refine minLF_same (N := l.length) (fun z hz => ?_) (fun z hz => ?_) (fun z hz => ?_)
    · rcases List.mem_cons.1 hz with rfl | hz
      · exact hBl
      · obtain ⟨i, _, rfl⟩ := List.mem_map.1 hz
        exact candS_len l 1 i
    · rcases List.mem_cons.1 hz with rfl | hz
      · simp
      · obtain ⟨i, hi, rfl⟩ := List.mem_map.1 hz
        simp only [List.mem_range'_1] at hi
        refine List.mem_cons_of_mem _ (List.mem_map.2 ⟨l.length - 1 - i, by simp only [List.mem_range'_1]; omega, ?_⟩)
        simp [candS]
    · rcases List.mem_cons.1 hz with rfl | hz
      · simp
      · obtain ⟨i, hi, rfl⟩ := List.mem_map.1 hz
        simp only [List.mem_range'_1] at hi
        refine List.mem_cons_of_mem _ (List.mem_map.2 ⟨l.length - 1 - i, by simp only [List.mem_range'_1]; omega, ?_⟩)
        simp only [candS, show ¬ ((1 : Int) = 0) by omega, if_false]
        rw [show l.length - 1 - (l.length - 1 - i) = i by omega]
  have hNl : (normP l).length = l.length := by
    rw [← hsame]
    refine minLF_len fun z hz => ?_
    rcases List.mem_cons.1 hz with rfl | hz
    · exact hBl
    · obtain ⟨i, _, rfl⟩ := List.mem_map.1 hz
      exact candS_len l 1 i
  rw [hsame, code_eq _ (normP l) (by rw [big_val]; omega) (by omega)]
  cases (normP l).all fun e => crd e.1 && crd e.2 <;> rfl

theorem normP_len {l : List (Int × Int)} (hp : polyB l = true) : (normP l).length = l.length := by
  obtain ⟨n3, n12⟩ := polyB_len hp
  unfold normP
  refine minLF_len fun z hz => ?_
  rcases List.mem_cons.1 hz with rfl | hz
  · refine minLF_len fun z hz => ?_
    rcases List.mem_cons.1 hz with rfl | hz
    · exact candF_len l 0
    · obtain ⟨i, _, rfl⟩ := List.mem_map.1 hz
      exact candF_len l i
  · obtain ⟨i, _, rfl⟩ := List.mem_map.1 hz
    rw [candF_len, List.length_reverse]

theorem sz_cases2 (k : Nat) (l m : List (Int × Int)) (hlen : l.length ≤ maxLen) (hlen2 : m.length ≤ maxLen) (t : Option α) (e : Option α) (h1 : l.length ≤ 1048576 → m.length ≤ 1048576 → e = t) :
    (laws_szPointS k l 1048576 fun v => bif decide (v < 0) then t else laws_szPointS k m v fun v1 => bif decide (v1 < 0) then t else e) = t := by
  have hm : maxLen = 9223372036854775807 := rfl
  rw [hm] at hlen hlen2
  simp only [laws_szPointS]
  rw [w64_of (n := 1048576 - (l.length : Int)) (by omega) (by omega)]
  by_cases h : (1048576 : Int) - (l.length : Int) < 0
  · rw [decide_eq_true h, cond_true, decide_eq_true (show (-1 : Int) < 0 by omega), cond_true]
  · rw [decide_eq_false h, cond_false, w64_of (n := 1048576 - (l.length : Int) - (m.length : Int)) (by omega) (by omega)]
    by_cases h2 : (1048576 : Int) - (l.length : Int) - (m.length : Int) < 0
    · rw [decide_eq_true h2, cond_true, decide_eq_true (show (-1 : Int) < 0 by omega), cond_true, cond_false]
    · rw [decide_eq_false h2, cond_false, cond_false, cond_false]
      exact h1 (by omega) (by omega)

def likeB (a b : List (Int × Int)) : Bool := decide (a = b)

theorem like_step (x y : Int × Int) (ra rb : List (Int × Int)) : decide (x :: ra = y :: rb) = ((decide (x.1 = y.1) && decide (x.2 = y.2)) && decide (ra = rb)) := by
  by_cases h : x = y
  · subst h; simp
  · have : (decide (x.1 = y.1) && decide (x.2 = y.2)) = false := by
      rw [Bool.and_eq_false_iff, decide_eq_false_iff_not, decide_eq_false_iff_not]
      by_cases e1 : x.1 = y.1
      · exact .inr fun e2 => h (Prod.ext e1 e2)
      · exact .inl e1
    rw [this]
    simp [h]

theorem equal_l4 {a b : List (Int × Int)} (hab : a.length = b.length) (hl : a.length ≤ 4000) : ∀ (ra rb : List (Int × Int)) (k i : Nat) (r : Bool → Option α), a.drop i = ra → b.drop i = rb → i ≤ a.length → ra.length < k →
    slices_Equal_impl_Point_impl_Point_l4 k a.length i a b (fun _ _ _ _ => r true) r = r (decide (ra = rb))
  | [], rb, k + 1, i, r, ha, hb, hi, _ => by
    have h1 := drop_nil ha
    have : rb = [] := by rw [← hb]; exact List.drop_eq_nil_of_le (by omega)
    rw [slices_Equal_impl_Point_impl_Point_l4, dec_lt_f (by omega), this]
    rfl
  | x :: ra, rb, k + 1, i, r, ha, hb, hi, hk => by
    obtain ⟨h1, h2, h3⟩ := drop_cons ha
    have en : w64 ((i : Int) + 1) = ((i + 1 : Nat) : Int) := by rw [w64_of (by omega) (by omega)]; omega
    match rb, hb with
    | [], hb => have := drop_nil hb; omega
    | y :: rb, hb =>
      obtain ⟨g1, g2, g3⟩ := drop_cons hb
      rw [slices_Equal_impl_Point_impl_Point_l4, dec_lt_t (by omega), dec_le_t (by omega), dec_lt_t (by omega)]
      simp only [Bool.and_self, cond_true, Int.toNat_natCast, h1, g1, Option.bind_some, en]
      rw [equal_l4 hab hl ra rb k (i + 1) r h2 g2 (by omega) (by simp at hk; omega), like_step]
      cases (decide (x.1 = y.1) && decide (x.2 = y.2)) <;> simp
  | _ :: _, _, 0, _, _, _, _, _, hk => by omega
  | [], _, 0, _, _, _, _, _, hk => by omega

theorem equal_eq (k : Nat) {a b : List (Int × Int)} (hl : a.length ≤ 4000) (hk : 4000 < k) (r : Bool → Option α) : slices_Equal_impl_Point_impl_Point k a b r = r (likeB a b) := by
  unfold slices_Equal_impl_Point_impl_Point likeB
  by_cases h : a.length = b.length
  · rw [decide_eq_true (show ((a.length : Nat) : Int) = ((b.length : Nat) : Int) by omega), Bool.not_true, cond_false]
    have := equal_l4 (α := α) h hl a b k 0 r rfl rfl (by omega) (by omega)
    simpa using this
  · rw [decide_eq_false (show ¬ ((a.length : Nat) : Int) = ((b.length : Nat) : Int) by omega), decide_eq_false (fun e : a = b => h (by rw [e]))]
    rfl

theorem like_l10 {a b : List (Int × Int)} (hab : a.length = b.length) (hl : a.length ≤ 4000) : ∀ (ra rb : List (Int × Int)) (k i : Nat) (r : Bool → Int → Option α), a.drop i = ra → b.drop i = rb → i ≤ a.length → ra.length + 1 < k →
    spec_AreLikePolygons_l10 k true i a b (fun s _ _ _ => r s 0) r = r (decide (ra = rb)) 0
  | [], rb, k + 1, i, r, ha, hb, hi, _ => by
    have h1 := drop_nil ha
    have : rb = [] := by rw [← hb]; exact List.drop_eq_nil_of_le (by omega)
    rw [spec_AreLikePolygons_l10, dec_lt_f (by omega), this]
    rfl
  | x :: ra, rb, k + 1, i, r, ha, hb, hi, hk => by
    obtain ⟨h1, h2, h3⟩ := drop_cons ha
    have en : w64 ((i : Int) + 1) = ((i + 1 : Nat) : Int) := by rw [w64_of (by omega) (by omega)]; omega
    match rb, hb with
    | [], hb => have := drop_nil hb; omega
    | y :: rb, hb =>
      obtain ⟨g1, g2, g3⟩ := drop_cons hb
      rw [spec_AreLikePolygons_l10, dec_lt_t (by omega), dec_le_t (by omega), dec_lt_t (by omega)]
      simp only [Bool.and_self, cond_true, Int.toNat_natCast, h1, g1, Option.bind_some, en]
      rw [like_step]
      cases he : (decide (x.1 = y.1) && decide (x.2 = y.2)) with
      | true =>
        rw [like_l10 hab hl ra rb k (i + 1) r h2 g2 (by omega) (by simp at hk; omega), Bool.true_and]
      | false =>
        obtain ⟨k, rfl⟩ : ∃ k', k = k' + 1 := ⟨k - 1, by omega⟩
        rw [spec_AreLikePolygons_l10]
        cases decide ((((i + 1 : Nat) : Int)) < ((a.length : Nat) : Int)) <;> rfl
  | _ :: _, _, 0, _, _, _, _, _, hk => by omega
  | [], _, 0, _, _, _, _, _, hk => by omega

theorem like_both (k : Nat) (hk : 1000000200 < k) (a b : List (Int × Int)) : ∃ v z, (∀ r : Bool → Int → Option α, spec_AreLikePolygons k a b r = r v z) ∧ ∀ r : Bool → Int → Option α, impl_AreLikePolygons k a b r = r v z := by
  simp only [spec_AreLikePolygons, impl_AreLikePolygons, spec_l09Code_0M2, spec_is_eq k (by omega), impl_is_eq k (by omega)]
  cases hp : polyB a with
  | false => exact ⟨false, 1, fun _ => by simp, fun _ => by simp⟩
  | true =>
    cases hq : polyB b with
    | false => exact ⟨false, 1, fun _ => by simp, fun _ => by simp⟩
    | true =>
      obtain ⟨p1, p2⟩ := polyB_len hp
      obtain ⟨q1, q2⟩ := polyB_len hq
      have l1 := normP_len hp
      have l2 := normP_len hq
      have s1 := fun r => spec_normal_eq (α := α) k (by omega) hp r
      have s2 := fun r => spec_normal_eq (α := α) k (by omega) hq r
      have i1 := fun r0 r1 => impl_normal_eq (α := α) k (by omega) hp r0 r1
      have i2 := fun r0 r1 => impl_normal_eq (α := α) k (by omega) hq r0 r1
      cases ha : (normP a).all (fun e => crd e.1 && crd e.2) with
      | false =>
        cases hb : (normP b).all (fun e => crd e.1 && crd e.2) with
        | false => exact ⟨false, 3, fun _ => by simp [s1, s2, ha], fun _ => by simp [i1, i2, ha, hb]⟩
        | true => exact ⟨false, 3, fun _ => by simp [s1, s2, ha], fun _ => by simp [i1, i2, ha, hb]⟩
      | true =>
        cases hb : (normP b).all (fun e => crd e.1 && crd e.2) with
        | false => exact ⟨false, 3, fun _ => by simp [s1, s2, ha, hb], fun _ => by simp [i1, i2, ha, hb]⟩
        | true =>
          refine ⟨likeB (normP a) (normP b), 0, fun r => ?_, fun r => ?_⟩
          · simp only [decide_true, Bool.not_true, cond_false, s1, s2, ha, hb]
            by_cases h : (normP a).length = (normP b).length
            · rw [decide_eq_true (show (((normP a).length : Nat) : Int) = (((normP b).length : Nat) : Int) by omega)]
              have := like_l10 (α := α) h (by omega) (normP a) (normP b) k 0 r rfl rfl (by omega) (by omega)
              simpa [likeB] using this
            · rw [decide_eq_false (show ¬ (((normP a).length : Nat) : Int) = (((normP b).length : Nat) : Int) by omega)]
              obtain ⟨k, rfl⟩ : ∃ k', k = k' + 1 := ⟨k - 1, by omega⟩
              rw [spec_AreLikePolygons_l10]
              have : likeB (normP a) (normP b) = false := decide_eq_false fun e => h (by rw [e])
              rw [this]
              cases decide ((0 : Int) < (((normP a).length : Nat) : Int)) <;> rfl
          · simp only [Bool.not_true, cond_false, i1, i2, ha, hb, cond_true, decide_true, equal_eq k (show (normP a).length ≤ 4000 by omega) (show 4000 < k by omega)]

theorem law_AreLikePolygons (k : Nat) (hk : 1048576 + 1000000200 < k) (l m : List (Int × Int)) (r : Bool → Option α) (hlen : l.length ≤ maxLen) (hlen2 : m.length ≤ maxLen) : laws_FnExactAreLikePolygons k l m r = r true := by
  unfold laws_FnExactAreLikePolygons
  refine sz_cases2 k l m hlen hlen2 _ _ fun hl hm => ?_
  have hb : l.length ≤ big := by rw [big_val]; omega
  have hb2 : m.length ≤ big := by rw [big_val]; omega
  obtain ⟨v, z, h1, h2⟩ := like_both (α := α) k (by omega) l m
  simp [toPointS_ok k l _ hl (by omega), toPointS_ok k m _ hm (by omega), h1, h2, eqPointS_same k l _ hb (by omega), eqPointS_same k m _ hb2 (by omega)]

end Go.Sh
