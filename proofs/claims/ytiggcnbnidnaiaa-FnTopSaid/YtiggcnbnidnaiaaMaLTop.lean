/- Plain laws: what the readings without memory answer. -/
import Derived.Test.YtiggcnbnidnaiaaShLTop
namespace Go.Sh
open Go Go.Ev
variable {α : Type}
structure Ring (n : Nat) (X Y : Nat → Int) : Prop where
 pos : 3 ≤ n
 px : ∀ i, X (i + n) = X i
 py : ∀ i, Y (i + n) = Y i
def cr (X Y : Nat → Int) (i j : Nat) : Int := (X (i + 1) - X i) * (Y (j + 1) - Y j) - (Y (i + 1) - Y i) * (X (j + 1) - X j)
def upV (x y : Int) : Prop := 0 < y ∨ (y = 0 ∧ 0 < x)
instance (x y : Int) : Decidable (upV x y) := by unfold upV; infer_instance
def upS (X Y : Nat → Int) (i : Nat) : Prop := upV (X (i + 1) - X i) (Y (i + 1) - Y i)
theorem akc {x y : Int} (h : ¬ upV x y) (h0 : x ≠ 0 ∨ y ≠ 0) : upV (-x) (-y) := by
 unfold upV at h ⊢
 omega
theorem ZV {a b c d e f : Int} (h1 : upV a b) (h2 : upV c d) (h3 : upV e f) (k1 : 0 ≤ a * d - b * c) (k2 : 0 < c * f - d * e) : 0 < a * f - b * e := by
 have key : d * (a * f - b * e) = b * (c * f - d * e) + f * (a * d - b * c) := by grind
 unfold upV at h1 h2 h3
 have hf : 0 ≤ f := by omega
 have hb : 0 ≤ b := by omega
 rcases h2 with hd | ⟨hd, hc⟩
 ·rcases h1 with hb1 | ⟨hb1, ha⟩
  ·have g1 := Int.mul_pos hb1 k2
   have g2 := Int.mul_nonneg hf k1
   rcases vZ 0 (a * f - b * e) with h | h
   ·exact h
   ·have := Int.mul_nonneg (show 0 ≤ d by omega) (show 0 ≤ -(a * f - b * e) by omega)
    rw [Int.mul_neg] at this
    omega
  ·subst hb1
   have hf1 : 0 < f := by
    rcases h3 with h3 | ⟨h3, he⟩
    ·exact h3
    ·exfalso
     subst h3
     have := Int.mul_pos hd he
     simp at k2
     omega
   have := Int.mul_pos ha hf1
   simp
   exact this
 ·subst hd
  have hf1 : 0 < f := by
   rcases h3 with h3 | ⟨h3, he⟩
   ·exact h3
   ·exfalso
    subst h3
    simp at k2
  have hb0 : b = 0 := by
   rcases vZ 0 b with h | h
   ·have := Int.mul_pos h hc
    simp at k1
    omega
   ·omega
  subst hb0
  have ha : 0 < a := by omega
  have := Int.mul_pos ha hf1
  simp
  exact this
theorem ail (X Y : Nat → Int) (i j : Nat) : cr X Y j i = -(cr X Y i j) := by
 unfold cr
 grind
variable {n : Nat} {X Y : Nat → Int}
theorem Ring.cr_r (h : Ring n X Y) (i j : Nat) : cr X Y i (j + n) = cr X Y i j := by
 unfold cr
 have e : j + n + 1 = j + 1 + n := by omega
 rw [e, h.px, h.px, h.py, h.py]
theorem Ring.cr_l (h : Ring n X Y) (i j : Nat) : cr X Y (i + n) j = cr X Y i j := by
 unfold cr
 have e : i + n + 1 = i + 1 + n := by omega
 rw [e, h.px, h.px, h.py, h.py]
theorem Ring.up_p (h : Ring n X Y) (i : Nat) : upS X Y (i + n) ↔ upS X Y i := by
 unfold upS
 have e : i + n + 1 = i + 1 + n := by omega
 rw [e, h.px, h.px, h.py, h.py]
structure Once (n : Nat) (X Y : Nat → Int) (s m : Nat) : Prop where
 ring : Ring n X Y
 m0 : 1 ≤ m
 m1 : m < n
 turn : ∀ i, 0 < cr X Y i (i + 1)
 up : ∀ j, s ≤ j → j < s + m → upS X Y j
 low : ∀ j, s + m ≤ j → j < s + n → ¬ upS X Y j
theorem amZ (h : ∀ i, 0 < cr X Y i (i + 1)) (i : Nat) : X (i + 1) - X i ≠ 0 ∨ Y (i + 1) - Y i ≠ 0 := by
 have := h i
 rcases Classical.em (X (i + 1) - X i = 0) with h1 | h1
 ·rcases Classical.em (Y (i + 1) - Y i = 0) with h2 | h2
  ·exfalso
   unfold cr at this
   rw [h1, h2] at this
   simp at this
  ·exact .inr h2
 ·exact .inl h1
theorem Px (h : ∀ i, 0 < cr X Y i (i + 1)) {i : Nat} (hl : ¬ upS X Y i) : upV (-(X (i + 1) - X i)) (-(Y (i + 1) - Y i)) := akc hl (amZ h i)
theorem aov {i j k : Nat} (h1 : upS X Y i) (h2 : upS X Y j) (h3 : upS X Y k) (k1 : 0 ≤ cr X Y i j) (k2 : 0 < cr X Y j k) : 0 < cr X Y i k := ZV h1 h2 h3 k1 k2
theorem aag (a b c d : Int) : -a * -d - -b * -c = a * d - b * c := by grind
theorem anp (h : ∀ i, 0 < cr X Y i (i + 1)) {i j k : Nat} (h1 : ¬ upS X Y i) (h2 : ¬ upS X Y j) (h3 : ¬ upS X Y k) (k1 : 0 ≤ cr X Y i j) (k2 : 0 < cr X Y j k) : 0 < cr X Y i k := by
 have := ZV (Px h h1) (Px h h2) (Px h h3) (by rw [aag]; exact k1) (by rw [aag]; exact k2)
 rw [aag] at this
 exact this
theorem an3 (h : ∀ i, 0 < cr X Y i (i + 1)) {i j k : Nat} (h1 : upS X Y i) (h2 : ¬ upS X Y j) (h3 : ¬ upS X Y k) (k1 : cr X Y i j ≤ 0) (k2 : 0 < cr X Y j k) : cr X Y i k < 0 := by
 have := ZV h1 (Px h h2) (Px h h3) (by unfold cr at k1; rw [Int.mul_neg, Int.mul_neg]; omega) (by rw [aag]; exact k2)
 rw [Int.mul_neg, Int.mul_neg] at this
 unfold cr
 omega
theorem aoe (h : ∀ i, 0 < cr X Y i (i + 1)) {i j k : Nat} (h1 : ¬ upS X Y i) (h2 : upS X Y j) (h3 : upS X Y k) (k1 : cr X Y i j ≤ 0) (k2 : 0 < cr X Y j k) : cr X Y i k < 0 := by
 have := ZV (Px h h1) h2 h3 (by unfold cr at k1; rw [Int.neg_mul, Int.neg_mul]; omega) k2
 rw [Int.neg_mul, Int.neg_mul] at this
 unfold cr
 omega
variable {s m : Nat}
theorem Once.mono_up (h : Once n X Y s m) {i : Nat} (hi : s ≤ i) : ∀ d, i + d + 1 < s + m → 0 < cr X Y i (i + d + 1)
 | 0, _ => h.turn i
 | d + 1, hd => aov (h.up i hi (by omega)) (h.up (i + d + 1) (by omega) (by omega)) (h.up (i + (d + 1) + 1) (by omega) (by omega)) (Int.le_of_lt (h.mono_up hi d (by omega))) (h.turn (i + d + 1))
theorem Once.mono_low (h : Once n X Y s m) {i : Nat} (hi : s + m ≤ i) : ∀ d, i + d + 1 < s + n → 0 < cr X Y i (i + d + 1)
 | 0, _ => h.turn i
 | d + 1, hd => anp h.turn (h.low i hi (by omega)) (h.low (i + d + 1) (by omega) (by omega)) (h.low (i + (d + 1) + 1) (by omega) (by omega)) (Int.le_of_lt (h.mono_low hi d (by omega))) (h.turn (i + d + 1))
theorem Once.up_lt (h : Once n X Y s m) {i j : Nat} (hi : s ≤ i) (hij : i < j) (hj : j < s + m) : 0 < cr X Y i j := by
 have := h.mono_up hi (j - i - 1) (by omega)
 rwa [show i + (j - i - 1) + 1 = j by omega] at this
theorem Once.low_lt (h : Once n X Y s m) {i j : Nat} (hi : s + m ≤ i) (hij : i < j) (hj : j < s + n) : 0 < cr X Y i j := by
 have := h.mono_low hi (j - i - 1) (by omega)
 rwa [show i + (j - i - 1) + 1 = j by omega] at this
theorem Once.falls (h : Once n X Y s m) {i j : Nat} (hi : s ≤ i) (hi2 : i < s + n) (hij : i < j) (hj : j + 1 < i + n) (hc : cr X Y i j ≤ 0) : cr X Y i (j + 1) < 0 := by
 have hr := h.ring
 have hm := h.m1
 rcases Nat.lt_or_ge i (s + m) with hu | hu
 ·
   have hiu := h.up i hi hu
   rcases Nat.lt_or_ge j (s + m) with h1 | h1
   ·have := h.up_lt hi hij h1
    omega
   ·rcases Nat.lt_or_ge (j + 1) (s + n) with h2 | h2
    ·exact an3 h.turn hiu (h.low j h1 (by omega)) (h.low (j + 1) (by omega) h2) hc (h.turn j)
    ·have e : j + 1 = (j + 1 - n) + n := by omega
     rw [e, hr.cr_r, ail]
     have := h.up_lt (i := j + 1 - n) (j := i) (by omega) (by omega) hu
     omega
 ·have hil := h.low i hu hi2
  rcases Nat.lt_or_ge j (s + n) with h1 | h1
  ·have := h.low_lt hu hij h1
   omega
  ·have e0 : j = (j - n) + n := by omega
   have e : j + 1 = (j + 1 - n) + n := by omega
   rcases Nat.lt_or_ge (j + 1) (s + n + m) with h2 | h2
   ·have u1 : upS X Y j := by rw [e0, hr.up_p]; exact h.up _ (by omega) (by omega)
    have u2 : upS X Y (j + 1) := by rw [e, hr.up_p]; exact h.up _ (by omega) (by omega)
    exact aoe h.turn hil u1 u2 hc (h.turn j)
   ·rw [e, hr.cr_r, ail]
    have := h.low_lt (i := j + 1 - n) (j := i) (by omega) (by omega) hi2
    omega
def ori (X Y : Nat → Int) (i k : Nat) : Int := (X (i + 1) - X i) * (Y k - Y (i + 1)) - (Y (i + 1) - Y i) * (X k - X (i + 1))
theorem aat (i k : Nat) : ori X Y i (k + 1) = ori X Y i k + cr X Y i k := by
 unfold ori cr
 grind
theorem Ring.ori_p (h : Ring n X Y) (i k : Nat) : ori X Y i (k + n) = ori X Y i k := by
 unfold ori
 rw [h.px, h.py]
theorem Ring.ori_l (h : Ring n X Y) (i k : Nat) : ori X Y (i + n) k = ori X Y i k := by
 unfold ori
 have e : i + n + 1 = i + 1 + n := by omega
 rw [e, h.px, h.px, h.py, h.py]
theorem adJ (i : Nat) : ori X Y i i = 0 ∧ ori X Y i (i + 1) = 0 := by
 unfold ori
 grind
theorem Once.falls_on (h : Once n X Y s m) {i j : Nat} (hi : s ≤ i) (hi2 : i < s + n) (hij : i < j) (hc : cr X Y i j ≤ 0) : ∀ d, j + d + 1 < i + n → cr X Y i (j + d + 1) < 0
 | 0, hd => h.falls hi hi2 hij hd hc
 | d + 1, hd => h.falls hi hi2 (by omega) hd (Int.le_of_lt (h.falls_on hi hi2 hij hc d (by omega)))
theorem Once.left (h : Once n X Y s m) {i : Nat} (hi : s ≤ i) (hi2 : i < s + n) : ∀ d, i + d + 2 < i + n → 0 < ori X Y i (i + d + 2) := by
 have hr := h.ring
 have grow : ∀ d, (∀ j, i < j → j ≤ i + d + 1 → 0 < cr X Y i j) → 0 < ori X Y i (i + d + 2) := by
  intro d
  induction d with
  | zero =>
    intro hj
    rw [aat (i := i) (k := i + 1), (adJ i).2]
    have := hj (i + 1) (by omega) (by omega)
    omega
  | succ d ih =>
    intro hj
    rw [show i + (d + 1) + 2 = (i + d + 2) + 1 by omega, aat]
    have h1 := ih fun j a b => hj j a (by omega)
    have h2 := hj (i + d + 2) (by omega) (by omega)
    omega
 have back : ∀ d, ∀ k, k + d + 1 = i + n → i < k → (∀ j, k ≤ j → j < i + n → cr X Y i j < 0) → 0 < ori X Y i k := by
  intro d
  induction d with
  | zero =>
    intro k hk hik hj
    have h1 := aat (X := X) (Y := Y) i k
    rw [show k + 1 = i + n by omega, hr.ori_p, (adJ i).1] at h1
    have := hj k (by omega) (by omega)
    omega
  | succ d ih =>
    intro k hk hik hj
    have h1 := aat (X := X) (Y := Y) i k
    have h2 := ih (k + 1) (by omega) (by omega) fun j a b => hj j (by omega) b
    have := hj k (by omega) (by omega)
    omega
 intro d hd
 by_cases hall : ∀ j, i < j → j ≤ i + d + 1 → 0 < cr X Y i j
 ·exact grow d hall
 ·obtain ⟨j, hj⟩ := Classical.not_forall.1 hall
  simp only [Classical.not_imp, Int.not_lt] at hj
  obtain ⟨h1, h2, h3⟩ := hj
  refine back (n - d - 3) (i + d + 2) (by omega) (by omega) fun l a b => ?_
  have := h.falls_on hi hi2 h1 h3 (l - j - 1) (by omega)
  rwa [show j + (l - j - 1) + 1 = l by omega] at this
def Glob (n : Nat) (X Y : Nat → Int) : Prop := ∀ i d, d + 2 < n → 0 < ori X Y i (i + d + 2)
def Loc (n : Nat) (X Y : Nat → Int) : Prop := (∀ i, 0 < cr X Y i (i + 1)) ∧ ∃ t, t < n ∧ ¬ upS X Y t ∧ upS X Y (t + 1) ∧ ∀ j, j < n → ¬ upS X Y j → upS X Y (j + 1) → j = t
theorem agk (P : Nat → Prop) : ∀ N, P N → ∃ d, d ≤ N ∧ P d ∧ ∀ e, e < d → ¬ P e
 | 0, h => ⟨0, by omega, h, fun e he => by omega⟩
 | N + 1, h => by
   by_cases hl : ∃ e, e ≤ N ∧ P e
   ·obtain ⟨e, he, hp⟩ := hl
    obtain ⟨d, h1, h2, h3⟩ := agk (fun x => P x ∧ x ≤ e) e ⟨hp, Nat.le_refl _⟩ |> fun ⟨d, a, b, c⟩ => (⟨d, a, b.1, fun x hx hPx => c x hx ⟨hPx, by omega⟩⟩ : ∃ d, d ≤ e ∧ P d ∧ ∀ x, x < d → ¬ P x)
    exact ⟨d, by omega, h2, h3⟩
   ·exact ⟨N + 1, by omega, h, fun e he hp => hl ⟨e, by omega, hp⟩⟩
theorem Loc.once (hr : Ring n X Y) (h : Loc n X Y) : ∃ s m, Once n X Y s m := by
 obtain ⟨ht, t, htn, hlow, hup, huniq⟩ := h
 have hlow2 : ¬ upS X Y (t + n) := fun h => hlow ((hr.up_p t).1 h)
 have hp := hr.pos
 obtain ⟨m, hm1, hm2, hm3⟩ := agk (fun d => ¬ upS X Y (t + 1 + d)) (n - 1) (by
  rw [show t + 1 + (n - 1) = t + n by omega]
  exact hlow2)
 have hm0 : 1 ≤ m := by
  rcases Nat.lt_or_ge 0 m with h | h
  ·exact h
  ·exfalso
   have : m = 0 := by omega
   subst this
   exact hm2 hup
 refine ⟨t + 1, m, ⟨hr, hm0, by omega, ht, fun j h1 h2 => ?_, fun j h1 h2 => ?_⟩⟩
 ·have := hm3 (j - (t + 1)) (by omega)
  rw [show t + 1 + (j - (t + 1)) = j by omega] at this
  exact Classical.not_not.1 this
 ·have key : ∀ d, t + 1 + m + d < t + 1 + n → ¬ upS X Y (t + 1 + m + d) := by
   intro d
   induction d with
   | zero => intro _; exact hm2
   | succ d ih =>
     intro hd hu
     have h1 := ih (by omega)
     rcases Nat.lt_or_ge (t + 1 + m + d) n with h3 | h3
     ·have := huniq _ h3 h1 hu
      omega
     ·have e1 : t + 1 + m + d = (t + 1 + m + d - n) + n := by omega
      have e2 : t + 1 + m + (d + 1) = (t + 1 + m + d - n + 1) + n := by omega
      rw [e1, hr.up_p] at h1
      rw [e2, hr.up_p] at hu
      have := huniq _ (by omega) h1 hu
      omega
  have := key (j - (t + 1 + m)) (by omega)
  rwa [show t + 1 + m + (j - (t + 1 + m)) = j by omega] at this
theorem Loc.glob (hr : Ring n X Y) (h : Loc n X Y) : Glob n X Y := by
 obtain ⟨s, m, ho⟩ := h.once hr
 have hp := hr.pos
 have key : ∀ q i d, s ≤ i + n * q → i + n * q < s + n → d + 2 < n → 0 < ori X Y i (i + d + 2) := by
  intro q
  induction q with
  | zero => intro i d h1 h2 hd; exact ho.left (by simpa using h1) (by simpa using h2) d (by omega)
  | succ q ih =>
    intro i d h1 h2 hd
    have := ih (i + n) d (by rw [Nat.mul_add] at h1; omega) (by rw [Nat.mul_add] at h2; omega) hd
    rw [hr.ori_l, show i + n + d + 2 = i + d + 2 + n by omega, hr.ori_p] at this
    exact this
 have down : ∀ q i d, s ≤ i → i < s + n * q → d + 2 < n → 0 < ori X Y i (i + d + 2) := by
  intro q
  induction q with
  | zero => intro i d h1 h2; omega
  | succ q ih =>
    intro i d h1 h2 hd
    rcases Nat.lt_or_ge i (s + n) with h3 | h3
    ·exact ho.left h1 h3 d (by omega)
    ·have := ih (i - n) d (by omega) (by rw [Nat.mul_add] at h2; omega) hd
     rw [← hr.ori_l, ← hr.ori_p, show i - n + n = i by omega, show i - n + d + 2 + n = i + d + 2 by omega] at this
     exact this
 intro i d hd
 rcases Nat.lt_or_ge i s with h1 | h1
 ·
   have up : ∀ q i d, i < s → s ≤ i + n * q → d + 2 < n → 0 < ori X Y i (i + d + 2) := by
    intro q
    induction q with
    | zero => intro i d h1 h2; omega
    | succ q ih =>
      intro i d h1 h2 hd
      have : 0 < ori X Y (i + n) (i + n + d + 2) := by
       rcases Nat.lt_or_ge (i + n) s with h3 | h3
       ·exact ih (i + n) d h3 (by rw [Nat.mul_add] at h2; omega) hd
       ·exact down 1 (i + n) d h3 (by omega) hd
      rw [hr.ori_l, show i + n + d + 2 = i + d + 2 + n by omega, hr.ori_p] at this
      exact this
   refine up s i d h1 ?_ hd
   have : s * 1 ≤ s * n := Nat.mul_le_mul_left _ (by omega)
   rw [Nat.mul_comm n s]
   omega
 ·refine down (i + 1) i d h1 ?_ hd
  have : (i + 1) * 1 ≤ (i + 1) * n := Nat.mul_le_mul_left _ (by omega)
  rw [Nat.mul_comm n (i + 1)]
  omega
theorem Glob.turn (hr : Ring n X Y) (h : Glob n X Y) (i : Nat) : 0 < cr X Y i (i + 1) := by
 have hp := hr.pos
 have := h i 0 (by omega)
 rw [show i + 0 + 2 = (i + 1) + 1 by omega, aat, (adJ i).2] at this
 omega
theorem Glob.least (hr : Ring n X Y) (h : Glob n X Y) {t : Nat} (hl : ¬ upS X Y t) (hu : upS X Y (t + 1)) : ∀ d, 1 ≤ d → d < n → upV (X (t + 1 + d) - X (t + 1)) (Y (t + 1 + d) - Y (t + 1)) := by
 have ht := h.turn hr
 intro d hd hdn
 have hln := Px ht hl
 rcases Nat.lt_or_ge d 2 with h1 | h1
 ·have : d = 1 := by omega
  subst this
  exact hu
 ·rcases Nat.lt_or_ge d (n - 1) with h2 | h2
  ·have o1 := h t (d - 1) (by omega)
   have o2 := h (t + 1) (d - 2) (by omega)
   rw [show t + (d - 1) + 2 = t + 1 + d by omega] at o1
   rw [show t + 1 + (d - 2) + 2 = t + 1 + d by omega] at o2
   rcases Classical.em (upV (X (t + 1 + d) - X (t + 1)) (Y (t + 1 + d) - Y (t + 1))) with hv | hv
   ·exact hv
   ·exfalso
    have hne : X (t + 1 + d) - X (t + 1) ≠ 0 ∨ Y (t + 1 + d) - Y (t + 1) ≠ 0 := by
     rcases Classical.em (X (t + 1 + d) - X (t + 1) = 0) with g1 | g1
     ·rcases Classical.em (Y (t + 1 + d) - Y (t + 1) = 0) with g2 | g2
      ·exfalso
       unfold ori at o1
       rw [g1, g2] at o1
       simp at o1
      ·exact .inr g2
     ·exact .inl g1
    have hw := akc hv hne
    have hh := ht t
    unfold upS at hu
    have := ZV hln hw hu (by unfold ori at o1; rw [aag]; exact Int.le_of_lt o1) (by unfold ori at o2; grind)
    unfold cr at hh
    rw [Int.neg_mul, Int.neg_mul] at this
    omega
  ·have : d = n - 1 := by omega
   subst this
   rw [show t + 1 + (n - 1) = t + n by omega, hr.px, hr.py]
   rw [Int.neg_sub, Int.neg_sub] at hln
   exact hln
theorem ahZ {x y : Int} (h1 : upV x y) (h2 : upV (-x) (-y)) : False := by
 unfold upV at h1 h2
 omega
theorem Glob.loc (hr : Ring n X Y) (h : Glob n X Y) : Loc n X Y := by
 have hp := hr.pos
 have ht := h.turn hr
 refine ⟨ht, ?_⟩
 have hex : ∃ t, t < n ∧ ¬ upS X Y t ∧ upS X Y (t + 1) := by
  rcases Classical.em (∃ t, t < n ∧ ¬ upS X Y t ∧ upS X Y (t + 1)) with g | g
  ·exact g
  ·exfalso
   have gno : ∀ j, ¬ upS X Y j → ¬ upS X Y (j + 1) := by
    have : ∀ q j, j < n + n * q → ¬ upS X Y j → ¬ upS X Y (j + 1) := by
     intro q
     induction q with
     | zero => intro j hj h1 h2; exact g ⟨j, by simpa using hj, h1, h2⟩
     | succ q ih =>
       intro j hj h1 h2
       rcases Nat.lt_or_ge j n with h3 | h3
       ·exact g ⟨j, h3, h1, h2⟩
       ·have e1 : j = (j - n) + n := by omega
        have e2 : j + 1 = (j - n + 1) + n := by omega
        rw [e1, hr.up_p] at h1
        rw [e2, hr.up_p] at h2
        exact ih (j - n) (by rw [Nat.mul_add] at hj; omega) h1 h2
    intro j
    refine this j j ?_
    have : j * 1 ≤ j * n := Nat.mul_le_mul_left _ (by omega)
    rw [Nat.mul_comm n j]
    omega
   by_cases ha : ∃ j, ¬ upS X Y j
   ·obtain ⟨j, hj⟩ := ha
    have all : ∀ d, ¬ upS X Y (j + d) := by
     intro d
     induction d with
     | zero => exact hj
     | succ d ih => exact gno _ ih
    have mono : ∀ d, Y (j + d) ≤ Y j ∧ (Y (j + d) = Y j → X (j + d) ≤ X j ∧ (1 ≤ d → X (j + d) < X j)) := by
     intro d
     induction d with
     | zero => simp
     | succ d ih =>
       have h1 := Px ht (all d)
       unfold upV at h1
       rw [← Nat.add_assoc]
       refine ⟨by omega, fun e => ?_⟩
       have h2 : Y (j + d) = Y j := by omega
       have h3 := ih.2 h2
       refine ⟨by omega, fun _ => by omega⟩
    have := (mono n).2 (hr.py j)
    have h2 := this.2 (by omega)
    rw [hr.px] at h2
    omega
   ·have all : ∀ j, upS X Y j := fun j => by
     rcases Classical.em (upS X Y j) with h1 | h1
     ·exact h1
     ·exact absurd ⟨j, h1⟩ ha
    have mono : ∀ d, Y 0 ≤ Y d ∧ (Y d = Y 0 → X 0 ≤ X d ∧ (1 ≤ d → X 0 < X d)) := by
     intro d
     induction d with
     | zero => simp
     | succ d ih =>
       have h1 := all d
       unfold upS upV at h1
       refine ⟨by omega, fun e => ?_⟩
       have h2 : Y d = Y 0 := by omega
       have h3 := ih.2 h2
       refine ⟨by omega, fun _ => by omega⟩
    have e1 := hr.py 0
    have e2 := hr.px 0
    rw [Nat.zero_add] at e1 e2
    have := ((mono n).2 e1).2 (by omega)
    omega
 obtain ⟨t, htn, hl, hu⟩ := hex
 refine ⟨t, htn, hl, hu, fun j hj hjl hju => ?_⟩
 rcases Nat.lt_trichotomy j t with h1 | h1 | h1
 ·exfalso
  have a1 := h.least hr hjl hju (t - j) (by omega) (by omega)
  have a2 := h.least hr hl hu (n + j - t) (by omega) (by omega)
  rw [show j + 1 + (t - j) = t + 1 by omega] at a1
  rw [show t + 1 + (n + j - t) = j + 1 + n by omega, hr.px, hr.py] at a2
  refine ahZ a1 ?_
  rw [Int.neg_sub, Int.neg_sub]
  exact a2
 ·exact h1
 ·exfalso
  have a1 := h.least hr hl hu (j - t) (by omega) (by omega)
  have a2 := h.least hr hjl hju (n + t - j) (by omega) (by omega)
  rw [show t + 1 + (j - t) = j + 1 by omega] at a1
  rw [show j + 1 + (n + t - j) = t + 1 + n by omega, hr.px, hr.py] at a2
  refine ahZ a1 ?_
  rw [Int.neg_sub, Int.neg_sub]
  exact a2
theorem als (hr : Ring n X Y) : Loc n X Y ↔ Glob n X Y := ⟨fun h => h.glob hr, fun h => h.loc hr⟩
def cfK : List Int → Int × Int
 | [] => (1, 0)
 | a :: l => (a * (cfK l).1 + (cfK l).2, (cfK l).1)
theorem afN (k : Nat) (n low high : Int) (r : Bool → Option α) : Qq k n low high r = r (inB n low high) := by
 unfold Qq aad inB
 cases decide (low ≤ n) <;> rfl
theorem aeK (k : Nat) (n : Int) (r : Bool → Option α) : JV k n r = r (crd n) := by
 simp only [JV, UQ, afN]; rfl
theorem afW (k : Nat) (a b : Int) (r : Bool → Option α) : RV k a b r = r (crd a && crd b) := by
 simp only [RV, ZW, aeK]
 cases crd a <;> rfl
theorem abJ (k : Nat) (n low high : Int) (r : Bool → Option α) : MX k n low high r = r (inB n low high) := by
 unfold MX acf inB
 cases decide (low ≤ n) <;> rfl
theorem aep (k : Nat) (n : Int) (r : Bool → Option α) : Jv k n r = r (crd n) := by
 simp only [Jv, TV, abJ]; rfl
theorem IV (k : Nat) (a b : Int) (r : Bool → Option α) : nJ k a b r = r (crd a && crd b) := by
 simp only [nJ, UX, aep]
 cases crd a <;> rfl
theorem aaq (k : Nat) (s : List (Int × Int)) (hs : s.length ≤ big) (hk : s.length < k) (r : Bool → Option α) : pY k s r = r (s.all fun e => crd e.1 && crd e.2) := by
 unfold pY Xj gV iw gK jV
 have h := acO (α := α) (p := fun e : Int × Int => !(crd e.1 && crd e.2)) (L := bK)
  (fun k x i s b r => by simp only [bK, jQ, GZ, RJ, IV]) s k 0 s
 have h0 : ((0 : Nat) : Int) = 0 := rfl
 rw [h0] at h
 rw [h _ _ (by simp) hs (by omega) hk]
 cases hf : s.findIdx? (fun e : Int × Int => !(crd e.1 && crd e.2)) with
 | none =>
   rw [List.findIdx?_eq_none_iff] at hf
   have : (s.all fun e => crd e.1 && crd e.2) = true := List.all_eq_true.2 fun e he => by simpa using hf e he
   simp [this]
 | some j =>
   rw [List.findIdx?_eq_some_iff_getElem] at hf
   obtain ⟨hj, hp, _⟩ := hf
   have : (s.all fun e => crd e.1 && crd e.2) = false := by
    rw [List.all_eq_false]
    exact ⟨s[j], List.getElem_mem hj, by cases h1 : crd s[j].1 <;> cases h2 : crd s[j].2 <;> simp_all⟩
   rw [this]
   simp
theorem aah (k : Nat) (hk : 3 ≤ k) (a b c d : Int) (r : Bool → Option α) : pY k [(a, b), (c, d)] r = r (crd a && crd b && (crd c && crd d)) := by
 rw [aaq _ _ (by rw [pz]; simp) (by simp; omega)]
 simp
theorem aaO (k : Nat) (n x : Int) (r : Int → Option α) (hn : 0 < n) (hn2 : n ≤ 1000000000000000000) : Dq k n x r = r (x % n) := by
 have h1 : -n < Int.tmod x n := Int.lt_tmod_of_pos x hn
 have h2 : Int.tmod x n < n := Int.tmod_lt_of_pos x hn
 simp only [Dq, VW, TK (show n ≠ 0 by omega), cond_false]
 rw [ax (by omega) (by omega), amL hn]
theorem XY (k : Nat) (a b : Int) (r : Int → Option α) (hb : 0 < b) (ha : -1000000000000000000 ≤ a) (ha2 : a ≤ 1000000000000000000) : xx k a b r = r (a / b) := by
 have hq := aae a b
 simp only [xx, Zy, TK (show b ≠ 0 by omega), cond_false, ax (n := Int.tdiv a b) (by omega) (by omega), ax (n := Int.tdiv a b - 1) (by omega) (by omega)]
 rw [← aer a b hb]
 cases (!decide (Int.tmod a b = 0)) <;> cases (!(decide (a < 0) == decide (b < 0))) <;> rfl
theorem aap (k : Nat) (a b : Int) (r : Int → Option α) (hb : 0 < b) (ha : -1000000000000000000 ≤ a) (ha2 : a ≤ 1000000000000000000) : wY k a b r = r (a / b) := by
 have hq := aae a b
 simp only [wY, Sj, TK (show b ≠ 0 by omega), cond_false, ax (n := Int.tdiv a b) (by omega) (by omega), ax (n := Int.tdiv a b - 1) (by omega) (by omega)]
 rw [← aer a b hb]
 cases (!decide (Int.tmod a b = 0)) <;> cases (!(decide (a < 0) == decide (b < 0))) <;> rfl
theorem aaS (k : Nat) (a b : Int) (r : Int → Option α) (hb : 0 < b) (hb2 : b ≤ 1000000000000000000) (ha : -1000000000000000000 ≤ a) (ha2 : a ≤ 1000000000000000000) : KW k a b r = r (a % b) := by
 simp only [KW, abV, XY k a b _ hb ha ha2]
 have h1 := Int.emod_add_mul_ediv a b
 have h2 := Int.emod_nonneg a (b := b) (by omega)
 have h3 := Int.emod_lt_of_pos a hb
 rw [ax (n := b * (a / b)) (by omega) (by omega), ax (by omega) (by omega)]
 congr 1
 omega
theorem TQ (k : Nat) (n : Int) (r : Int → Option α) (h0 : -1000000000000000000 ≤ n) (h1 : n ≤ 1000000000000000000) : vX k n r = r (max n (-n)) := by
 simp only [vX, aaY]
 rw [ax (by omega) (by omega), Int.zero_sub]
def gcdI (a b : Int) : Int := (Int.gcd a b : Int)
theorem air {a b B : Int} (ha : -B ≤ a) (ha1 : a ≤ B) (hb : -B ≤ b) (hb1 : b ≤ B) : 0 ≤ gcdI a b ∧ gcdI a b ≤ B := by
 unfold gcdI
 refine ⟨by omega, ?_⟩
 by_cases h : a = 0
 ·subst h
  rw [Int.gcd_zero_left]
  omega
 ·have := Int.gcd_le_natAbs_left (a := a) b h
  omega
theorem ahd {a b : Int} (h : a ≠ 0 ∨ b ≠ 0) : 0 < gcdI a b := by
 unfold gcdI
 have : Int.gcd a b ≠ 0 := fun e => by
  rw [Int.gcd_eq_zero_iff] at e
  omega
 omega
theorem aho (a b : Int) : Int.gcd b (Int.tmod a b) = Int.gcd a b := by
 unfold Int.gcd
 rw [Int.natAbs_tmod, Nat.gcd_comm, ← Nat.gcd_rec, Nat.gcd_comm]
theorem adh (a : Int) {b : Int} (h : b ≠ 0) : (Int.tmod a b).natAbs < b.natAbs := by
 rw [Int.natAbs_tmod]
 exact Nat.mod_lt _ (by omega)
theorem adn : ∀ (n k : Nat) (a b : Int) b0 (r0 : Int → Option α), b.natAbs ≤ n → n < k → ∃ g : Int, g.natAbs = Int.gcd a b ∧ ry k a b b0 r0 = b0 g 0
 | n, k + 1, a, b, b0, r0, hn, hk => by
   by_cases h : b = 0
   ·subst h
    exact ⟨a, by simp, by simp [ry, IX]⟩
   ·cases n with
    | zero => omega
    | succ n =>
      have := adh a h
      obtain ⟨g, h1, h2⟩ := adn n k b (Int.tmod a b) b0 r0 (by omega) (by omega)
      refine ⟨g, by rw [h1, aho], ?_⟩
      rw [ry, IX, TK h]
      exact h2
 | _, 0, _, _, _, _, _, hk => by omega
theorem aa7 : ∀ (n k : Nat) (a b : Int) b0 (r0 : Int → Option α), b.natAbs ≤ n → n < k → ∃ g : Int, g.natAbs = Int.gcd a b ∧ yJ k a b b0 r0 = b0 g 0
 | n, k + 1, a, b, b0, r0, hn, hk => by
   by_cases h : b = 0
   ·subst h
    exact ⟨a, by simp, by simp [yJ, Rq]⟩
   ·cases n with
    | zero => omega
    | succ n =>
      have := adh a h
      obtain ⟨g, h1, h2⟩ := aa7 n k b (Int.tmod a b) b0 r0 (by omega) (by omega)
      refine ⟨g, by rw [h1, aho], ?_⟩
      rw [yJ, Rq, TK h]
      exact h2
 | _, 0, _, _, _, _, _, hk => by omega
theorem TY (k : Nat) (a b : Int) (r : Int → Option α) (ha : -1000000000 ≤ a) (ha1 : a ≤ 1000000000) (hb : -1000000000 ≤ b) (hb1 : b ≤ 1000000000) (hk : 1000000000 < k) : Bv k a b r = r (gcdI a b) := by
 unfold Bv Xz
 obtain ⟨g, h1, h2⟩ := adn (α := α) 1000000000 k a b (fun a2 b_2 => r (max a2 (w64 (0 - a2)))) r (by omega) hk
 have hb := air ha ha1 hb hb1
 unfold gcdI at hb ⊢
 rw [h2, ax (by omega) (by omega)]
 congr 1
 omega
theorem adf (k : Nat) (a b : Int) (r : Int → Option α) (ha : -1000000000 ≤ a) (ha1 : a ≤ 1000000000) (hb : -1000000000 ≤ b) (hb1 : b ≤ 1000000000) (hk : 1000000000 < k) : aaj k a b r = r (gcdI a b) := by
 unfold aaj abE
 obtain ⟨g, h1, h2⟩ := aa7 (α := α) 1000000000 k a b (fun a2 b_2 => vX k a2 fun v => r v) r (by omega) hk
 have hb := air ha ha1 hb hb1
 unfold gcdI at hb ⊢
 rw [h2, TQ _ _ _ (by omega) (by omega)]
 congr 1
 omega
def prim (a b : Int) : Int × Int := (Int.tdiv a (gcdI a b), Int.tdiv b (gcdI a b))
theorem aeF (k : Nat) (a b : Int) (r : Int → Int → Option α) (ha : -1000000000 ≤ a) (ha1 : a ≤ 1000000000) (hb : -1000000000 ≤ b) (hb1 : b ≤ 1000000000) (hk : 1000000000 < k) (h : a ≠ 0 ∨ b ≠ 0) : Iy k a b r = r (prim a b).1 (prim a b).2 := by
 have hp := ahd h
 have h1 := aae a (gcdI a b)
 have h2 := aae b (gcdI a b)
 unfold Iy Uw prim
 rw [TY k a b _ ha ha1 hb hb1 hk]
 simp only
 rw [TK (show gcdI a b ≠ 0 by omega), ax (by omega) (by omega), ax (by omega) (by omega)]
 rfl
def oq (l : List (Int × Int)) (i : Nat) : Int := (l.getD (i % l.length) (0, 0)).1
def oz (l : List (Int × Int)) (i : Nat) : Int := (l.getD (i % l.length) (0, 0)).2
theorem ae7 {l : List (Int × Int)} (h : 3 ≤ l.length) : Ring l.length (oq l) (oz l) := ⟨h, fun i => by simp [oq], fun i => by simp [oz]⟩
theorem abP {l : List (Int × Int)} {i : Nat} (h : 0 < l.length) : l[i % l.length]? = some (oq l i, oz l i) := by
 have hlt : i % l.length < l.length := Nat.mod_lt _ h
 simp [oq, oz, List.getD_eq_getElem?_getD, List.getElem?_eq_getElem hlt]
theorem aaH {l : List (Int × Int)} {i : Nat} (h : i < l.length) : l[i]? = some (oq l i, oz l i) := by
 have := abP (l := l) (i := i) (by omega)
 rwa [Nat.mod_eq_of_lt h] at this
theorem adw (i n : Nat) (hi : (i : Int) ≤ 1000000000000) (c : Nat) (hc : c ≤ 2) : Int.tmod (w64 ((i : Int) + (c : Int))) (n : Int) = (((i + c) % n : Nat) : Int) := by
 rw [ax (by omega) (by omega)]
 have : (i : Int) + (c : Int) = ((i + c : Nat) : Int) := by omega
 rw [this]
 rfl
def sm (x : Int) : Bool := inB x (-1000) 1000
theorem aa5 {x : Int} (h : sm x = true) : crd x = true := by
 unfold sm at h
 rw [aig] at h
 rw [UZ]
 omega
instance (X Y : Nat → Int) (i : Nat) : Decidable (upS X Y i) := by unfold upS; infer_instance
def aa4 (X Y : Nat → Int) (i : Nat) : Bool := !decide (upS X Y i) && decide (upS X Y (i + 1))
def allF (ok : Nat → Bool) : Nat → Nat → Bool
 | _, 0 => true
 | i, m + 1 => ok i && allF ok (i + 1) m
def cntF (p : Nat → Bool) : Nat → Nat → Int
 | _, 0 => 0
 | i, m + 1 => (bif p i then 1 else 0) + cntF p (i + 1) m
theorem aai {ok : Nat → Bool} : ∀ {m i : Nat}, allF ok i m = true ↔ ∀ j, i ≤ j → j < i + m → ok j = true
 | 0, i => by simp [allF]; intro j h1 h2; omega
 | m + 1, i => by
   simp only [allF, Bool.and_eq_true, aai]
   constructor
   ·rintro ⟨h1, h2⟩ j h3 h4
    by_cases e : j = i
    ·subst e; exact h1
    ·exact h2 j (by omega) (by omega)
   ·intro h
    exact ⟨h i (by omega) (by omega), fun j h1 h2 => h j (by omega) (by omega)⟩
theorem ah4 {p : Nat → Bool} : ∀ {m i : Nat}, 0 ≤ cntF p i m ∧ cntF p i m ≤ m
 | 0, i => by simp [cntF]
 | m + 1, i => by
   have := ah4 (p := p) (m := m) (i := i + 1)
   simp only [cntF]
   cases p i <;> simp <;> omega
theorem afC {p : Nat → Bool} : ∀ {m i : Nat}, cntF p i m = 0 ↔ ∀ j, i ≤ j → j < i + m → p j = false
 | 0, i => by simp [cntF]; intro j h1 h2; omega
 | m + 1, i => by
   have hn := ah4 (p := p) (m := m) (i := i + 1)
   have ih := afC (p := p) (m := m) (i := i + 1)
   simp only [cntF]
   cases hp : p i with
   | true =>
     simp only [cond_true]
     constructor
     ·intro h; omega
     ·intro h
      have := h i (by omega) (by omega)
      rw [hp] at this; cases this
   | false =>
     simp only [cond_false, Int.zero_add]
     rw [ih]
     constructor
     ·intro h j h1 h2
      by_cases e : j = i
      ·subst e; exact hp
      ·exact h j (by omega) (by omega)
     ·intro h j h1 h2
      exact h j (by omega) (by omega)
theorem agC {p : Nat → Bool} : ∀ {m i : Nat}, cntF p i m = 1 ↔ ∃ t, i ≤ t ∧ t < i + m ∧ p t = true ∧ ∀ j, i ≤ j → j < i + m → p j = true → j = t
 | 0, i => by
   simp only [cntF]
   constructor
   ·intro h; omega
   ·rintro ⟨t, h1, h2, _⟩; omega
 | m + 1, i => by
   have ih := agC (p := p) (m := m) (i := i + 1)
   have iz := afC (p := p) (m := m) (i := i + 1)
   simp only [cntF]
   cases hp : p i with
   | true =>
     simp only [cond_true]
     constructor
     ·intro h
      have hz := iz.1 (by omega)
      refine ⟨i, by omega, by omega, hp, fun j h1 h2 h3 => ?_⟩
      by_cases e : j = i
      ·exact e
      ·have := hz j (by omega) (by omega)
       rw [this] at h3; cases h3
     ·rintro ⟨t, h1, h2, h3, h4⟩
      have ht := h4 i (by omega) (by omega) hp
      subst ht
      have := iz.2 fun j h5 h6 => by
       cases hj : p j with
       | false => rfl
       | true => have := h4 j (by omega) (by omega) hj; omega
      omega
   | false =>
     simp only [cond_false, Int.zero_add]
     rw [ih]
     constructor
     ·rintro ⟨t, h1, h2, h3, h4⟩
      refine ⟨t, by omega, by omega, h3, fun j h5 h6 h7 => ?_⟩
      by_cases e : j = i
      ·subst e; rw [hp] at h7; cases h7
      ·exact h4 j (by omega) (by omega) h7
     ·rintro ⟨t, h1, h2, h3, h4⟩
      have hne : t ≠ i := fun e => by subst e; rw [hp] at h3; cases h3
      exact ⟨t, by omega, by omega, h3, fun j h5 h6 h7 => h4 j (by omega) (by omega) h7⟩
theorem akG {a b : Int} (ha : -1000000 ≤ a ∧ a ≤ 1000000) (hb : -1000000 ≤ b ∧ b ≤ 1000000) : w64 (b + w64 (-1 * a)) = b - a := by
 rw [ax (n := -1 * a) (by omega) (by omega), ax (by omega) (by omega)]
 omega
theorem anJ {a b c d : Int} (ha : -2000000 ≤ a ∧ a ≤ 2000000) (hb : -2000000 ≤ b ∧ b ≤ 2000000) (hc : -2000000 ≤ c ∧ c ≤ 2000000) (hd : -2000000 ≤ d ∧ d ≤ 2000000) : w64 (w64 (a * d) - w64 (b * c)) = a * d - b * c := by
 have h1 := yY ha.1 ha.2 hd.1 hd.2
 have h2 := yY hb.1 hb.2 hc.1 hc.2
 rw [ax (n := a * d) (by omega) (by omega), ax (n := b * c) (by omega) (by omega), ax (by omega) (by omega)]
def af0 (l : List (Int × Int)) : Bool := inB (l.length : Int) 3 12 && (l.all (fun e => sm e.1 && sm e.2) && (allF (fun i => decide (0 < cr (oq l) (oz l) i (i + 1))) 0 l.length && decide (cntF (aa4 (oq l) (oz l)) 0 l.length = 1)))
theorem ajC {l : List (Int × Int)} (h : 0 < l.length) : (l.all (fun e => sm e.1 && sm e.2) = true) ↔ ∀ i, sm (oq l i) = true ∧ sm (oz l i) = true := by
 rw [List.all_eq_true]
 constructor
 ·intro ha i
  have hg := abP (l := l) (i := i) h
  have := ha _ (List.mem_of_getElem? hg)
  simpa using this
 ·intro ha e he
  obtain ⟨i, hi, rfl⟩ := List.mem_iff_getElem.1 he
  have hg := aaH hi
  rw [List.getElem?_eq_getElem hi] at hg
  have := Option.some.inj hg
  rw [this]
  simpa using ha i
def aaC (l : List (Int × Int)) (i j : Nat) : Bool := decide (j = i) || (decide (j = (i + 1) % l.length) || decide (0 < ori (oq l) (oz l) i j))
theorem aid {a b c d : Int} (ha : crd a = true) (hb : crd b = true) (hc : crd c = true) (hd : crd d = true) (k : Nat) (r : Int → Int → Option α) : jy k a b c d r = r (a - c) (b - d) := by
 rw [UZ] at ha hb hc hd
 simp only [jy, xY, kz, tX]
 rw [akG hc ha, akG hd hb]
theorem ahn {a b c d e f : Int} (ha : crd a = true) (hb : crd b = true) (hc : crd c = true) (hd : crd d = true) (he : crd e = true) (hf : crd f = true) (k : Nat) (r : Int → Option α) : Jw k a b c d e f r = r ((c - a) * (f - d) - (d - b) * (e - c)) := by
 simp only [Jw, aaR, kV, xw]
 rw [aid hc hd ha hb, aid he hf hc hd]
 rw [UZ] at ha hb hc hd he hf
 rw [anJ (by omega) (by omega) (by omega) (by omega)]
theorem ah3 {l : List (Int × Int)} (hl : 3 ≤ l.length) (hl2 : l.length ≤ 12) (hs : ∀ i, sm (oq l i) = true ∧ sm (oz l i) = true) (i : Nat) (hi : i < l.length) : ∀ (m k j : Nat) (x : Int) b (r : Bool → Option α), j + m = l.length → m < k →
 jq k i x i l.length j l (oq l i) (oz l i) (oq l (i + 1)) (oz l (i + 1)) b r = bif allF (aaC l i) j m then b i x i l.length l.length l (oq l i) (oz l i) (oq l (i + 1)) (oz l (i + 1)) else r false
 | 0, k + 1, j, x, b, r, hj, _ => by
   have : j = l.length := by omega
   subst this
   rw [jq, uQ, uV (by omega)]
   rfl
 | m + 1, k + 1, j, x, b, r, hj, hk => by
   have e1 := adw i l.length (by omega) 1 (by omega)
   simp only [Int.natCast_one] at e1
   have g0 := aaH (l := l) (i := j) (by omega)
   have hn : decide ((l.length : Int) = 0) = false := decide_eq_false (by omega)
   have en : w64 ((j : Int) + 1) = ((j + 1 : Nat) : Int) := by rw [ax (by omega) (by omega)]; omega
   have ih := ah3 hl hl2 hs i hi m k (j + 1) x b r (by omega) (by omega)
   have d1 : decide ((j : Int) = (i : Int)) = decide (j = i) := decide_eq_decide.2 (by omega)
   have d2 : decide ((j : Int) = (((i + 1) % l.length : Nat) : Int)) = decide (j = (i + 1) % l.length) := decide_eq_decide.2 (by omega)
   rw [jq, uQ, kJ (by omega), mV (by omega), cond_true, Bool.and_true, cond_true, Int.toNat_natCast, g0, Option.bind_some, hn, e1, d1, d2, en, ih]
   simp only [allF, aaC, cond_false]
   cases decide (j = i) with
   | true => simp
   | false =>
     cases decide (j = (i + 1) % l.length) with
     | true => simp
     | false =>
       simp only [Bool.not_false, cond_true, Bool.false_or]
       rw [ahn (aa5 (hs i).1) (aa5 (hs i).2) (aa5 (hs (i + 1)).1) (aa5 (hs (i + 1)).2) (aa5 (hs j).1) (aa5 (hs j).2)]
       have ec : (oq l (i + 1) - oq l i) * (oz l j - oz l (i + 1)) - (oz l (i + 1) - oz l i) * (oq l j - oq l (i + 1)) = ori (oq l) (oz l) i j := rfl
       rw [ec]
       rcases vZ 0 (ori (oq l) (oz l) i j) with hc | hc
       ·rw [alp hc, kJ hc, Bool.true_and]; rfl
       ·rw [mV hc, uV hc, Bool.false_and]; rfl
 | _, 0, _, _, _, _, _, hk => by omega
theorem ah7 {l : List (Int × Int)} (hl : 3 ≤ l.length) (hl2 : l.length ≤ 12) (hs : ∀ i, sm (oq l i) = true ∧ sm (oz l i) = true) : ∀ (m k i : Nat) (r : Bool → Option α), i + m = l.length → m + 13 < k →
 iY k l.length i l (fun _ _ _ => r true) r = r (allF (fun i => allF (aaC l i) 0 l.length) i m)
 | 0, k + 1, i, r, hi, _ => by
   rw [iY, tK, uV (by omega)]
   rfl
 | m + 1, k + 1, i, r, hi, hk => by
   have e1 := adw i l.length (by omega) 1 (by omega)
   simp only [Int.natCast_one] at e1
   have b1 : (i + 1) % l.length < l.length := Nat.mod_lt _ (by omega)
   have g0 := aaH (l := l) (i := i) (by omega)
   have g1 := abP (l := l) (i := i + 1) (by omega)
   have hn : decide ((l.length : Int) = 0) = false := decide_eq_false (by omega)
   have en : w64 ((i : Int) + 1) = ((i + 1 : Nat) : Int) := by rw [ax (by omega) (by omega)]; omega
   have ih := ah7 hl hl2 hs m k (i + 1) r (by omega) (by omega)
   rw [iY, tK, kJ (by omega), mV (by omega), cond_true, Bool.and_true, cond_true, Int.toNat_natCast, g0, Option.bind_some]
   simp only [kX, zk, hn, cond_false, e1, Int.toNat_natCast, g1, Option.bind_some, mV (Int.natCast_nonneg ((i + 1) % l.length)), kJ (Int.ofNat_lt.2 b1), Bool.and_self, cond_true]
   have h6 := ah3 (α := α) hl hl2 hs i (by omega) l.length k 0 l.length (fun i1 x6 x7 x8 x9 p_3 a2 a3 b_2 b_3 => iY k x6 (w64 (x7 + 1)) p_3 (fun _ _ _ => r true) r) r (by omega) (by omega)
   rw [Int.natCast_zero] at h6
   rw [h6, en, ih]
   simp only [allF]
   cases allF (aaC l i) 0 l.length <;> rfl
 | _, 0, _, _, _, hk => by omega
theorem al1 {l : List (Int × Int)} (hl : 3 ≤ l.length) : allF (fun i => allF (aaC l i) 0 l.length) 0 l.length = true ↔ Glob l.length (oq l) (oz l) := by
 have hr := ae7 hl
 rw [aai]
 constructor
 ·intro h i
  induction i using Nat.strongRecOn with
  | ind i ih =>
    intro d hd
    rcases Nat.lt_or_ge i l.length with hi | hi
    ·have := aai.1 (h i (by omega) (by omega))
     rcases Nat.lt_or_ge (i + d + 2) l.length with hj | hj
     ·have := this (i + d + 2) (by omega) (by omega)
      rw [aaC, Bool.or_eq_true, Bool.or_eq_true, decide_eq_true_eq, decide_eq_true_eq, decide_eq_true_eq, Nat.mod_eq_of_lt (show i + 1 < l.length by omega)] at this
      rcases this with h1 | h1 | h1
      ·omega
      ·omega
      ·exact h1
     ·have := this (i + d + 2 - l.length) (by omega) (by omega)
      rw [aaC, Bool.or_eq_true, Bool.or_eq_true, decide_eq_true_eq, decide_eq_true_eq, decide_eq_true_eq] at this
      rcases this with h1 | h1 | h1
      ·omega
      ·rcases Nat.lt_or_ge (i + 1) l.length with h2 | h2
       ·rw [Nat.mod_eq_of_lt h2] at h1; omega
       ·have : i + 1 = l.length := by omega
        rw [this, Nat.mod_self] at h1; omega
      ·have e := hr.ori_p i (i + d + 2 - l.length)
       rw [show i + d + 2 - l.length + l.length = i + d + 2 by omega] at e
       rw [e]; exact h1
    ·have := ih (i - l.length) (by omega) d hd
     have e1 := hr.ori_l (i - l.length) (i + d + 2)
     have e2 := hr.ori_p (i - l.length) (i - l.length + d + 2)
     rw [show i - l.length + l.length = i by omega] at e1
     rw [show i - l.length + d + 2 + l.length = i + d + 2 by omega] at e2
     rw [e1, e2]; exact this
 ·intro h i h1 h2
  rw [aai]
  intro j h3 h4
  rw [aaC, Bool.or_eq_true, Bool.or_eq_true, decide_eq_true_eq, decide_eq_true_eq, decide_eq_true_eq]
  by_cases e1 : j = i
  ·exact .inl e1
  ·by_cases e2 : j = (i + 1) % l.length
   ·exact .inr (.inl e2)
   ·refine .inr (.inr ?_)
    rcases Nat.lt_or_ge i j with hij | hij
    ·have hne : j ≠ i + 1 := fun e => e2 (by rw [Nat.mod_eq_of_lt (by omega)]; exact e)
     have := h i (j - i - 2) (by omega)
     rwa [show i + (j - i - 2) + 2 = j by omega] at this
    ·have hne : j + l.length ≠ i + 1 := fun e => e2 (by
      have : i + 1 = l.length := by omega
      rw [this, Nat.mod_self]; omega)
     have := h i (j + l.length - i - 2) (by omega)
     rw [show i + (j + l.length - i - 2) + 2 = j + l.length by omega, hr.ori_p] at this
     exact this
theorem ank {l : List (Int × Int)} (hl : 3 ≤ l.length) : (allF (fun i => decide (0 < cr (oq l) (oz l) i (i + 1))) 0 l.length = true ∧ cntF (aa4 (oq l) (oz l)) 0 l.length = 1) ↔ Loc l.length (oq l) (oz l) := by
 have hr := ae7 hl
 rw [aai, agC, Loc]
 refine and_congr ⟨fun h i => ?_, fun h j _ _ => decide_eq_true (h j)⟩ ⟨?_, ?_⟩
 ·induction i using Nat.strongRecOn with
  | ind i ih =>
    rcases Nat.lt_or_ge i l.length with hi | hi
    ·exact of_decide_eq_true (h i (by omega) (by omega))
    ·have := ih (i - l.length) (by omega)
     have e1 := hr.cr_l (i - l.length) (i + 1)
     have e2 := hr.cr_r (i - l.length) (i - l.length + 1)
     rw [show i - l.length + l.length = i by omega] at e1
     rw [show i - l.length + 1 + l.length = i + 1 by omega] at e2
     rw [e1, e2]; exact this
 ·rintro ⟨t, h1, h2, h3, h4⟩
  simp only [aa4, Bool.and_eq_true, Bool.not_eq_true', decide_eq_false_iff_not, decide_eq_true_eq] at h3 h4
  exact ⟨t, by omega, h3.1, h3.2, fun j hj a b => h4 j (by omega) (by omega) ⟨a, b⟩⟩
 ·rintro ⟨t, h1, h2, h3, h4⟩
  refine ⟨t, by omega, by omega, ?_, fun j _ hj hp => ?_⟩
  ·simp [aa4, h2, h3]
  ·simp only [aa4, Bool.and_eq_true, Bool.not_eq_true', decide_eq_false_iff_not, decide_eq_true_eq] at hp
   exact h4 j (by omega) hp.1 hp.2
theorem ad9 (k : Nat) (hk : 30 < k) (l : List (Int × Int)) (r : Bool → Option α) : bz k l r = r (af0 l) := by
 simp only [bz, PX, abJ, af0]
 cases hin : inB (l.length : Int) 3 12 with
 | false => rfl
 | true =>
   rw [aig] at hin
   simp only [Bool.not_true, cond_false, Bool.true_and]
   unfold gQ iJ gW iy
   have h := acO (α := α) (p := fun e : Int × Int => !(sm e.1 && sm e.2)) (L := bJ)
    (fun k x i s b r => by
      simp only [bJ, iZ, yx, Kw, Yv, Zz, abJ]
      congr 1; congr 1; congr 1; funext e
      unfold sm
      cases inB e.1 (-1000) 1000 <;> cases inB e.2 (-1000) 1000 <;> rfl) l k 0 l
   rw [Int.natCast_zero] at h
   rw [h _ _ (by simp) (by rw [pz]; omega) (by omega) (by omega)]
   cases hf : l.findIdx? (fun e : Int × Int => !(sm e.1 && sm e.2)) with
   | some j =>
     rw [List.findIdx?_eq_some_iff_getElem] at hf
     obtain ⟨hj, hp, _⟩ := hf
     have : (l.all fun e => sm e.1 && sm e.2) = false := by
      rw [List.all_eq_false]
      exact ⟨l[j], List.getElem_mem hj, by
       intro h
       have h' : (sm l[j].1 && sm l[j].2) = true := h
       have hp' : (!(sm l[j].1 && sm l[j].2)) = true := hp
       rw [h'] at hp'
       cases hp'⟩
     rw [this]
     simp
   | none =>
     rw [List.findIdx?_eq_none_iff] at hf
     have hall : (l.all fun e => sm e.1 && sm e.2) = true := List.all_eq_true.2 fun e he => by simpa using hf e he
     have hs := (ajC (by omega)).1 hall
     rw [hall, Bool.true_and]
     have h2 := ah7 (α := α) (l := l) (by omega) (by omega) hs l.length k 0 r (by omega) (by omega)
     rw [Int.natCast_zero] at h2
     simp only [show decide ((0 : Int) ≤ -1) = false from rfl, cond_false, zq, DW]
     refine h2.trans ?_
     congr 1
     rw [Bool.eq_iff_iff, Bool.and_eq_true, decide_eq_true_eq, al1 (by omega), ank (by omega)]
     exact (als (ae7 (by omega))).symm
def totF (f : Nat → Int) : Nat → Nat → Int → Int
 | _, 0, s => s
 | i, m + 1, s => totF f (i + 1) m (w64 (s + f i))
def detF (l : List (Int × Int)) (i : Nat) : Int := w64 (w64 (oq l i * oz l (i + 1)) - w64 (oz l i * oq l (i + 1)))
theorem acF {l : List (Int × Int)} (h0 : 0 < l.length) (hl : l.length ≤ 12) : ∀ (m k i : Nat) (s : Int) (r : Int → Option α), i + m = l.length → m < k → gX k s l.length i l (fun s _ _ _ => r s) r = r (totF (detF l) i m s)
 | 0, k + 1, i, s, r, hi, _ => by
   rw [gX, mZ, uV (by omega)]
   rfl
 | m + 1, k + 1, i, s, r, hi, hk => by
   have e1 := adw i l.length (by omega) 1 (by omega)
   simp only [Int.natCast_one] at e1
   have b1 : (i + 1) % l.length < l.length := Nat.mod_lt _ (by omega)
   have g0 := aaH (l := l) (i := i) (by omega)
   have g1 := abP (l := l) (i := i + 1) (by omega)
   have hn : decide ((l.length : Int) = 0) = false := decide_eq_false (by omega)
   have en : w64 ((i : Int) + 1) = ((i + 1 : Nat) : Int) := by rw [ax (by omega) (by omega)]; omega
   rw [gX, mZ, kJ (by omega), mV (by omega), cond_true, Bool.and_true, cond_true, Int.toNat_natCast, g0, Option.bind_some]
   simp only [kX, zk, hn, cond_false, e1, Int.toNat_natCast, g1, Option.bind_some, mV (Int.natCast_nonneg ((i + 1) % l.length)), kJ (Int.ofNat_lt.2 b1), Bool.and_self, cond_true, kV, xw]
   rw [en]
   exact acF h0 hl m k (i + 1) _ r (by omega) (by omega)
 | _, 0, _, _, _, _, hk => by omega
theorem adg : ∀ (m : Nat) (n β s u v rest next : Int), (s = 1 ∨ s = -1) → 0 ≤ u → u ≤ n → 0 ≤ v → v ≤ n → 0 ≤ rest → rest ≤ n → 0 ≤ next → next ≤ n → n ≤ 1000000000 → u * next + v * rest = n → n ∣ s * u * β - rest → n ∣ -s * v * β - next → next ≤ m →
 ∃ X g bef : Int, -n ≤ X ∧ X ≤ n ∧ n ∣ X * β - g ∧ g = gcdI rest next ∧ (∀ k, m < k → ∀ a2 a3 p q b0 (r0 : Int → Int → Option α), qY k n (s * u) (-s * v) rest next a2 a3 p q b0 r0 = b0 n X bef g 0 a2 a3 p q) ∧
   (∀ k, m < k → ∀ b0 (r0 : Int → Option α), sQ k n rest next (s * u) (-s * v) b0 r0 = b0 n g 0 X bef)
 | m, n, β, s, u, v, rest, next, hs, hu, hu2, hv, hv2, hr, hr2, hn, hn2, hb, he, d1, d2, hm => by
   by_cases hz : next = 0
   ·subst hz
    refine ⟨s * u, rest, -s * v, ?_, ?_, d1, ?_, fun k hk a2 a3 p q b0 r0 => ?_, fun k hk b0 r0 => ?_⟩
    ·rcases hs with rfl | rfl <;> omega
    ·rcases hs with rfl | rfl <;> omega
    ·unfold gcdI; rw [Int.gcd_zero_right]; omega
    ·obtain ⟨k, rfl⟩ : ∃ k', k = k' + 1 := ⟨k - 1, by omega⟩
     rw [qY, Fq]; rfl
    ·obtain ⟨k, rfl⟩ : ∃ k', k = k' + 1 := ⟨k - 1, by omega⟩
     rw [sQ, Iq]; rfl
   ·have hpos : 0 < next := by omega
    have hq : Int.tdiv rest next = rest / next := Int.tdiv_eq_ediv_of_nonneg hr
    have hq0 : 0 ≤ rest / next := Int.ediv_nonneg hr (by omega)
    have hd := WW (a := rest) hpos
    generalize rest / next = t at hq hq0 hd
    have c1 : next * t = t * next := Int.mul_comm _ _
    have tv : 0 ≤ t * v := Int.mul_nonneg hq0 hv
    have e2 : v * (rest - t * next) + (u + t * v) * next = n := by rw [← he]; grind
    have p1 : 0 ≤ v * (rest - t * next) := Int.mul_nonneg hv (by omega)
    have p2 : (u + t * v) * 1 ≤ (u + t * v) * next := Int.mul_le_mul_of_nonneg_left (by omega) (by omega)
    have tn : 0 ≤ t * next := Int.mul_nonneg hq0 hn
    have d2' : n ∣ -s * v * β - next := d2
    have d3 : n ∣ - -s * (u + t * v) * β - (rest - t * next) := by
     have e : - -s * (u + t * v) * β - (rest - t * next) = (s * u * β - rest) - t * (-s * v * β - next) := by grind
     rw [e]
     exact Int.dvd_sub d1 (Int.dvd_trans d2 (Int.dvd_mul_left _ _))
    obtain ⟨X, g, bef, x1, x2, x3, x4, f1, f2⟩ := adg (m - 1) n β (-s) v (u + t * v) next (rest - t * next) (by omega) hv hv2 (by omega) (by omega) hn hn2 (by omega) (by omega) hb e2 d2' d3 (by omega)
    have eb : -s * (-s * v) = -s * -s * v := by grind
    have ex : s * u - t * (-s * v) = - -s * (u + t * v) := by grind
    have w1 : w64 (t * (-s * v)) = t * (-s * v) := by
     have : t * (-s * v) = -s * (t * v) := by grind
     rw [this]
     rcases hs with rfl | rfl
     ·exact ax (by omega) (by omega)
     ·exact ax (by omega) (by omega)
    have w2 : w64 (s * u - t * (-s * v)) = - -s * (u + t * v) := by
     rw [ex]
     rcases hs with rfl | rfl
     ·exact ax (by omega) (by omega)
     ·exact ax (by omega) (by omega)
    have w3 : w64 (t * next) = t * next := ax (by omega) (by omega)
    have w4 : w64 (rest - t * next) = rest - t * next := ax (by omega) (by omega)
    have w5 : w64 t = t := by
     have : t * 1 ≤ t * next := Int.mul_le_mul_of_nonneg_left (by omega) hq0
     exact ax (by omega) (by omega)
    refine ⟨X, g, bef, x1, x2, x3, ?_, fun k hk a2 a3 p q b0 r0 => ?_, fun k hk b0 r0 => ?_⟩
    ·rw [x4]; unfold gcdI
     rw [Int.gcd_sub_mul_right_right, Int.gcd_comm]
    ·obtain ⟨k, rfl⟩ : ∃ k', k = k' + 1 := ⟨k - 1, by omega⟩
     rw [qY, Fq, decide_eq_false hz, Bool.not_false, cond_true, cond_false, hq, w5, w1, w2, w3, w4]
     exact f1 k (by omega) a2 a3 p q b0 r0
    ·obtain ⟨k, rfl⟩ : ∃ k', k = k' + 1 := ⟨k - 1, by omega⟩
     rw [sQ, Iq, decide_eq_false hz, Bool.not_false, cond_true, cond_false, hq, w5, w1, w2, w3, w4]
     exact f2 k (by omega) b0 r0
 termination_by m => m
 decreasing_by omega
theorem aki (k : Nat) (hk : 1000000000 < k) {a b : Int} (h0 : a ≠ 0) (ha : -1000000 ≤ a) (ha1 : a ≤ 1000000) (hb : -1000000 ≤ b) (hb1 : b ≤ 1000000) : ∃ p q : Int, 0 ≤ p ∧ p < a.natAbs ∧ -1000000000001 ≤ q ∧ q ≤ 1000000000001 ∧ (gcdI a b = 1 → a * q - b * p = 1) ∧
 (∀ r : Int → Int → Option α, sV k a b r = r p q) ∧ (∀ r : Int → Int → Option α, oQ k a b r = r p q) := by
 have hn : max a (w64 (0 - a)) = max a (-a) := by rw [ax (by omega) (by omega)]; omega
 generalize hN : max a (-a) = n at hn
 have n0 : 1 ≤ n := by omega
 have n1 : n ≤ 1000000 := by omega
 have r0 := Int.emod_nonneg b (b := n) (by omega)
 have r1 := Int.emod_lt_of_pos b (show 0 < n by omega)
 have d1 : n ∣ 1 * 1 * b - b % n := ⟨b / n, by have := Int.emod_add_mul_ediv b n; omega⟩
 have d2 : n ∣ -1 * 0 * b - n := ⟨-1, by omega⟩
 obtain ⟨X, g, bef, x1, x2, x3, x4, f1, f2⟩ := adg (α := α) 1000000000 n b 1 1 0 (b % n) n (.inl rfl) (by omega) (by omega) (by omega) (by omega) r0 (by omega) (by omega) (by omega) (by omega) (by omega) d1 d2 (by omega)
 rw [show (1 : Int) * 1 = 1 from rfl, show -(1 : Int) * 0 = 0 from rfl] at f1 f2
 have p0 := Int.emod_nonneg (0 - X) (b := n) (by omega)
 have p1 := Int.emod_lt_of_pos (0 - X) (show 0 < n by omega)
 have q0 := Int.emod_nonneg X (b := n) (by omega)
 have q1 := Int.emod_lt_of_pos X (show 0 < n by omega)
 have hm := yY hb hb1 (show -1000000 ≤ (0 - X) % n by omega) (show (0 - X) % n ≤ 1000000 by omega)
 have hq := aae (1 + b * ((0 - X) % n)) a
 have epq : (0 - X % n) % n = (0 - X) % n := by
  have e := Int.emod_add_mul_ediv X n
  have : 0 - X % n = (0 - X) + n * (X / n) := by omega
  rw [this, Int.add_mul_emod_self_left]
 refine ⟨(0 - X) % n, Int.tdiv (1 + b * ((0 - X) % n)) a, p0, by omega, by omega, by omega, fun hg => ?_, fun r => ?_, fun r => ?_⟩
 ·have eg : g = 1 := by
   rw [x4, ← hg]; unfold gcdI
   have e1 : Int.gcd (b % n) n = Int.gcd b n := by
    rw [Int.emod_def, Int.gcd_sub_mul_left_left]
   have e2 : Int.gcd b n = Int.gcd a b := by
    rw [Int.gcd_comm a b]
    rcases (show n = a ∨ n = -a by omega) with e | e
    ·rw [e]
    ·rw [e, Int.gcd_neg]
   rw [e1, e2]
  subst eg
  have e3 := Int.emod_add_mul_ediv (0 - X) n
  have hdv : a ∣ 1 + b * ((0 - X) % n) := by
   have hna : a ∣ n := by
    rcases (show n = a ∨ n = -a by omega) with e | e
    ·rw [e]; exact Int.dvd_refl _
    ·rw [e]; exact (Int.dvd_neg).2 (Int.dvd_refl _)
   obtain ⟨c, hc⟩ := x3
   have e4 : 1 + b * ((0 - X) % n) = n * (-c - b * ((0 - X) / n)) := by
    have e5 : (0 - X) % n = 0 - X - n * ((0 - X) / n) := by omega
    rw [e5]; grind
   rw [e4]
   exact Int.dvd_trans hna (Int.dvd_mul_right _ _)
  have := Int.mul_tdiv_cancel' hdv
  omega
 ·unfold sV MW
  rw [decide_eq_false h0, cond_false, hn, aaO k n b _ (by omega) (by omega), f1 k hk]
  rw [ax (n := 0 - X) (by omega) (by omega), aaO k n _ _ (by omega) (by omega)]
  simp only [decide_eq_false h0, cond_false]
  rw [ax (n := b * ((0 - X) % n)) (by omega) (by omega), ax (n := 1 + b * ((0 - X) % n)) (by omega) (by omega), ax (by omega) (by omega)]
 ·unfold oQ CW VX XQ
  rw [decide_eq_false h0, cond_false, TQ _ _ _ (by omega) (by omega), hN, aaS _ _ _ _ (by omega) (by omega) (by omega) (by omega), f2 k hk]
  simp only
  rw [aaS _ _ _ _ (by omega) (by omega) (by omega) (by omega), TQ _ _ _ (by omega) (by omega), hN, ax (n := 0 - X % n) (by omega) (by omega), aaS _ _ _ _ (by omega) (by omega) (by omega) (by omega), epq]
  simp only [cond_false]
  rw [ax (n := b * ((0 - X) % n)) (by omega) (by omega), ax (n := 1 + b * ((0 - X) % n)) (by omega) (by omega), ax (by omega) (by omega)]
structure ajk (a b p q : Int) : Prop where
 det : a * q - b * p = 1
 p0 : a ≠ 0 → 0 ≤ p ∧ p < a.natAbs
 z : a = 0 → p = -b ∧ q = 0
 pb : -1000000 ≤ p ∧ p ≤ 1000000
 qb : -1000000000001 ≤ q ∧ q ≤ 1000000000001
theorem am1 (k : Nat) (hk : 1000000000 < k) {a b : Int} (ha : -1000000 ≤ a) (ha1 : a ≤ 1000000) (hb : -1000000 ≤ b) (hb1 : b ≤ 1000000) (hg : gcdI a b = 1) : ∃ p q : Int, ajk a b p q ∧
 (∀ r : Int → Int → Option α, sV k a b r = r p q) ∧ (∀ r : Int → Int → Option α, oQ k a b r = r p q) := by
 by_cases h0 : a = 0
 ·subst h0
  unfold gcdI at hg
  rw [Int.gcd_zero_left] at hg
  have w : w64 (0 - b) = -b := by rw [ax (by omega) (by omega)]; omega
  refine ⟨-b, 0, ⟨?_, fun h => absurd rfl h, fun _ => ⟨rfl, rfl⟩, by omega, by omega⟩, fun r => ?_, fun r => ?_⟩
  ·rcases (show b = 1 ∨ b = -1 by omega) with rfl | rfl <;> rfl
  ·unfold sV MW; rw [decide_eq_true rfl, cond_true, w]
  ·unfold oQ CW; rw [decide_eq_true rfl, cond_true, w]
 ·obtain ⟨p, q, h1, h2, h3, h4, h5, h6, h7⟩ := aki (α := α) k hk h0 ha ha1 hb hb1
  exact ⟨p, q, ⟨h5 hg, fun _ => ⟨h1, h2⟩, fun e => absurd e h0, by omega, by omega⟩, h6, h7⟩
theorem akD {a b p q p' q' : Int} (h0 : a ≠ 0) (h : a * q - b * p = 1) (h' : a * q' - b * p' = 1) (b1 : 0 ≤ p ∧ p < a.natAbs) (b2 : 0 ≤ p' ∧ p' < a.natAbs) : p = p' ∧ q = q' := by
 have e : a * (q - q') = b * (p - p') := by grind
 have hd : a ∣ p - p' := by
  have e1 : p - p' = a * (q * (p - p') - p * (q - q')) := by
   have e2 : (a * q - b * p) * (p - p') = p - p' := by rw [h, Int.one_mul]
   grind
  rw [e1]; exact Int.dvd_mul_right _ _
 have hp : p - p' = 0 := Int.eq_zero_of_dvd_of_natAbs_lt_natAbs hd (by omega)
 have hq : a * (q - q') = 0 := by rw [e, hp, Int.mul_zero]
 rcases Int.mul_eq_zero.1 hq with e | e
 ·exact absurd e h0
 ·omega
def rZ (a b : Int) : Int × Int := if a = 0 then (-b, 0) else
 match (List.range a.natAbs).find? (fun p : Nat => decide ((1 + b * (p : Int)) % a = 0)) with
 | some p => ((p : Int), (1 + b * (p : Int)) / a)
 | none => (0, 0)
theorem alZ {a b p q : Int} (h : ajk a b p q) : rZ a b = (p, q) := by
 unfold rZ
 split
 ·rename_i h0
  have := h.z h0
  rw [this.1, this.2]
 ·rename_i h0
  have hp := h.p0 h0
  split
  ·rename_i p' hf
   have h1 := List.find?_some hf
   have h2 := List.mem_range.1 (List.mem_of_find?_eq_some hf)
   simp only [decide_eq_true_eq] at h1
   have h3 := Int.mul_ediv_cancel' (Int.dvd_of_emod_eq_zero h1)
   have := akD h0 h.det (q' := (1 + b * (p' : Int)) / a) (p' := (p' : Int)) (by omega) hp ⟨by omega, by omega⟩
   rw [this.1, this.2]
  ·rename_i hf
   have := List.find?_eq_none.1 hf p.toNat (List.mem_range.2 (by omega))
   rw [show ((p.toNat : Nat) : Int) = p by omega] at this
   refine absurd ?_ this
   rw [decide_eq_true_iff, show 1 + b * p = a * q by have := h.det; omega]
   exact Int.mul_emod_right _ _
def bef (x y : Int × Int × Int) : Bool := bif !decide (x.1 = y.1) then decide (x.1 < y.1) else bif !decide (x.2.1 = y.2.1) then decide (x.2.1 < y.2.1) else decide (x.2.2 < y.2.2)
structure KX (l : List Int) : Prop where
 len : l.length ≤ 4096
 byte : ∀ x ∈ l, 0 ≤ x ∧ x ≤ 255
def AtC (l : List Int) (a : Int) : Prop := 0 ≤ a ∧ a ≤ l.length
theorem anI (h : Int) : 0 ≤ w64 (IntKind.wrap .u64 ((BitVec.ofInt 64 h &&& BitVec.ofInt 64 1073741823).toNat : Nat)) ∧ w64 (IntKind.wrap .u64 ((BitVec.ofInt 64 h &&& BitVec.ofInt 64 1073741823).toNat : Nat)) ≤ 1073741823 := by
 have h1 : (BitVec.ofInt 64 h &&& BitVec.ofInt 64 1073741823).toNat ≤ 1073741823 := by
  rw [BitVec.toNat_and]
  exact Nat.le_trans Nat.and_le_right (by decide)
 rw [IntWalk.u64_in _ (by omega), ax (by omega) (by omega)]
 omega
def lcg (h : Int) : Int := IntKind.wrap .u64 ((IntKind.wrap .u64 (h * 6364136223846793005)) + 1442695040888963407)
def lcgX (h : Int) : Int := w64 (IntKind.wrap .u64 ((BitVec.ofInt 64 (Int.fdiv (lcg h) (2 ^ 31)) &&& BitVec.ofInt 64 1073741823).toNat : Nat))
theorem anK (h : Int) : 0 ≤ lcgX h ∧ lcgX h ≤ 1073741823 := anI _
theorem aeN (l : List Int) (a : Int) (k : Nat) (h n : Int) (r : Int → Int → Int → Option α) : lK k l a h n r = bif decide (n < 1) then r 0 a h else bif decide (a < (l.length : Nat)) then (bif decide (0 ≤ a) && decide (a < (l.length : Nat)) then (l[a.toNat]?).bind fun e => bif decide (n = 0) then none else r (Int.tmod (w64 (lcgX h + w64 e)) n) (w64 (a + 1)) (lcg h) else none) else bif decide (n = 0) then none else r (Int.tmod (lcgX h) n) a (lcg h) := rfl
theorem VV {l : List Int} (hl : KX l) {a : Int} (ha : AtC l a) (k : Nat) (h n : Int) : ∃ v a' h', AtC l a' ∧ 0 ≤ v ∧ (v < n ∨ (n < 1 ∧ v = 0)) ∧ ∀ r : Int → Int → Int → Option α, lK k l a h n r = r v a' h' := by
 have hlen := hl.len
 unfold AtC at ha
 by_cases h1 : n < 1
 ·exact ⟨0, a, h, ha, by omega, .inr ⟨h1, rfl⟩, fun r => by rw [aeN, kJ h1, cond_true]⟩
 ·have hz : decide (n = 0) = false := decide_eq_false (by omega)
  have h1' : decide (n < 1) = false := decide_eq_false h1
  obtain ⟨m1, m2⟩ := anK h
  by_cases h2 : a < l.length
  ·have hlt : a.toNat < l.length := by omega
   have hb := hl.byte l[a.toNat] (List.getElem_mem hlt)
   refine ⟨Int.tmod (lcgX h + l[a.toNat]) n, a + 1, lcg h, by unfold AtC; omega, Int.tmod_nonneg _ (by omega), .inl (Int.tmod_lt_of_pos _ (by omega)), fun r => ?_⟩
   rw [aeN, h1', cond_false, kJ h2, cond_true, mV ha.1, Bool.and_true, cond_true, List.getElem?_eq_getElem hlt, Option.bind_some, hz, cond_false, ax (n := a + 1) (by omega) (by omega), ax (n := l[a.toNat]) (by omega) (by omega), ax (n := lcgX h + l[a.toNat]) (by omega) (by omega)]
  ·refine ⟨Int.tmod (lcgX h) n, a, lcg h, ha, Int.tmod_nonneg _ (by omega), .inl (Int.tmod_lt_of_pos _ (by omega)), fun r => ?_⟩
   rw [aeN, h1', cond_false, uV (by omega), cond_false, hz, cond_false]
theorem ah8 {l : List Int} (hl : KX l) : ∀ (m k i : Nat) (s h : Int) (r : Int → Int → Option α), i + m = l.length → m < k → ∃ h', ∀ (r : Int → Int → Option α), qX k i l s h (fun _ _ s1 s2 => r s1 s2) r = r s h'
 | 0, k + 1, i, s, h, r, hi, _ => ⟨h, fun r => by
   rw [qX, EK, uV (by omega), cond_false]⟩
 | m + 1, k + 1, i, s, h, r, hi, hk => by
   have hlen := hl.len
   have en : w64 ((i : Int) + 1) = ((i + 1 : Nat) : Int) := by rw [ax (by omega) (by omega)]; omega
   have hlt : i < l.length := by omega
   obtain ⟨h', ih⟩ := ah8 hl m k (i + 1) s (IntKind.wrap .u64 ((IntKind.wrap .u64 ((IntKind.wrap .u64 (h * 1099511628211)) + (IntKind.wrap .u64 l[i]))) + 107)) r (by omega) (by omega)
   refine ⟨h', fun r => ?_⟩
   rw [qX, EK, kJ (by omega), cond_true, kJ (by omega), cond_true, mV (by omega), Bool.and_true, cond_true, Int.toNat_natCast, List.getElem?_eq_getElem hlt, Option.bind_some, en]
   exact ih r
 | _, 0, _, _, _, _, _, hk => by omega
theorem amT {l : List Int} (hl : KX l) (k : Nat) (hk : 4096 < k) : ∃ h, AtC l 0 ∧ ∀ r : Int → Int → Option α, SY k l r = r 0 h := by
 have hlen := hl.len
 obtain ⟨h', e⟩ := ah8 (α := α) hl l.length k 0 0 (IntKind.wrap .u64 (12971 + (IntKind.wrap .u64 (l.length : Int)))) (fun _ _ => none) (by omega) (by omega)
 exact ⟨h', ⟨by omega, by omega⟩, fun r => e r⟩
theorem ah9 {l : List Int} (hl : KX l) {a : Int} (ha : AtC l a) (k : Nat) (h : Int) {list : List Int} (h0 : 0 < list.length) (h1 : list.length ≤ 1000) : ∃ v a' h', AtC l a' ∧ v ∈ list ∧ ∀ r : Int → Int → Int → Option α, zZ k l a h list r = r v a' h' := by
 obtain ⟨v, a', h', i1, i2, i3, i4⟩ := VV (α := α) hl ha k h (list.length : Int)
 have hv : v < list.length := by omega
 have hlt : v.toNat < list.length := by omega
 refine ⟨list[v.toNat], a', h', i1, List.getElem_mem hlt, fun r => ?_⟩
 unfold zZ VZ
 rw [i4, mV i2, kJ hv, Bool.and_true, cond_true, List.getElem?_eq_getElem hlt, Option.bind_some]
theorem akY {l : List Int} (hl : KX l) {a : Int} (ha : AtC l a) (k : Nat) (h : Int) {most : Int} (h0 : 0 ≤ most) (h1 : most ≤ 1000000000) : ∃ x y a' h', AtC l a' ∧ (-most ≤ x ∧ x ≤ most) ∧ (-most ≤ y ∧ y ≤ most) ∧ ∀ r : Int → Int → Int → Int → Option α, xZ k l a h most r = r x y a' h' := by
 have w : w64 ((w64 (2 * most)) + 1) = 2 * most + 1 := by rw [ax (n := 2 * most) (by omega) (by omega), ax (by omega) (by omega)]
 obtain ⟨v, a1, h1', i1, i2, i3, i4⟩ := VV (α := α) hl ha k h (w64 ((w64 (2 * most)) + 1))
 obtain ⟨u, a2, h2', j1, j2, j3, j4⟩ := VV (α := α) hl i1 k h1' (w64 ((w64 (2 * most)) + 1))
 refine ⟨v - most, u - most, a2, h2', j1, by omega, by omega, fun r => ?_⟩
 unfold xZ Hz
 rw [i4, j4, ax (n := v - most) (by omega) (by omega), ax (n := u - most) (by omega) (by omega)]
theorem aj2 {l : List Int} (hl : KX l) {a : Int} (ha : AtC l a) (k : Nat) (h x y : Int) : ∃ x' y' a' h', AtC l a' ∧ ∀ r : Int → Int → Int → Int → Option α, Bj k l a h x y r = r x' y' a' h' := by
 obtain ⟨v, a1, h1', i1, i2, i3, i4⟩ := VV (α := α) hl ha k h 40
 by_cases hv : v = 0
 ·obtain ⟨u, a2, h2, j1, j2, j3, j4⟩ := VV (α := α) hl i1 k h1' 2
  obtain ⟨z, a3, h3, q1, q2, q3⟩ := ah9 (α := α) hl j1 k h2 (list := [1000001, (-1000001), 1099511627776]) (by simp) (by simp)
  rcases (show u = 0 ∨ u = 1 by omega) with rfl | rfl
  ·refine ⟨z, y, a3, h3, q1, fun r => ?_⟩
   unfold Bj Fz
   rw [i4, decide_eq_true hv, cond_true, j4, q3]
   simp
  ·refine ⟨x, z, a3, h3, q1, fun r => ?_⟩
   unfold Bj Fz
   rw [i4, decide_eq_true hv, cond_true, j4, q3]
   simp
 ·refine ⟨x, y, a1, h1', i1, fun r => ?_⟩
  unfold Bj Fz
  rw [i4, decide_eq_false hv, cond_false]
theorem ab9 {l : List Int} (hl : KX l) {a : Int} (ha : AtC l a) (k : Nat) (hk : 1000000000 < k) (h : Int) {most : Int} (h0 : 0 ≤ most) (h1 : most ≤ 1000000) : ∃ x y a' h', AtC l a' ∧ ∀ r : Int → Int → Int → Int → Option α, oV k l a h most r = r x y a' h' := by
 obtain ⟨x, y, a1, h1, i1, x1, y1, e1⟩ := akY (α := α) hl ha k h (most := most) h0 (by omega)
 by_cases hz : x = 0 ∧ y = 0
 ·exact ⟨1, 0, a1, h1, i1, fun r => by simp [oV, uJ, e1, hz.1, hz.2]⟩
 ·refine ⟨(prim x y).1, (prim x y).2, a1, h1, i1, fun r => ?_⟩
  have hc : (decide (x = 0) && decide (y = 0)) = false := by
   rw [Bool.and_eq_false_iff, decide_eq_false_iff_not, decide_eq_false_iff_not]
   omega
  unfold oV uJ
  rw [e1, hc, cond_false, aeF k x y _ (by omega) (by omega) (by omega) (by omega) hk (by omega)]
def dt (p q : Int × Int) : Int := p.1 * q.2 - p.2 * q.1
def Crd (p : Int × Int) : Prop := (-1000000 ≤ p.1 ∧ p.1 ≤ 1000000) ∧ (-1000000 ≤ p.2 ∧ p.2 ≤ 1000000)
theorem Tj {p : Int × Int} : (crd p.1 && crd p.2) = true ↔ Crd p := by simp only [Bool.and_eq_true, UZ, Crd]
theorem dt_b {p q : Int × Int} (hp : Crd p) (hq : Crd q) : -2000000000000 ≤ dt p q ∧ dt p q ≤ 2000000000000 := by
 have h1 := yY hp.1.1 hp.1.2 hq.2.1 hq.2.2
 have h2 := yY hp.2.1 hp.2.2 hq.1.1 hq.1.2
 unfold dt
 omega
theorem dt_w {p q : Int × Int} (hp : Crd p) (hq : Crd q) : w64 (w64 (p.1 * q.2) - w64 (p.2 * q.1)) = dt p q := by
 have h1 := yY hp.1.1 hp.1.2 hq.2.1 hq.2.2
 have h2 := yY hp.2.1 hp.2.2 hq.1.1 hq.1.2
 rw [ax (n := p.1 * q.2) (by omega) (by omega), ax (n := p.2 * q.1) (by omega) (by omega), ax (by omega) (by omega)]
 rfl
structure SInv (a b p q : Int × Int) : Prop where
 det : dt p q = 1
 up : dt q b < dt p b
 q0 : 0 ≤ dt q b
 ap : 0 ≤ dt a p
 aq : 0 ≤ dt a q
 sp : dt p b + dt a p ≤ dt a b
 sq : dt q b + dt a q ≤ dt a b
 cp : Crd p
 cq : Crd q
def cNum (b p q : Int × Int) : Int := -((-dt p b) / dt q b)
def jJ (b p q : Int × Int) : Int × Int := (cNum b p q * q.1 - p.1, cNum b p q * q.2 - p.2)
theorem ai9 {b p q : Int × Int} (h : 0 < dt q b) : dt p b ≤ dt q b * cNum b p q ∧ dt q b * cNum b p q < dt p b + dt q b := by
 have := WW (a := -dt p b) h
 unfold cNum
 rw [Int.mul_neg]
 omega
theorem acl {b p q : Int × Int} (h : 0 < dt q b) (h1 : dt q b < dt p b) : 2 ≤ cNum b p q ∧ cNum b p q ≤ dt p b := by
 have hb := ai9 (p := p) h
 constructor
 ·rcases vZ (cNum b p q) 2 with hc | hc
  ·have := wV (dt q b) (by omega) (show cNum b p q ≤ 1 by omega)
   omega
  ·exact hc
 ·rcases vZ (dt p b) (cNum b p q) with hc | hc
  ·exfalso
   have h2 : 0 ≤ (dt q b - 1) * (cNum b p q - 1) := Int.mul_nonneg (by omega) (by omega)
   have h3 : (dt q b - 1) * (cNum b p q - 1) = dt q b * cNum b p q - dt q b - cNum b p q + 1 := by grind
   omega
  ·exact hc
theorem acT (a b : Int) (hb : 0 < b) : -(a.natAbs : Int) ≤ a / b ∧ a / b ≤ a.natAbs := by
 have h := WW (a := a) hb
 constructor
 ·rcases vZ (a / b) (-(a.natAbs : Int)) with hn | hn
  ·exfalso
   have h2 : 0 ≤ (b - 1) * (-(a / b) - 1) := Int.mul_nonneg (by omega) (by omega)
   have h3 : (b - 1) * (-(a / b) - 1) = -(b * (a / b)) - b + a / b + 1 := by grind
   omega
  ·exact hn
 ·rcases vZ (a.natAbs : Int) (a / b) with hn | hn
  ·exfalso
   have h2 : 0 ≤ (b - 1) * (a / b) := Int.mul_nonneg (by omega) (by omega)
   have h3 : (b - 1) * (a / b) = b * (a / b) - a / b := by grind
   omega
  ·exact hn
theorem aj7 {a b q : Int × Int} (ha : Crd a) (hb : Crd b) (h0 : 0 ≤ dt q b) (h1 : 0 ≤ dt a q) (hs : dt q b + dt a q ≤ dt a b) (hD : 1 ≤ dt a b) : Crd q := by
 have key : ∀ x y z : Int, -1000000 ≤ x → x ≤ 1000000 → -1000000 ≤ y → y ≤ 1000000 → dt a b * z = dt q b * x + dt a q * y → -1000000 ≤ z ∧ z ≤ 1000000 := by
  intro x y z hx hx1 hy hy1 e
  have b1 := wV (dt q b) h0 hx1
  have b2 := wV (dt a q) h1 hy1
  have b3 := wV (dt q b) h0 hx
  have b4 := wV (dt a q) h1 hy
  constructor
  ·rcases vZ z (-1000000) with hz | hz
   ·exfalso
    have := wV (dt a b) (by omega) (show z ≤ -1000001 by omega)
    omega
   ·exact hz
  ·rcases vZ 1000000 z with hz | hz
   ·exfalso
    have := wV (dt a b) (by omega) (show 1000001 ≤ z by omega)
    omega
   ·exact hz
 exact ⟨key a.1 b.1 q.1 ha.1.1 ha.1.2 hb.1.1 hb.1.2 (by unfold dt; grind), key a.2 b.2 q.2 ha.2.1 ha.2.2 hb.2.1 hb.2.2 (by unfold dt; grind)⟩
theorem SInv.next {a b p q : Int × Int} (ha : Crd a) (hb : Crd b) (h : SInv a b p q) (hq : dt q b ≠ 0) : SInv a b q (jJ b p q) := by
 have hw : 0 < dt q b := by have := h.q0; omega
 have hc := ai9 (p := p) hw
 have e1 : dt q (jJ b p q) = dt p q := by unfold dt jJ; grind
 have e2 : dt (jJ b p q) b = dt q b * cNum b p q - dt p b := by unfold dt jJ; grind
 have e3 : dt q b * dt a (jJ b p q) = dt a b * dt q (jJ b p q) + dt (jJ b p q) b * dt a q := by unfold dt; grind
 rw [e1, h.det, Int.mul_one] at e3
 have h1 : 0 ≤ dt (jJ b p q) b := by rw [e2]; omega
 have h2 : dt (jJ b p q) b < dt q b := by rw [e2]; omega
 have hD : 1 ≤ dt a b := by have := h.sq; have := h.aq; omega
 have h4 := Int.mul_nonneg h1 h.aq
 have h3 : 0 ≤ dt a (jJ b p q) := by
  rcases vZ (dt a (jJ b p q)) 0 with hn | hn
  ·exfalso
   have := Int.mul_le_mul_of_nonneg_left (show dt a (jJ b p q) ≤ -1 by omega) (show 0 ≤ dt q b by omega)
   omega
  ·exact hn
 have h5 : dt (jJ b p q) b + dt a (jJ b p q) ≤ dt a b := by
  rcases vZ (dt a b) (dt (jJ b p q) b + dt a (jJ b p q)) with hn | hn
  ·exfalso
   generalize dt (jJ b p q) b = w at *
   generalize dt a (jJ b p q) = e' at *
   have m1 := wV (dt q b) (by omega) (show dt a b + 1 ≤ w + e' by omega)
   have m2 := wV w h1 h.sq
   have m3 := wV (dt a b) (by omega) (show w + 1 ≤ dt q b by omega)
   have m4 : dt q b * (w + e') = dt q b * w + dt q b * e' := Int.mul_add _ _ _
   have m5 : w * (dt q b + dt a q) = dt q b * w + w * dt a q := by rw [Int.mul_add, Int.mul_comm w]
   have m6 : dt a b * (w + 1) = w * dt a b + dt a b := by rw [Int.mul_add, Int.mul_one, Int.mul_comm w]
   have m7 : dt q b * (dt a b + 1) = dt a b * dt q b + dt q b := by rw [Int.mul_add, Int.mul_one, Int.mul_comm (dt q b)]
   omega
  ·exact hn
 exact ⟨by rw [e1]; exact h.det, h2, h1, h.aq, h3, h.sq, h5, h.cq, aj7 ha hb h1 h3 h5 hD⟩
theorem SInv.last {a b p q : Int × Int} (hb : gcdI b.1 b.2 = 1) (h : SInv a b p q) (hq : dt q b = 0) : q = b := by
 have e1 : q.1 * dt p b = b.1 := by
  have := h.det
  have e : q.1 * dt p b = b.1 * dt p q + p.1 * dt q b := by unfold dt; grind
  rw [hq, this] at e
  omega
 have e2 : q.2 * dt p b = b.2 := by
  have := h.det
  have e : q.2 * dt p b = b.2 * dt p q + p.2 * dt q b := by unfold dt; grind
  rw [hq, this] at e
  omega
 have hup := h.up
 rw [hq] at hup
 have hd : dt p b ∣ gcdI b.1 b.2 := Int.dvd_coe_gcd ⟨q.1, by rw [← e1, Int.mul_comm]⟩ ⟨q.2, by rw [← e2, Int.mul_comm]⟩
 rw [hb] at hd
 have h1 : dt p b = 1 := by
  have := Int.le_of_dvd (by omega) hd
  omega
 rw [h1, Int.mul_one] at e1 e2
 exact Prod.ext e1 e2
def yQ (b : Int × Int) : Nat → Int × Int → Int × Int → Option (List (Int × Int) × List Int)
 | 0, _, _ => none
 | m + 1, p, q => if dt q b = 0 then some ([q], []) else (yQ b m q (jJ b p q)).map fun s => (q :: s.1, cNum b p q :: s.2)
def xK (a b : Int × Int) : Int × Int :=
 ((rZ a.1 a.2).1 + -(dt (rZ a.1 a.2) b / dt a b) * a.1, (rZ a.1 a.2).2 + -(dt (rZ a.1 a.2) b / dt a b) * a.2)
def aaM (a b : Int × Int) : Option (List (Int × Int) × List Int) := yQ b 1999 a (xK a b)
structure Ang (a b : Int × Int) : Prop where
 ca : Crd a
 cb : Crd b
 ga : gcdI a.1 a.2 = 1
 gb : gcdI b.1 b.2 = 1
 det : 1 ≤ dt a b
theorem ae1 (a : Int × Int) : dt a a = 0 := by unfold dt; grind
theorem Py {a b : Int × Int} (h : Ang a b) (hm : dt a (rZ a.1 a.2) = 1) : SInv a b a (xK a b) := by
 have hD := h.det
 have hf := WW (a := dt (rZ a.1 a.2) b) (show 0 < dt a b by omega)
 have e1 : dt a (xK a b) = 1 := by rw [← hm]; unfold dt xK; grind
 have e2 : dt (xK a b) b = dt (rZ a.1 a.2) b - dt a b * (dt (rZ a.1 a.2) b / dt a b) := by
  generalize hF : dt (rZ a.1 a.2) b / dt a b = f
  unfold xK
  rw [hF]
  unfold dt
  grind
 have h1 : 0 ≤ dt (xK a b) b := by rw [e2]; omega
 have h2 : dt (xK a b) b < dt a b := by rw [e2]; omega
 exact ⟨e1, h2, h1, by rw [ae1]; omega, by rw [e1]; omega, by rw [ae1]; omega, by rw [e1]; omega, h.ca, aj7 h.ca h.cb h1 (by rw [e1]; omega) (by rw [e1]; omega) hD⟩
structure Sl (a b : Int × Int) (L : List (Int × Int)) (cs : List Int) : Prop where
 n2 : 2 ≤ L.length
 nc : L.length = cs.length + 2
 last : L.getD (L.length - 1) (0, 0) = b
 det : ∀ i, i + 1 < L.length → dt (L.getD i (0, 0)) (L.getD (i + 1) (0, 0)) = 1
 step : ∀ i, i + 2 < L.length → 2 ≤ cs.getD i 0 ∧ L.getD (i + 2) (0, 0) = (cs.getD i 0 * (L.getD (i + 1) (0, 0)).1 - (L.getD i (0, 0)).1, cs.getD i 0 * (L.getD (i + 1) (0, 0)).2 - (L.getD i (0, 0)).2)
 cb : ∀ c ∈ cs, 2 ≤ c ∧ c ≤ 2000000000000
 crd : ∀ i, i < L.length → Crd (L.getD i (0, 0)) ∧ 0 ≤ dt a (L.getD i (0, 0)) ∧ 0 ≤ dt (L.getD i (0, 0)) b
theorem agr {a b : Int × Int} (h : Ang a b) : ∀ (m : Nat) (p q : Int × Int) (s : List (Int × Int) × List Int), SInv a b p q → yQ b m p q = some s → Sl a b (p :: s.1) s.2 ∧ s.1.length ≤ m
 | 0, p, q, s, hi, hs => by cases hs
 | m + 1, p, q, s, hi, hs => by
   have hup : 0 ≤ dt p b := by have := hi.up; have := hi.q0; omega
   simp only [yQ] at hs
   split at hs
   ·rename_i hz
    cases hs
    refine ⟨⟨by simp, by simp, by simpa using hi.last h.gb hz, fun i hlt => ?_, fun i hlt => ?_, by simp, fun i hlt => ?_⟩, by simp⟩
    ·have : i = 0 := by simp at hlt; omega
     subst this
     exact hi.det
    ·simp at hlt; omega
    ·rcases (show i = 0 ∨ i = 1 by simp at hlt; omega) with rfl | rfl
     ·exact ⟨hi.cp, hi.ap, hup⟩
     ·exact ⟨hi.cq, hi.aq, hi.q0⟩
   ·rename_i hz
    rw [Option.map_eq_some_iff] at hs
    obtain ⟨t, ht, rfl⟩ := hs
    obtain ⟨ih, hlen⟩ := agr h m q (jJ b p q) t (hi.next h.ca h.cb hz) ht
    have ht0 : ∃ u, t.1 = jJ b p q :: u := by
     cases m with
     | zero => cases ht
     | succ m =>
       simp only [yQ] at ht
       split at ht
       ·cases ht; exact ⟨_, rfl⟩
       ·rw [Option.map_eq_some_iff] at ht
        obtain ⟨_, _, rfl⟩ := ht
        exact ⟨_, rfl⟩
    obtain ⟨u, hu⟩ := ht0
    have hn2 := ih.n2
    refine ⟨⟨by simp, by have := ih.nc; simp at this ⊢; omega, ?_, fun i hlt => ?_, fun i hlt => ?_, fun c hc => ?_, fun i hlt => ?_⟩, by simp; omega⟩
    ·have := ih.last
     simp only [List.length_cons, Nat.add_sub_cancel] at this ⊢
     exact this
    ·cases i with
     | zero => exact hi.det
     | succ i => exact ih.det i (by simp at hlt ⊢; omega)
    ·cases i with
     | zero =>
       have hc := acl (p := p) (show 0 < dt q b by have := hi.q0; omega) hi.up
       simp only [hu]
       exact ⟨hc.1, rfl⟩
     | succ i => exact ih.step i (by simp at hlt ⊢; omega)
    ·rcases List.mem_cons.1 hc with rfl | hc
     ·have hc := acl (p := p) (show 0 < dt q b by have := hi.q0; omega) hi.up
      have := dt_b hi.cp h.cb
      omega
     ·exact ih.cb c hc
    ·cases i with
     | zero => exact ⟨hi.cp, hi.ap, hup⟩
     | succ i => exact ih.crd i (by simp at hlt ⊢; omega)
def angB (a b : Int × Int) : Bool := (crd a.1 && crd a.2 && (crd b.1 && crd b.2)) && (decide (gcdI a.1 a.2 = 1) && (decide (gcdI b.1 b.2 = 1) && decide (1 ≤ dt a b)))
theorem UJ {a b : Int × Int} : angB a b = true ↔ Ang a b := by
 simp only [angB, Bool.and_eq_true, UZ, decide_eq_true_eq]
 constructor
 ·rintro ⟨⟨⟨a1, a2⟩, b1, b2⟩, g1, g2, d⟩
  exact ⟨⟨a1, a2⟩, ⟨b1, b2⟩, g1, g2, d⟩
 ·rintro ⟨⟨a1, a2⟩, ⟨b1, b2⟩, g1, g2, d⟩
  exact ⟨⟨⟨a1, a2⟩, b1, b2⟩, g1, g2, d⟩
theorem aaA (k : Nat) (hk : 1000000000 < k) (a a1 b b1 : Int) (r : Bool → Option α) : fQ k a a1 b b1 r = r (angB (a, a1) (b, b1)) := by
 simp only [fQ, TZ, aah k (show 3 ≤ k by omega), angB]
 cases h : (crd a && crd a1 && (crd b && crd b1)) with
 | false => simp
 | true =>
   simp only [Bool.and_eq_true, UZ] at h
   obtain ⟨⟨ha, ha1⟩, hb, hb1⟩ := h
   simp only [cond_true, vJ, zJ, CV, Hy, Bool.true_and]
   rw [adf k a a1 _ (by omega) (by omega) (by omega) (by omega) hk]
   cases g1 : decide (gcdI a a1 = 1) with
   | false => simp
   | true =>
     rw [cond_true, adf k b b1 _ (by omega) (by omega) (by omega) (by omega) hk]
     cases g2 : decide (gcdI b b1 = 1) with
     | false => simp
     | true =>
       have := dt_w (p := (a, a1)) (q := (b, b1)) ⟨ha, ha1⟩ ⟨hb, hb1⟩
       simp only at this
       simp [kV, xw, this]
theorem aaz (k : Nat) (hk : 1000000000 < k) (a a1 b b1 : Int) (r : Bool → Option α) : Ey k a a1 b b1 r = r (angB (a, a1) (b, b1)) := by
 simp only [Ey, aal, afW, angB]
 cases h1 : (crd a && crd a1) with
 | false => simp
 | true =>
   cases h2 : (crd b && crd b1) with
   | false => simp
   | true =>
     simp only [Bool.and_eq_true, UZ] at h1 h2
     obtain ⟨ha, ha1⟩ := h1
     obtain ⟨hb, hb1⟩ := h2
     simp only [cond_true, Bool.true_and]
     rw [TY k a a1 _ (by omega) (by omega) (by omega) (by omega) hk]
     cases g1 : decide (gcdI a a1 = 1) with
     | false => simp
     | true =>
       rw [cond_true, TY k b b1 _ (by omega) (by omega) (by omega) (by omega) hk]
       cases g2 : decide (gcdI b b1 = 1) with
       | false => simp
       | true =>
         have := dt_w (p := (a, a1)) (q := (b, b1)) ⟨ha, ha1⟩ ⟨hb, hb1⟩
         simp only at this
         simp [nV, Aj, this]
theorem TW (k : Nat) (hk : 1000000000 < k) {a b : Int × Int} (h : Ang a b) : dt a (rZ a.1 a.2) = 1 ∧ Crd (rZ a.1 a.2) ∧
 (∀ r : Int → Int → Option α, sV k a.1 a.2 r = r (rZ a.1 a.2).1 (rZ a.1 a.2).2) ∧ (∀ r : Int → Int → Option α, oQ k a.1 a.2 r = r (rZ a.1 a.2).1 (rZ a.1 a.2).2) := by
 obtain ⟨p, q, hm, h1, h2⟩ := am1 (α := α) k hk h.ca.1.1 h.ca.1.2 h.ca.2.1 h.ca.2.2 h.ga
 have e := alZ hm
 rw [e]
 have hd := hm.det
 refine ⟨by unfold dt; simpa using hd, ⟨hm.pb, ?_⟩, h1, h2⟩
 have ca := h.ca
 by_cases h0 : a.1 = 0
 ·rw [(hm.z h0).2]
  simp
 ·have hp := hm.p0 h0
  simp only
  have hx : a.1 * q = 1 + a.2 * p := by omega
  have hb := yY ca.2.1 ca.2.2 (show -((a.1.natAbs : Int) - 1) ≤ p by omega) (by omega)
  have hm2 : (1000000 : Int) * ((a.1.natAbs : Int) - 1) = 1000000 * (a.1.natAbs : Int) - 1000000 := by omega
  have habs : (a.1 * q).natAbs = a.1.natAbs * q.natAbs := Int.natAbs_mul _ _
  have hle : a.1.natAbs * q.natAbs ≤ a.1.natAbs * 1000000 := by omega
  have := Nat.le_of_mul_le_mul_left hle (by omega)
  omega
theorem WX {x y c B : Int} (hB : 0 ≤ B) (hB2 : B ≤ 4000000000000) (hx : -1000000 ≤ x ∧ x ≤ 1000000) (hy : -1000000 ≤ y ∧ y ≤ 1000000) (hc : -B ≤ c ∧ c ≤ B) : w64 (x + w64 (c * y)) = x + c * y := by
 have h := yY hc.1 hc.2 hy.1 hy.2
 rw [ax (n := c * y) (by omega) (by omega), ax (by omega) (by omega)]
theorem acx {a b : Int × Int} (h : Ang a b) : ∀ (m k : Nat) (p q : Int × Int) (pts : List (Int × Int)) (nums : List Int) (r0 : Int → Option α) r1, SInv a b p q → pts.length + m = 2000 → m < k → nums.length + m ≤ 2001 →
 rY k b.1 b.2 q.1 q.2 p.1 p.2 pts nums r0 r1 = match yQ b m p q with
  | none => r0 3
  | some s => r1 (pts ++ s.1) (nums ++ s.2 ++ [0]) 0
 | 0, k + 1, p, q, pts, nums, r0, r1, _, hm, _, _ => by
   rw [rY, IJ, vK (by rw [pz]; omega), cond_true, List.length_append, List.length_singleton, kJ (by omega), cond_true]
   rfl
 | m + 1, k + 1, p, q, pts, nums, r0, r1, hi, hm, hk, hn2 => by
   have hcq : (crd q.1 && crd q.2) = true := Tj.2 hi.cq
   rw [rY, IJ, vK (by rw [pz]; omega), cond_true, List.length_append, List.length_singleton, uV (by omega), cond_false, IV, hcq]
   simp only [Bool.not_true, cond_false, yQ]
   by_cases hz : dt q b = 0
   ·have hl := hi.last h.gb hz
    rw [if_pos hz, hl, decide_eq_true rfl, decide_eq_true rfl, Bool.and_self, cond_true, vK (by rw [pz]; omega), cond_true]
    simp
   ·have hne : (decide (q.1 = b.1) && decide (q.2 = b.2)) = false := by
     rw [Bool.and_eq_false_iff, decide_eq_false_iff_not, decide_eq_false_iff_not]
     by_cases e1 : q.1 = b.1
     ·refine .inr fun e2 => hz ?_
      rw [show q = b from Prod.ext e1 e2, ae1]
     ·exact .inl e1
    have hpos : 0 < dt q b := by have := hi.q0; omega
    have hb1 := dt_b hi.cp h.cb
    have hc := acl (p := p) hpos hi.up
    have e1 : w64 (0 - dt p b) = -dt p b := by rw [ax (by omega) (by omega)]; omega
    have e2 : w64 (0 - (-dt p b / dt q b)) = cNum b p q := by
     have := acT (-dt p b) (dt q b) hpos
     rw [ax (by omega) (by omega)]
     unfold cNum
     omega
    have cp := hi.cp
    have l1 : w64 (0 + w64 (-1 * p.1)) = -p.1 := by rw [ax (n := -1 * p.1) (by have := cp.1; omega) (by have := cp.1; omega), ax (by have := cp.1; omega) (by have := cp.1; omega)]; omega
    have l2 : w64 (0 + w64 (-1 * p.2)) = -p.2 := by rw [ax (n := -1 * p.2) (by have := cp.2; omega) (by have := cp.2; omega), ax (by have := cp.2; omega) (by have := cp.2; omega)]; omega
    rw [hne, cond_false, if_neg hz]
    simp only [kV, xw, dt_w hi.cp h.cb, dt_w hi.cq h.cb, e1]
    rw [XY k _ _ _ hpos (by omega) (by omega), vK (by rw [pz]; omega), cond_true]
    simp only [jy, xY, kz, tX, e2, l1, l2]
    rw [WX (B := 2000000000000) (by omega) (by omega) (by have := cp.1; omega) hi.cq.1 (by omega), WX (B := 2000000000000) (by omega) (by omega) (by have := cp.2; omega) hi.cq.2 (by omega)]
    have n1 : -p.1 + cNum b p q * q.1 = (jJ b p q).1 := by unfold jJ; simp only; omega
    have n2 : -p.2 + cNum b p q * q.2 = (jJ b p q).2 := by unfold jJ; simp only; omega
    rw [n1, n2, acx h m k q (jJ b p q) _ _ r0 r1 (hi.next h.ca h.cb hz) (by simp; omega) (by omega) (by simp; omega)]
    cases yQ b m q (jJ b p q) with
    | none => rfl
    | some s => simp
 | _, 0, _, _, _, _, _, _, _, _, hk, _ => by omega
theorem ae0 (k : Nat) (hk : 1000000000 < k) {a b : Int × Int} (h : Ang a b) (r0 : Int → Option α) r1 : Nw k a.1 a.2 b.1 b.2 r0 r1 = match aaM a b with
 | none => r0 3
 | some s => r1 (a :: s.1) (0 :: s.2 ++ [0]) 0 := by
 obtain ⟨hm, hc, _, h2⟩ := TW (α := α) k hk h
 have hD := h.det
 have hD2 := dt_b h.ca h.cb
 have hb := dt_b hc h.cb
 have hf := acT (dt (rZ a.1 a.2) b) (dt a b) (by omega)
 have hi := Py h hm
 unfold Nw XW
 simp only [h2, kV, xw, dt_w hc h.cb, dt_w h.ca h.cb]
 rw [XY k _ _ _ (by omega) (by omega) (by omega)]
 have e : w64 (0 - dt (rZ a.1 a.2) b / dt a b) = -(dt (rZ a.1 a.2) b / dt a b) := by rw [ax (by omega) (by omega)]; omega
 simp only [kz, tX, e]
 rw [WX (B := 2000000000000) (by omega) (by omega) hc.1 h.ca.1 (by omega), WX (B := 2000000000000) (by omega) (by omega) hc.2 h.ca.2 (by omega)]
 exact acx h 1999 k a (xK a b) [a] [0] r0 r1 hi (by simp) (by omega) (by simp)
theorem alm {β : Type} (pre : List β) (x y : β) : (pre ++ [x, y])[pre.length]? = some x ∧ (pre ++ [x, y])[pre.length + 1]? = some y := by simp
theorem acP {a b : Int × Int} (h : Ang a b) : ∀ (m k : Nat) (p q : Int × Int) (pre : List (Int × Int)) (nums : List Int) (r0 : Bool → Option α) r1, SInv a b p q → pre.length + 1 + m = 2000 → m < k → nums.length = pre.length + 1 →
 qK k b.1 b.2 (pre ++ [p, q]) nums r0 r1 = match yQ b m p q with
  | none => r0 false
  | some s => r1 (pre ++ [p] ++ s.1) (nums ++ s.2 ++ [2]) true
 | 0, k + 1, p, q, pre, nums, r0, r1, _, hm, _, _ => by
   rw [qK, EX, kJ (by simp; omega), cond_true]
   rfl
 | m + 1, k + 1, p, q, pre, nums, r0, r1, hi, hm, hk, hn => by
   have hl : (pre ++ [p, q]).length = pre.length + 2 := by simp
   have w2 : w64 (((pre.length + 2 : Nat) : Int) - 2) = (pre.length : Int) := by rw [ax (by omega) (by omega)]; omega
   have w1 : w64 (((pre.length + 2 : Nat) : Int) - 1) = ((pre.length + 1 : Nat) : Int) := by rw [ax (by omega) (by omega)]; omega
   obtain ⟨g1, g2⟩ := alm pre p q
   rw [qK, EX, hl, uV (by omega), cond_false, w1, w2, mV (by omega), kJ (by omega), mV (by omega), kJ (by omega)]
   simp only [Bool.and_self, cond_true, Int.toNat_natCast, g1, g2, Option.bind_some, nV, Aj, dt_w hi.cp h.cb, dt_w hi.cq h.cb, yQ]
   by_cases hz : dt q b = 0
   ·rw [if_pos hz, decide_eq_true hz, cond_true, vK (by rw [pz]; omega), cond_true]
    simp
   ·have hpos : 0 < dt q b := by have := hi.q0; omega
    have hb1 := dt_b hi.cp h.cb
    have hc := acl (p := p) hpos hi.up
    have e1 : w64 (0 - dt p b) = -dt p b := by rw [ax (by omega) (by omega)]; omega
    have e2 : w64 (0 - (-dt p b / dt q b)) = cNum b p q := by
     have := acT (-dt p b) (dt q b) hpos
     rw [ax (by omega) (by omega)]
     unfold cNum
     omega
    have cp := hi.cp
    have l1 : w64 (0 - p.1) = -p.1 := by rw [ax (by have := cp.1; omega) (by have := cp.1; omega)]; omega
    have l2 : w64 (0 - p.2) = -p.2 := by rw [ax (by have := cp.2; omega) (by have := cp.2; omega)]; omega
    rw [if_neg hz, decide_eq_false hz, cond_false, e1, aap k _ _ _ hpos (by omega) (by omega), vK (by rw [pz]; omega), cond_true]
    simp only [qx, Dw, e2, l1, l2]
    rw [WX (B := 2000000000000) (by omega) (by omega) (by have := cp.1; omega) hi.cq.1 (by omega), WX (B := 2000000000000) (by omega) (by omega) (by have := cp.2; omega) hi.cq.2 (by omega)]
    have n1 : -p.1 + cNum b p q * q.1 = (jJ b p q).1 := by unfold jJ; simp only; omega
    have n2 : -p.2 + cNum b p q * q.2 = (jJ b p q).2 := by unfold jJ; simp only; omega
    rw [n1, n2, vK (by rw [pz]; omega), cond_true]
    have := acP h m k q (jJ b p q) (pre ++ [p]) (nums ++ [cNum b p q]) r0 r1 (hi.next h.ca h.cb hz) (by simp; omega) (by omega) (by simp; omega)
    simp only [List.append_assoc, List.cons_append, List.nil_append] at this ⊢
    rw [this]
    cases yQ b m q (jJ b p q) with
    | none => rfl
    | some s => simp
 | _, 0, _, _, _, _, _, _, _, _, hk, _ => by omega
theorem ahp (k : Nat) (hk : 1000000000 < k) {a b : Int × Int} (h : Ang a b) (r0 : Bool → Option α) r1 : JY k a.1 a.2 b.1 b.2 r0 r1 = match aaM a b with
 | none => r0 false
 | some s => r1 (a :: s.1) (2 :: s.2 ++ [2]) true := by
 obtain ⟨hm, hc, h1, _⟩ := TW (α := α) k hk h
 have hD := h.det
 have hD2 := dt_b h.ca h.cb
 have hb := dt_b hc h.cb
 have hf := acT (dt (rZ a.1 a.2) b) (dt a b) (by omega)
 have hi := Py h hm
 unfold JY Uj
 simp only [h1, nV, Aj, dt_w hc h.cb, dt_w h.ca h.cb]
 rw [aap k _ _ _ (by omega) (by omega) (by omega)]
 have e : w64 (0 - dt (rZ a.1 a.2) b / dt a b) = -(dt (rZ a.1 a.2) b / dt a b) := by rw [ax (by omega) (by omega)]; omega
 simp only [qx, Dw, e]
 rw [WX (B := 2000000000000) (by omega) (by omega) hc.1 h.ca.1 (by omega), WX (B := 2000000000000) (by omega) (by omega) hc.2 h.ca.2 (by omega)]
 exact acP h 1999 k a (xK a b) [] [2] r0 r1 hi (by simp) (by omega) (by simp)
def uw (a b : Int × Int) : Int ⊕ (List (Int × Int) × List Int) := if angB a b then (match aaM a b with
 | none => .inl 3
 | some s => .inr (a :: s.1, s.2)) else .inl 1
theorem NK (k : Nat) (hk : 1000000000 < k) (a b : Int × Int) (r0 : Int → Option α) r1 : qZ k a.1 a.2 b.1 b.2 r0 r1 = match uw a b with
 | .inl c => r0 c
 | .inr s => r1 s.1 (0 :: s.2 ++ [0]) 0 := by
 unfold qZ Ox uw
 rw [aaA k hk]
 change (bif !angB a b then _ else _) = _
 cases h : angB a b with
 | false => rfl
 | true =>
   rw [Bool.not_true, cond_false, ae0 k hk (UJ.1 h), if_pos rfl]
   cases aaM a b <;> rfl
theorem age (k : Nat) (hk : 1000000000 < k) (a b : Int × Int) (r0 : Int → Option α) r1 : JX k a.1 a.2 b.1 b.2 r0 r1 = match uw a b with
 | .inl c => r0 c
 | .inr s => r1 s.1 (2 :: s.2 ++ [2]) 0 := by
 unfold JX UW uw
 rw [aaz k hk]
 change (bif !angB a b then _ else _) = _
 cases h : angB a b with
 | false => rfl
 | true =>
   rw [Bool.not_true, cond_false, ahp k hk (UJ.1 h), if_pos rfl]
   cases aaM a b <;> rfl
theorem adv (k : Nat) (hk : 1000000000 < k) {a b : Int × Int} {s : List (Int × Int) × List Int} (h : uw a b = .inr s) : Ang a b ∧ Sl a b s.1 s.2 ∧ s.1.length ≤ 2000 ∧ s.1.getD 0 (0, 0) = a := by
 unfold uw at h
 split at h
 ·rename_i hA
  have hA := UJ.1 hA
  split at h
  ·cases h
  ·rename_i t ht
   cases h
   obtain ⟨hm, _⟩ := TW (α := Unit) k hk hA
   obtain ⟨h1, h2⟩ := agr hA 1999 a (xK a b) t (Py hA hm) ht
   exact ⟨hA, h1, by simp; omega, rfl⟩
 ·cases h
theorem aeg {a b : Int × Int} {c : Int} (h : uw a b = .inl c) : c = 1 ∨ c = 3 := by
 unfold uw at h
 split at h
 ·split at h
  ·cases h; exact .inr rfl
  ·cases h
 ·cases h; exact .inl rfl
theorem adU (k : Nat) (hk : 1000000000 < k) (a b : Int × Int) :
 (∀ (r0 : Int → Option α) r1, dQ k a.1 a.2 b.1 b.2 r0 r1 = match uw a b with
   | .inl c => r0 c
   | .inr s => r1 s.1 0) ∧
 (∀ (r0 : Int → Option α) r1, cZ k a.1 a.2 b.1 b.2 r0 r1 = match uw a b with
   | .inl c => r0 c
   | .inr s => r1 s.1 0) := by
 refine ⟨fun r0 r1 => ?_, fun r0 r1 => ?_⟩
 ·unfold dQ NV
  rw [NK k hk]
  cases h : uw a b with
  | inl c => rcases aeg h with rfl | rfl <;> rfl
  | inr s => rfl
 ·unfold cZ NW
  rw [age k hk]
def idxF (n : Nat) : Nat → List Int → List Nat
 | _, [] => []
 | i, c :: r => bif decide (i = 0) || (decide (i + 1 = n) || decide (2 < c)) then i :: idxF n (i + 1) r else idxF n (i + 1) r
theorem ag5 (n : Nat) : ∀ (i : Nat) (l : List Int), (idxF n i l).length ≤ l.length
 | _, [] => by simp [idxF]
 | i, c :: r => by
   have := ag5 n (i + 1) r
   simp only [idxF]
   cases (decide (i = 0) || (decide (i + 1 = n) || decide (2 < c))) <;> simp <;> omega
theorem agl (n : Nat) : ∀ (i : Nat) (l : List Int), ∀ x ∈ idxF n i l, i ≤ x ∧ x < i + l.length
 | _, [], x, h => by simp [idxF] at h
 | i, c :: r, x, h => by
   simp only [idxF] at h
   have ih := agl n (i + 1) r x
   simp only [List.length_cons]
   cases hb : (decide (i = 0) || (decide (i + 1 = n) || decide (2 < c))) with
   | true =>
     rw [hb, cond_true] at h
     rcases List.mem_cons.1 h with rfl | h
     ·omega
     ·have := ih h; omega
   | false =>
     rw [hb, cond_false] at h
     have := ih h
     omega
def nI (l : List Nat) : List Int := l.map Int.ofNat
theorem aiv {T : List Int} (hT : T.length ≤ 4000) (pts : List (Int × Int)) : ∀ (rest : List Int) (k i : Nat) (out : List Int) b (r : List Int → Option α), T.drop i = rest → i ≤ T.length → out.length ≤ i → rest.length < k →
 jv k T.length i out T pts b r = b T.length T.length (out ++ nI (idxF T.length i rest)) T pts
 | [], k + 1, i, out, b, r, hd, hi, ho, _ => by
   have := abI hd
   have : i = T.length := by omega
   subst this
   rw [jv, sJ, uV (by omega)]
   simp [idxF, nI]
 | e :: rest, k + 1, i, out, b, r, hd, hi, ho, hk => by
   obtain ⟨h1, h2, h3⟩ := Ky hd
   have en : w64 ((i : Int) + 1) = ((i + 1 : Nat) : Int) := by rw [ax (by omega) (by omega)]; omega
   have w1 : w64 (((T.length : Nat) : Int) - 1) = (T.length : Int) - 1 := ax (by omega) (by omega)
   have hb : decide (out.length + 1 ≤ big) = true := vK (by rw [pz]; omega)
   have ih := fun o ho => aiv hT pts rest k (i + 1) o b r h2 (by omega) ho (by simp at hk; omega)
   rw [jv, sJ, kJ (by omega), mV (by omega), cond_true, Bool.and_true, cond_true, Int.toNat_natCast, h1, Option.bind_some, w1, hb, en, ih (out ++ [(i : Int)]) (by simp; omega), ih out (by omega)]
   simp only [cond_true, idxF]
   have q0 : decide ((i : Int) = 0) = decide (i = 0) := by simp
   have q1 : decide ((i : Int) = (T.length : Int) - 1) = decide (i + 1 = T.length) := by
    by_cases h : i + 1 = T.length
    ·rw [decide_eq_true h, decide_eq_true (by omega)]
    ·rw [decide_eq_false h, decide_eq_false (by omega)]
   rw [q0, q1]
   cases decide (i = 0) with
   | true => simp [nI]
   | false =>
     cases decide (i + 1 = T.length) with
     | true => simp [nI]
     | false => cases decide (2 < e) <;> simp [nI]
 | _, 0, _, _, _, _, _, _, _, hk => by omega
theorem ahL {T : List Int} (hT : T.length ≤ 4000) (pts : List (Int × Int)) (k : Nat) (hk : 4000 < k) (r : List Int → Option α) : oK k pts T r = r (nI (idxF T.length 0 T)) := by
 unfold oK AQ
 have := aiv hT pts T k 0 [] (fun _ _ out1 _ _ => r out1) r rfl (by omega) (by simp) (by omega)
 simpa using this
def tI (cs : List Int) : List Int := 0 :: cs ++ [0]
theorem agu (cs : List Int) : (tI cs).length = cs.length + 2 := by simp [tI]
def vIdx (cs : List Int) : List Nat := idxF (cs.length + 2) 0 (tI cs)
def aaN (T : List Int) : List Nat → List Int
 | x :: y :: r => (T.getD x 0 - 2) :: ((y : Int) - (x : Int)) :: aaN T (y :: r)
 | _ => []
def seqC (T : List Int) : List Nat → List Int
 | x :: y :: r => ((y : Int) - (x : Int)) :: aaN T (y :: r)
 | _ => []
theorem ake {V : List Nat} {T : List Int} (hV : V.length ≤ 4000) (hT : T.length ≤ 4000) (hc : ∀ c ∈ T, -4000000000000 ≤ c ∧ c ≤ 4000000000000) (hm : ∀ x ∈ V, x < T.length) (L : List (Int × Int)) : ∀ (rest : List Nat) (x : Nat) (k i : Nat) (out : List Int) b (r : List Int → Option α), V.drop i = x :: rest → 1 ≤ i → out.length ≤ 3 * i → rest.length < k →
 iq k ((i + 1 : Nat) : Int) out (nI V) L T b r = b V.length (out ++ aaN T (x :: rest)) (nI V) L T
 | [], x, k + 1, i, out, b, r, hd, hi, ho, _ => by
   obtain ⟨h1, h2, h3⟩ := Ky hd
   have := abI h2
   have hl : (nI V).length = V.length := by simp [nI]
   have e : i + 1 = V.length := by omega
   rw [iq, nz, hl, uV (by omega), e]
   simp [aaN]
 | y :: rest, x, k + 1, i, out, b, r, hd, hi, ho, hk => by
   obtain ⟨h1, h2, h3⟩ := Ky hd
   obtain ⟨g1, g2, g3⟩ := Ky h2
   have hx : x < T.length := hm x (List.mem_of_getElem? h1)
   have hy : y < T.length := hm y (List.mem_of_getElem? g1)
   have hl : (nI V).length = V.length := by simp [nI]
   have a1 : (nI V)[i]? = some (x : Int) := by simp [nI, h1]
   have a2 : (nI V)[i + 1]? = some (y : Int) := by simp [nI, g1]
   have tg : T[x]? = some (T.getD x 0) := by simp [List.getD_eq_getElem?_getD, List.getElem?_eq_getElem hx]
   have tb := hc _ (List.mem_of_getElem? tg)
   have en : w64 (((i + 1 : Nat) : Int) + 1) = ((i + 1 + 1 : Nat) : Int) := by rw [ax (by omega) (by omega)]; omega
   have ep : w64 (((i + 1 : Nat) : Int) - 1) = (i : Int) := by rw [ax (by omega) (by omega)]; omega
   rw [iq, nz, hl, kJ (by omega), kJ (by omega), ep, mV (by omega), kJ (by omega), cond_true, Bool.and_self, cond_true, cond_true, Int.toNat_natCast, a1, Option.bind_some, mV (by omega), kJ (by omega), Bool.and_self, cond_true, Int.toNat_natCast, tg, Option.bind_some, vK (by rw [pz]; omega), cond_true, mV (by omega), Bool.and_true, cond_true, Int.toNat_natCast, a2, Option.bind_some, Option.bind_some, vK (by rw [pz]; simp; omega), cond_true, en]
   rw [ax (n := T.getD x 0 - 2) (by omega) (by omega), ax (n := (y : Int) - (x : Int)) (by omega) (by omega), ake hV hT hc hm L rest y k (i + 1) _ b r h2 (by omega) (by simp; omega) (by simp at hk; omega)]
   simp [aaN]
 | _, _, 0, _, _, _, _, _, _, _, hk => by omega
theorem ahG {L : List (Int × Int)} {T : List Int} {V : List Nat} (hT : T.length ≤ 4000) (hc : ∀ c ∈ T, -4000000000000 ≤ c ∧ c ≤ 4000000000000) (hV : V = idxF T.length 0 T) (h2 : 2 ≤ V.length) (k : Nat) (hk : 4001 < k) (r : List Int → Option α) : oW k L T r = r (seqC T V) := by
 have hm : ∀ x ∈ V, x < T.length := fun x hx => by rw [hV] at hx; have := agl T.length 0 T x hx; omega
 have hVl : V.length ≤ T.length := by rw [hV]; exact ag5 T.length 0 T
 unfold oW AZ
 rw [ahL hT L k (by omega), ← hV]
 obtain ⟨k, rfl⟩ : ∃ k', k = k' + 1 := ⟨k - 1, by omega⟩
 match V, h2 with
 | x :: y :: rest, _ =>
   have hx := hm x (by simp)
   have hy := hm y (by simp)
   have hl : (nI (x :: y :: rest)).length = rest.length + 2 := by simp [nI]
   have w1 : w64 (1 - 1) = 0 := by decide
   have w2 : w64 (1 + 1) = ((1 + 1 : Nat) : Int) := by decide
   have a1 : (nI (x :: y :: rest))[(0 : Int).toNat]? = some (x : Int) := by simp [nI]
   have a2 : (nI (x :: y :: rest))[(1 : Int).toNat]? = some (y : Int) := by simp [nI]
   rw [iq, nz, hl, kJ (show (1 : Int) < ((rest.length + 2 : Nat) : Int) by omega), uV (by omega), cond_true, cond_false, mV (by omega), Bool.and_true, cond_true, a2, Option.bind_some, w1, mV (by omega), kJ (by omega), Bool.and_self, cond_true, a1, Option.bind_some, vK (by rw [pz]; simp), cond_true, w2, ax (n := (y : Int) - (x : Int)) (by omega) (by omega)]
   have := ake (α := α) (V := x :: y :: rest) (T := T) (by simp at hVl ⊢; omega) hT hc hm L rest y k 1 ([] ++ [(y : Int) - (x : Int)]) (fun _ out1 _ _ _ => r out1) r rfl (by omega) (by simp) (by simp at hVl; omega)
   rw [this]
   simp [seqC]
theorem ajD (cs : List Int) : ∃ m, vIdx cs = 0 :: (m ++ [cs.length + 1]) ∧ ∀ x ∈ m, 1 ≤ x ∧ x ≤ cs.length := by
 have key : ∀ (l : List Int) (i : Nat), 1 ≤ i → i + l.length = cs.length + 1 → ∃ m, idxF (cs.length + 2) i (l ++ [0]) = m ++ [cs.length + 1] ∧ ∀ x ∈ m, i ≤ x ∧ x ≤ cs.length := by
  intro l
  induction l with
  | nil =>
    intro i hi h
    have : i = cs.length + 1 := by simpa using h
    subst this
    exact ⟨[], by simp [idxF], by simp⟩
  | cons c l ih =>
    intro i hi h
    obtain ⟨m, hm, hx⟩ := ih (i + 1) (by omega) (by simp at h; omega)
    have h0 : decide (i = 0) = false := decide_eq_false (by omega)
    have h1 : decide (i + 1 = cs.length + 2) = false := decide_eq_false (by simp at h; omega)
    simp only [List.cons_append, idxF, h0, h1, Bool.false_or, hm]
    cases decide (2 < c) with
    | true => exact ⟨i :: m, by simp, fun x hxm => by
       rcases List.mem_cons.1 hxm with rfl | hxm
       ·simp at h; omega
       ·have := hx x hxm; omega⟩
    | false => exact ⟨m, by simp, fun x hxm => by have := hx x hxm; omega⟩
 obtain ⟨m, hm, hx⟩ := key cs 1 (by omega) (by omega)
 refine ⟨m, ?_, hx⟩
 unfold vIdx tI
 simp [idxF, hm]
theorem adq : ∀ (rest : List Int) (k i : Nat) (s : List Int) b (r : Bool → Option α), s.drop i = rest → s.length ≤ big → i ≤ s.length → rest.length < k → pJ k i s s b r = b s.length s s
 | [], k + 1, i, s, b, r, hd, hb, hi, _ => by
   have := abI hd
   have : i = s.length := by omega
   subst this
   rw [pJ, CX, uV (by omega)]
   rfl
 | e :: rest, k + 1, i, s, b, r, hd, hb, hi, hk => by
   obtain ⟨h1, h2, h3⟩ := Ky hd
   rw [pz] at hb
   have en : w64 ((i : Int) + 1) = ((i + 1 : Nat) : Int) := by rw [ax (by omega) (by omega)]; omega
   rw [pJ, CX, kJ (by omega), mV (by omega), cond_true, Bool.and_true, cond_true, Int.toNat_natCast, h1, Option.bind_some, cond_true, Option.bind_some, decide_eq_true rfl, Bool.not_true, cond_false, en]
   exact adq rest k (i + 1) s b r h2 (by rw [pz]; omega) (by omega) (by simp at hk; omega)
 | _, 0, _, _, _, _, _, _, _, hk => by omega
theorem afT (k : Nat) (s : List Int) (r : Bool → Option α) (hs : s.length ≤ big) (hk : s.length < k) : dK k s s r = r true := by
 unfold dK Sz
 rw [decide_eq_true rfl, Bool.not_true, cond_false]
 have := adq s k 0 s (fun _ _ _ => r true) r rfl hs (by omega) hk
 simpa using this
theorem aiP {l : List Int} (hl : KX l) {a : Int} (ha : AtC l a) (k : Nat) (hk : 1000000000 < k) (h : Int) {most : Int} (h0 : 0 ≤ most) (h1 : most ≤ 1000000) : ∃ x y u v a' h', AtC l a' ∧ ∀ r : Int → Int → Int → Int → Int → Int → Option α, Dz k l a h most r = r x y u v a' h' := by
 obtain ⟨x, y, a1, h1', i1, e1⟩ := ab9 (α := α) hl ha k hk h h0 h1
 obtain ⟨u, v, a2, h2', i2, e2⟩ := ab9 (α := α) hl i1 k hk h1' h0 h1
 obtain ⟨w, a3, h3', i3, _, _, e3⟩ := VV (α := α) hl i2 k h2' most
 simp only [Dz, Pv, e1, e2, nV, Aj, e3]
 generalize w64 (w64 (x * v) - w64 (y * u)) = d
 by_cases d0 : d = 0
 ·exact ⟨1, 0, 1, w64 (1 + w), a3, h3', i3, fun r => by simp [d0]⟩
 ·by_cases d1 : d < 0
  ·exact ⟨u, v, x, y, a2, h2', i2, fun r => by simp [d0, d1]⟩
  ·exact ⟨x, y, u, v, a2, h2', i2, fun r => by simp [d0, d1]⟩
theorem akV {l : List Int} (hl : KX l) {a : Int} (ha : AtC l a) (k : Nat) (hk : 1000000000 < k) (h : Int) : ∃ x y u v a' h', AtC l a' ∧ ∀ r : Int → Int → Int → Int → Int → Int → Option α, KJ k l a h r = r x y u v a' h' := by
 obtain ⟨m, a1, h1, i1, m1, e1⟩ := ah9 (α := α) hl ha k h (list := [3, 6, 12, 12, 100, 1000, 1000000]) (by simp) (by simp)
 have hm : 0 ≤ m ∧ m ≤ 1000000 := by
  simp only [List.mem_cons, List.not_mem_nil, or_false] at m1
  omega
 obtain ⟨x, y, u, v, a2, h2, i2, e2⟩ := aiP (α := α) hl i1 k hk h1 hm.1 hm.2
 obtain ⟨w, a3, h3, i3, _, _, e3⟩ := VV (α := α) hl i2 k h2 30
 simp only [KJ, Uz, e1, e2, e3]
 by_cases w0 : w = 0
 ·exact ⟨u, v, x, y, a3, h3, i3, fun r => by simp [w0]⟩
 ·by_cases w1 : w = 1
  ·obtain ⟨p, q, a4, h4, i4, e4⟩ := aj2 (α := α) hl i3 k h3 (w64 (x + w64 (1 * x))) (w64 (y + w64 (1 * y)))
   exact ⟨p, q, u, v, a4, h4, i4, fun r => by simp only [w1, show decide ((1 : Int) = 0) = false from rfl, decide_true, cond_true, cond_false, qx, Dw, e4]⟩
  ·obtain ⟨p, q, a4, h4, i4, e4⟩ := aj2 (α := α) hl i3 k h3 x y
   exact ⟨p, q, u, v, a4, h4, i4, fun r => by simp [w0, w1, e4]⟩
def seqR : Int → List Int → List Int
 | r, [] => [r]
 | r, c :: cs => if 2 < c then r :: (c - 2) :: seqR 1 cs else seqR (r + 1) cs
def tlC (T : List Int) (x : Nat) : List Nat → List Int
 | y :: r => ((y : Int) - (x : Int)) :: aaN T (y :: r)
 | [] => []
theorem adx {T : List Int} : ∀ (cs : List Int) (i x : Nat), x < i → T.drop i = cs ++ [0] → i + cs.length + 1 = T.length → tlC T x (idxF T.length i (cs ++ [0])) = seqR ((i : Int) - (x : Int)) cs
 | [], i, x, hx, hd, hn => by
   have e : decide (i + 1 = T.length) = true := decide_eq_true (by simpa using hn)
   simp [idxF, e, tlC, aaN, seqR]
 | c :: cs, i, x, hx, hd, hn => by
   have h0 : decide (i = 0) = false := decide_eq_false (by omega)
   have h1 : decide (i + 1 = T.length) = false := decide_eq_false (by simp at hn; omega)
   obtain ⟨g1, g2, g3⟩ := Ky (show T.drop i = c :: (cs ++ [0]) by simpa using hd)
   have gc : T.getD i 0 = c := by rw [List.getD, g1]; rfl
   have hn2 : i + 1 + cs.length + 1 = T.length := by simp at hn; omega
   simp only [List.cons_append, idxF, h0, h1, Bool.false_or]
   unfold seqR
   by_cases hc : 2 < c
   ·have ih := adx (T := T) cs (i + 1) i (by omega) g2 hn2
    rw [decide_eq_true hc, cond_true, if_pos hc]
    have e1 : ((i + 1 : Nat) : Int) - (i : Int) = 1 := by omega
    rw [e1] at ih
    rw [← ih]
    have hne : ∃ y r, idxF T.length (i + 1) (cs ++ [0]) = y :: r := by
     cases hh : idxF T.length (i + 1) (cs ++ [0]) with
     | nil =>
       rw [hh] at ih
       have : seqR 1 cs ≠ [] := by
        clear ih hn2 g2 hn hd hh
        generalize (1 : Int) = q
        induction cs generalizing q with
        | nil => simp [seqR]
        | cons c' cs ih' =>
          unfold seqR
          split
          ·simp
          ·exact ih' _
       exact absurd ih.symm this
     | cons y r => exact ⟨y, r, rfl⟩
    obtain ⟨y, r, hr⟩ := hne
    rw [hr]
    simp only [tlC, aaN, gc]
   ·have ih := adx (T := T) cs (i + 1) x (by omega) g2 hn2
    rw [decide_eq_false hc, cond_false, if_neg hc, ih]
    have e1 : ((i + 1 : Nat) : Int) - (x : Int) = (i : Int) - (x : Int) + 1 := by omega
    rw [e1]
theorem akd (cs : List Int) : seqC (tI cs) (vIdx cs) = seqR 1 cs := by
 have h := adx (T := tI cs) cs 1 0 (by omega) (by simp [tI]) (by rw [agu]; omega)
 unfold vIdx
 rw [show cs.length + 2 = (tI cs).length from (agu cs).symm]
 have e : idxF (tI cs).length 0 (tI cs) = 0 :: idxF (tI cs).length 1 (cs ++ [0]) := by
  conv => lhs; rw [show tI cs = 0 :: (cs ++ [0]) from rfl]
  rw [idxF]
  simp [tI]
 rw [e]
 have e1 : ((1 : Nat) : Int) - ((0 : Nat) : Int) = 1 := rfl
 rw [e1] at h
 rw [← h]
 cases idxF (tI cs).length 1 (cs ++ [0]) with
 | nil => rfl
 | cons y r => rfl
theorem acz {a b : Int × Int} (h : Ang a b) : ∀ (m : Nat) (p q : Int × Int) (s : List (Int × Int) × List Int) (r : Int), SInv a b p q → yQ b m p q = some s →
 b.1 = (cfK (seqR r s.2)).1 * (q.1 - p.1) + (cfK (seqR r s.2)).2 * (q.1 - r * (q.1 - p.1)) ∧ b.2 = (cfK (seqR r s.2)).1 * (q.2 - p.2) + (cfK (seqR r s.2)).2 * (q.2 - r * (q.2 - p.2))
 | 0, p, q, s, r, hi, hs => by cases hs
 | m + 1, p, q, s, r, hi, hs => by
   simp only [yQ] at hs
   split at hs
   ·rename_i hz
    cases hs
    have e := hi.last h.gb hz
    rw [← e]
    simp only [seqR, cfK]
    constructor <;> grind
   ·rename_i hz
    rw [Option.map_eq_some_iff] at hs
    obtain ⟨t, ht, rfl⟩ := hs
    have hw : 0 < dt q b := by have := hi.q0; omega
    have hc := acl (p := p) hw hi.up
    have hn := hi.next h.ca h.cb hz
    simp only
    unfold seqR
    generalize hcc : cNum b p q = c at *
    have e1 : (jJ b p q).1 = c * q.1 - p.1 := by unfold jJ; rw [hcc]
    have e2 : (jJ b p q).2 = c * q.2 - p.2 := by unfold jJ; rw [hcc]
    by_cases h2 : 2 < c
    ·obtain ⟨i1, i2⟩ := acz h m q (jJ b p q) t 1 hn ht
     rw [if_pos h2]
     simp only [cfK]
     rw [e1] at i1
     rw [e2] at i2
     constructor
     ·rw [i1]; grind
     ·rw [i2]; grind
    ·obtain ⟨i1, i2⟩ := acz h m q (jJ b p q) t (r + 1) hn ht
     have hc2 : c = 2 := by omega
     rw [if_neg h2]
     rw [e1] at i1
     rw [e2] at i2
     subst hc2
     constructor
     ·rw [i1]; grind
     ·rw [i2]; grind
theorem afu {a b : Int × Int} (h : Ang a b) : ∀ (m : Nat) (p q : Int × Int) (s : List (Int × Int) × List Int), SInv a b p q → yQ b m p q = some s → ((s.1.length : Nat) : Int) ≤ dt p b
 | 0, p, q, s, hi, hs => by cases hs
 | m + 1, p, q, s, hi, hs => by
   have hup := hi.up
   have hq0 := hi.q0
   simp only [yQ] at hs
   split at hs
   ·cases hs
    simp
    omega
   ·rename_i hz
    rw [Option.map_eq_some_iff] at hs
    obtain ⟨t, ht, rfl⟩ := hs
    have := afu h m q (jJ b p q) t (hi.next h.ca h.cb hz) ht
    simp
    omega
def mvP (p : Int × Int) : Int × Int := (3 * p.1 + 2 * p.2, p.1 + p.2)
theorem aaB (p q : Int × Int) : dt (mvP p) (mvP q) = dt p q := by unfold dt mvP; grind
theorem ah6 (b p q : Int × Int) : cNum (mvP b) (mvP p) (mvP q) = cNum b p q := by unfold cNum; rw [aaB, aaB]
theorem alj (b p q : Int × Int) : jJ (mvP b) (mvP p) (mvP q) = mvP (jJ b p q) := by
 unfold jJ
 rw [ah6]
 unfold mvP
 simp only [Prod.mk.injEq]
 constructor <;> grind
theorem ahc (b : Int × Int) : ∀ (m : Nat) (p q : Int × Int), yQ (mvP b) m (mvP p) (mvP q) = (yQ b m p q).map fun s => (s.1.map mvP, s.2)
 | 0, _, _ => rfl
 | m + 1, p, q => by
   simp only [yQ, aaB]
   split
   ·rfl
   ·rw [alj, ah6, ahc b m q (jJ b p q)]
    cases yQ b m q (jJ b p q) <;> rfl
theorem ajL (p : Int × Int) (h : gcdI p.1 p.2 = 1) : gcdI (mvP p).1 (mvP p).2 = 1 := by
 unfold gcdI at h ⊢
 have d1 : ((Int.gcd (mvP p).1 (mvP p).2 : Nat) : Int) ∣ (mvP p).1 := Int.gcd_dvd_left ..
 have d2 : ((Int.gcd (mvP p).1 (mvP p).2 : Nat) : Int) ∣ (mvP p).2 := Int.gcd_dvd_right ..
 have e1 : p.1 = (mvP p).1 - (mvP p).2 * 2 := by unfold mvP; grind
 have e2 : p.2 = (mvP p).2 * 3 - (mvP p).1 := by unfold mvP; grind
 have d3 : ((Int.gcd (mvP p).1 (mvP p).2 : Nat) : Int) ∣ p.1 := by
  have := Int.dvd_sub d1 (Int.dvd_trans d2 (Int.dvd_mul_right _ 2))
  rwa [← e1] at this
 have d4 : ((Int.gcd (mvP p).1 (mvP p).2 : Nat) : Int) ∣ p.2 := by
  have := Int.dvd_sub (Int.dvd_trans d2 (Int.dvd_mul_right _ 3)) d1
  rwa [← e2] at this
 have d5 := Int.dvd_coe_gcd d3 d4
 rw [h] at d5
 have := Int.le_of_dvd (by decide) d5
 have hp : (mvP p).1 ≠ 0 ∨ (mvP p).2 ≠ 0 := by
  rcases Classical.em ((mvP p).1 = 0) with z1 | z1
  ·rcases Classical.em ((mvP p).2 = 0) with z2 | z2
   ·rw [z1, z2] at e1 e2
    have z3 : p.1 = 0 := by omega
    have z4 : p.2 = 0 := by omega
    rw [z3, z4] at h
    exact absurd h (by decide)
   ·exact .inr z2
  ·exact .inl z1
 have := ahd hp
 unfold gcdI at this
 omega
theorem Ang.mv {a b : Int × Int} (h : Ang a b) (hc : Crd (mvP a)) (hd : Crd (mvP b)) : Ang (mvP a) (mvP b) :=
 ⟨hc, hd, ajL a h.ga, ajL b h.gb, by rw [aaB]; exact h.det⟩
theorem aiY {a b q q' : Int × Int} (h1 : dt a q = 1) (h2 : dt a q' = 1) (l0 : 0 ≤ dt q b) (l1 : dt q b < dt a b) (m0 : 0 ≤ dt q' b) (m1 : dt q' b < dt a b) : q = q' := by
 have e0 : dt a (q.1 - q'.1, q.2 - q'.2) = 0 := by unfold dt at *; grind
 obtain ⟨t, ht⟩ : ∃ t, t = dt (q.1 - q'.1, q.2 - q'.2) q := ⟨_, rfl⟩
 have f1 : q.1 - q'.1 = t * a.1 := by rw [ht]; unfold dt at *; grind
 have f2 : q.2 - q'.2 = t * a.2 := by rw [ht]; unfold dt at *; grind
 have e3 : dt q b - dt q' b = t * dt a b := by
  have : dt q b - dt q' b = (q.1 - q'.1) * b.2 - (q.2 - q'.2) * b.1 := by unfold dt; grind
  rw [this, f1, f2]; unfold dt; grind
 have t0 : t = 0 := by
  rcases Int.lt_trichotomy t 0 with h | h | h
  ·have := wV (dt a b) (a := t) (b := -1) (by omega) (by omega)
   have e4 : dt a b * t = t * dt a b := Int.mul_comm ..
   omega
  ·exact h
  ·have := wV (dt a b) (a := 1) (b := t) (by omega) (by omega)
   have e4 : dt a b * t = t * dt a b := Int.mul_comm ..
   omega
 rw [t0, Int.zero_mul] at f1 f2
 exact Prod.ext (by omega) (by omega)
theorem akQ {a b : Int × Int} (h : Ang a b) (hm : dt a (rZ a.1 a.2) = 1) (h' : Ang (mvP a) (mvP b)) (hm' : dt (mvP a) (rZ (mvP a).1 (mvP a).2) = 1) : xK (mvP a) (mvP b) = mvP (xK a b) := by
 have i := Py h hm
 have i' := Py h' hm'
 refine aiY i'.det (by rw [aaB]; exact i.det) i'.q0 i'.up ?_ ?_
 ·rw [aaB]; exact i.q0
 ·rw [aaB, aaB]; exact i.up
theorem amG {n : Int} (h0 : -9223372036854775808 ≤ n) (h1 : n ≤ 9223372036854775807) : Go.RowKit.wrap64 n = n := by
 unfold Go.RowKit.wrap64
 omega
theorem ahi {n lo hi : Int} : inBb n lo hi = true ↔ lo ≤ n ∧ n ≤ hi := by simp [inBb]
theorem ag0 : ∀ (l : List Int) (p q x y : Int), (∀ a ∈ l, -1000000 ≤ a ∧ a ≤ 1000000) → -1000000 ≤ p ∧ p ≤ 1000000 → -1000000 ≤ q ∧ q ≤ 1000000 → gof l p q = some (x, y) → l.foldl (fun s a => (a * s.1 + s.2, s.1)) (p, q) = (x, y)
 | [], p, q, x, y, _, _, _, h => by
   simp only [gof, Option.some.injEq] at h
   exact h
 | a :: l, p, q, x, y, hl, hp, hq, h => by
   have ha := hl a (by simp)
   have hm := yY ha.1 ha.2 hp.1 hp.2
   simp only [gof] at h
   rw [amG (n := a * p) (by omega) (by omega), amG (by omega) (by omega)] at h
   split at h
   ·rename_i hc
    rw [Bool.and_eq_true] at hc
    have h1 := ahi.1 hc.1
    rw [List.foldl_cons]
    exact ag0 l (a * p + q) p x y (fun b hb => hl b (by simp [hb])) h1 hp h
   ·cases h
theorem aia : ∀ l : List Int, l.reverse.foldl (fun s a => (a * s.1 + s.2, s.1)) ((1 : Int), (0 : Int)) = cfK l
 | [] => rfl
 | a :: l => by
   rw [List.reverse_cons, List.foldl_append, aia l]
   rfl
theorem amc : ∀ (l : List Int) (i : Nat), okF l i = true → ∀ a ∈ l, -1000000 ≤ a ∧ a ≤ 1000000
 | [], _, _, a, h => by simp at h
 | x :: l, i, ho, a, h => by
   simp only [okF, Bool.and_eq_true] at ho
   rcases List.mem_cons.1 h with e | e
   ·rw [e]; exact ahi.1 ho.1.1
   ·exact amc l (i + 1) ho.2 a e
theorem anj {l : List Int} (h : (uy l).2.2 = 0) : (uy l).1 = (cfK l).1 := by
 unfold uy at h ⊢
 cases hc : inBb (l.length : Int) 1 60 && okF l 0 with
 | false => rw [hc] at h; simp at h
 | true =>
   rw [hc] at h
   rw [Bool.and_eq_true] at hc
   have hb := amc l 0 hc.2
   simp only [cond_true] at h ⊢
   cases hg : gof l.reverse 1 0 with
   | none => rw [hg] at h; simp at h
   | some x =>
     have := ag0 l.reverse 1 0 x.1 x.2 (fun a ha => hb a (by simpa using ha)) (by omega) (by omega) hg
     rw [aia] at this
     simp only
     rw [this]
theorem adC : ∀ (cs : List Int) (r : Int), (seqR r cs).length ≤ 2 * cs.length + 1
 | [], r => by simp [seqR]
 | c :: cs, r => by
   unfold seqR
   split
   ·have := adC cs 1
    simp; omega
   ·have := adC cs (r + 1)
    simp; omega
theorem agq (k : Nat) (hk : 1000000000 < k) {a b : Int × Int} {s : List (Int × Int) × List Int} (h : uw a b = .inr s) (r0 : Int → Option α) r1 : ay k a.1 a.2 b.1 b.2 r0 r1 = r1 (seqR 1 s.2) 0 := by
 unfold ay NZ
 rw [NK k hk, h]
 obtain ⟨hA, hs, hl, _⟩ := adv k hk h
 have hc := hs.nc
 have hT : (tI s.2).length = s.2.length + 2 := agu s.2
 have hcb : ∀ c ∈ tI s.2, -4000000000000 ≤ c ∧ c ≤ 4000000000000 := fun c hc => by
  simp only [tI, List.cons_append, List.mem_cons, List.mem_append, List.not_mem_nil, or_false] at hc
  rcases hc with rfl | hc | rfl
  ·omega
  ·have := hs.cb c hc; omega
  ·omega
 obtain ⟨m, hm, _⟩ := ajD s.2
 have hv : vIdx s.2 = idxF (tI s.2).length 0 (tI s.2) := by rw [hT]; rfl
 have e := ahG (α := α) (L := s.1) (T := tI s.2) (V := vIdx s.2) (by omega) hcb hv (by rw [hm]; simp) k (by omega)
 show (bif (!decide ((0 : Int) = 0)) then r0 0 else oW k s.1 (0 :: s.2 ++ [0]) fun v4 => r1 v4 0) = _
 rw [decide_eq_true rfl, Bool.not_true, cond_false]
 have e2 := e (fun v4 => r1 v4 0)
 rw [akd] at e2
 exact e2
theorem ag9 (k : Nat) (hk : 10 < k) {a : Int × Int} (ha : Crd a) (r : Int → Int → Int → Option α) : aV k 3 2 1 1 a.1 a.2 r = (bif crd (mvP a).1 && crd (mvP a).2 then r (mvP a).1 (mvP a).2 0 else r 0 0 3) := by
 have hc := Tj.2 ha
 unfold Crd at ha
 unfold aV Jy Oz Qy
 rw [aah k (by omega), IV, hc]
 have e1 : w64 (w64 (3 * a.1) + w64 (2 * a.2)) = (mvP a).1 := by
  rw [ax (n := 3 * a.1) (by omega) (by omega), ax (n := 2 * a.2) (by omega) (by omega), ax (by omega) (by omega)]; rfl
 have e2 : w64 (w64 (1 * a.1) + w64 (1 * a.2)) = (mvP a).2 := by
  rw [ax (n := 1 * a.1) (by omega) (by omega), ax (n := 1 * a.2) (by omega) (by omega), ax (by omega) (by omega)]; unfold mvP; simp
 unfold CZ Hw Ij NY
 rw [e1, e2]
 have hm : (crd 3 && crd 2 && (crd 1 && crd 1)) = true := rfl
 rw [hm]
 simp only [IV, Bool.not_true, cond_false]
 show (bif (!(crd (mvP a).1 && crd (mvP a).2)) then r 0 0 3 else r (mvP a).1 (mvP a).2 0) = _
 cases crd (mvP a).1 && crd (mvP a).2 <;> rfl
theorem ak4 (k : Nat) (hk : 100 < k) {a b : Int × Int} (ha : Crd a) (hb : Crd b) (hp : af0 [(0, 0), a, b] = true) (r : Int → Int → Option α) : aX k [(0, 0), a, b] r = r (dt a b) 0 := by
 unfold aX FX lZ oZ
 rw [ad9 k (by omega), hp, Bool.not_true, cond_false]
 unfold CY IQ pq tZ
 have h := acF (α := α) (l := [(0, 0), a, b]) (by simp) (by simp) 3 k 0 0 (fun v => r v 0) (by simp) (by omega)
 have h0 : ((0 : Nat) : Int) = 0 := rfl
 have hd := dt_b ha hb
 have t : totF (detF [(0, 0), a, b]) 0 3 0 = dt a b := by
  have d0 : detF [(0, 0), a, b] 0 = 0 := by
   show w64 (w64 (0 * a.2) - w64 (0 * a.1)) = 0
   rw [Int.zero_mul, Int.zero_mul]; rfl
  have d1 : detF [(0, 0), a, b] 1 = dt a b := by
   show w64 (w64 (a.1 * b.2) - w64 (a.2 * b.1)) = _
   exact dt_w ha hb
  have d2 : detF [(0, 0), a, b] 2 = 0 := by
   have e3 : (2 + 1) % ([(0, 0), a, b] : List (Int × Int)).length = 0 := by simp
   unfold detF oq oz
   rw [e3]
   show w64 (w64 (b.1 * 0) - w64 (b.2 * 0)) = 0
   rw [Int.mul_zero, Int.mul_zero]; rfl
  simp only [totF, d0, d1, d2]
  rw [ax (n := 0 + 0) (by omega) (by omega), ax (n := 0 + 0 + dt a b) (by omega) (by omega), ax (by omega) (by omega)]
  omega
 rw [t] at h
 exact h
theorem akI (k : Nat) (hk : 1000000000 < k) {a b : Int × Int} {s : List (Int × Int) × List Int} (h : uw a b = .inr s) (hc : Crd (mvP a)) (hd : Crd (mvP b)) : ∃ s', uw (mvP a) (mvP b) = .inr s' ∧ s'.2 = s.2 := by
 unfold uw at h
 split at h
 ·rename_i hb
  have hA := UJ.1 hb
  have hA' := hA.mv hc hd
  have m := (TW (α := Unit) k hk hA).1
  have m' := (TW (α := Unit) k hk hA').1
  split at h
  ·cases h
  ·rename_i t ht
   simp only [Sum.inr.injEq] at h
   unfold aaM at ht
   refine ⟨(mvP a :: t.1.map mvP, t.2), ?_, by rw [← h]⟩
   unfold uw aaM
   rw [if_pos (UJ.2 hA'), akQ hA m hA' m', ahc, ht]
   rfl
 ·cases h
theorem adS (k : Nat) (hk : 1000000000 < k) {a b : Int × Int} {s : List (Int × Int) × List Int} (h : uw a b = .inr s) : (cfK (seqR 1 s.2)).1 = dt a b ∧ ((s.1.length : Nat) : Int) - 1 ≤ dt a b := by
 unfold uw at h
 split at h
 ·rename_i hb
  have hA := UJ.1 hb
  have m := (TW (α := Unit) k hk hA).1
  have hi := Py hA m
  split at h
  ·cases h
  ·rename_i t ht
   simp only [Sum.inr.injEq] at h
   subst h
   unfold aaM at ht
   obtain ⟨e1, e2⟩ := acz hA 1999 a (xK a b) t 1 hi ht
   have hl := afu hA 1999 a (xK a b) t hi ht
   constructor
   ·have hd := hi.det
    simp only
    generalize (cfK (seqR 1 t.2)).1 = X at *
    generalize (cfK (seqR 1 t.2)).2 = Y at *
    have : dt a b = X * dt a (xK a b) := by
     have h1 : dt a b = a.1 * b.2 - a.2 * b.1 := rfl
     rw [h1, e1, e2]
     unfold dt
     grind
    rw [this, hd, Int.mul_one]
   ·simp
    exact hl
 ·cases h
theorem tp10 (k : Nat) (hk : 100000 < k) {l : List Int} (hl : l.length ≤ 10000) (r : Bool → Option α) : lq k 0 l l r = r true := by
 unfold lq Dj
 rw [decide_eq_true rfl, Bool.not_true, cond_false, afT k l _ (by rw [pz]; omega) (by omega)]
 rfl
theorem tp7 (k : Nat) (hk : 1000000100 < k) {a b : Int × Int} {s : List (Int × Int) × List Int} (h : uw a b = .inr s) (r : Bool → Option α) : Gj k (dt a b) 0 a.1 a.2 b.1 b.2 (seqR 1 s.2) r = r true := by
 obtain ⟨hA, hs, hl, _⟩ := adv k (by omega) h
 have hnc := hs.nc
 have hsl := adC s.2 1
 have ha := hA.ca
 have hb := hA.cb
 have hap := fun r => ag9 (α := α) k (by omega) ha r
 have hbp := fun r => ag9 (α := α) k (by omega) hb r
 have hend : (aV k 3 2 1 1 a.1 a.2 fun v28 v29 v30 => aV k 3 2 1 1 b.1 b.2 fun v31 v32 v33 =>
  bif decide (v30 = 0) then bif decide (v33 = 0) then ay k v28 v29 v31 v32 (fun v34 => lq k v34 (seqR 1 s.2) [] r) (fun v35 v36 => lq k v36 (seqR 1 s.2) v35 r) else r true else r true) = r true := by
  rw [hap]
  cases hc : crd (mvP a).1 && crd (mvP a).2 with
  | true =>
    rw [cond_true, hbp]
    cases hd : crd (mvP b).1 && crd (mvP b).2 with
    | true =>
      rw [cond_true, decide_eq_true rfl, cond_true, cond_true]
      obtain ⟨s', h1, h2⟩ := akI k (by omega) h (Tj.1 hc) (Tj.1 hd)
      rw [agq k (by omega) h1, h2]
      exact tp10 k (by omega) (by omega) r
    | false => rfl
  | false =>
    rw [cond_false, hbp]
    cases crd (mvP b).1 && crd (mvP b).2 <;> rfl
 have hpoly : (bz k [(0, 0), (a.1, a.2), (b.1, b.2)] fun v25 => bif v25 then (aX k [(0, 0), (a.1, a.2), (b.1, b.2)] fun v26 v27 => bif (!decide (v27 = 0)) then Fv k r else bif (!decide (v26 = dt a b)) then Fv k r else
  aV k 3 2 1 1 a.1 a.2 fun v28 v29 v30 => aV k 3 2 1 1 b.1 b.2 fun v31 v32 v33 =>
  bif decide (v30 = 0) then bif decide (v33 = 0) then ay k v28 v29 v31 v32 (fun v34 => lq k v34 (seqR 1 s.2) [] r) (fun v35 v36 => lq k v36 (seqR 1 s.2) v35 r) else r true else r true) else
  aV k 3 2 1 1 a.1 a.2 fun v28 v29 v30 => aV k 3 2 1 1 b.1 b.2 fun v31 v32 v33 =>
  bif decide (v30 = 0) then bif decide (v33 = 0) then ay k v28 v29 v31 v32 (fun v34 => lq k v34 (seqR 1 s.2) [] r) (fun v35 v36 => lq k v36 (seqR 1 s.2) v35 r) else r true else r true) = r true := by
  rw [ad9 k (by omega)]
  cases hp : af0 [(0, 0), (a.1, a.2), (b.1, b.2)] with
  | false => exact hend
  | true =>
    rw [cond_true]
    have ht := ak4 (α := α) k (by omega) ha hb hp
    rw [show ((a.1, a.2) : Int × Int) = a from rfl, show ((b.1, b.2) : Int × Int) = b from rfl, ht]
    rw [decide_eq_true rfl, Bool.not_true, cond_false, decide_eq_true rfl, Bool.not_true, cond_false]
    exact hend
 unfold Gj Fj dJ aeJ
 rw [if_pos (by omega)]
 simp only [decide_true, Bool.not_true, cond_false]
 by_cases hz : (uy (seqR 1 s.2)).2.2 = 0
 ·have e := anj hz
  rw [(adS k (by omega) h).1] at e
  rw [decide_eq_true hz, cond_true, e, decide_eq_true rfl, Bool.not_true, cond_false]
  exact hpoly
 ·rw [decide_eq_false hz, cond_false]
  exact hpoly
theorem tp4 (k : Nat) (hk : 1000000100 < k) {a b : Int × Int} {s : List (Int × Int) × List Int} (h : uw a b = .inr s) (r : Bool → Option α) : wX k 0 a.1 a.2 b.1 b.2 s.1 r = r true := by
 obtain ⟨hA, hs, hl, _⟩ := adv k (by omega) h
 have ha := hA.ca
 have hb := hA.cb
 have hn2 := hs.n2
 have hca := Tj.2 ha
 have hcb := Tj.2 hb
 have hD := hA.det
 have hle := (adS k (by omega) h).2
 have e1 : ∀ r : Int → Int → Option α, aj k a.1 a.2 b.1 b.2 r = r (dt a b) 0 := fun r => by
  unfold aj FW
  rw [aah k (by omega), hca, hcb]
  unfold kV xw
  rw [dt_w ha hb]
  rfl
 have w : w64 (((s.1.length : Nat) : Int) - 1) = ((s.1.length : Nat) : Int) - 1 := ax (by omega) (by omega)
 have e2 : ∀ r : Int → Int → Option α, dZ k a.1 a.2 b.1 b.2 r = r (((s.1.length : Nat) : Int) - 1) 0 := fun r => by
  unfold dZ PV
  rw [NK k (by omega), h]
  simp only [decide_true, Bool.not_true, cond_false, w]
 have e3 : ∀ r : Int → Int → Option α, fZ k 0 0 a.1 a.2 b.1 b.2 r = r (dt a b) 0 := fun r => by
  unfold fZ XX
  rw [aaq k _ (by rw [pz]; simp) (by simp; omega)]
  have hall : ([((0 : Int), (0 : Int)), (a.1, a.2), (b.1, b.2)].all fun e => crd e.1 && crd e.2) = true := by
   simp only [List.all_cons, List.all_nil, Bool.and_true, hca, hcb]
   rfl
  rw [hall, Bool.not_true, cond_false]
  have ha2 := ha
  have hb2 := hb
  have hdb := dt_b ha hb
  unfold Crd at ha2 hb2
  have l1 : ∀ (x y : Int) (r : Int → Int → Option α), -1000000 ≤ x → x ≤ 1000000 → -1000000 ≤ y → y ≤ 1000000 → jy k x y 0 0 r = r x y := fun x y r h1 h2 h3 h4 => by
   unfold jy xY kz tX
   rw [Int.mul_zero, show w64 0 = 0 from rfl, Int.add_zero, Int.add_zero, ax (by omega) (by omega), ax (by omega) (by omega)]
  unfold aaE aaU
  rw [l1 a.1 a.2 _ (by omega) (by omega) (by omega) (by omega), l1 b.1 b.2 _ (by omega) (by omega) (by omega) (by omega)]
  unfold kV xw
  rw [dt_w ha hb]
  simp only
  rw [TQ k _ _ (by omega) (by omega), show max (dt a b) (-dt a b) = dt a b by omega]
 unfold wX Az
 rw [decide_eq_true rfl, Bool.not_true, cond_false, e1, e2, e3]
 simp only [decide_true, Bool.not_true, cond_false, w, decide_eq_false (show ¬ dt a b < ((s.1.length : Nat) : Int) - 1 by omega)]
 unfold OV GK
 rw [agq k (by omega) h]
 exact tp7 k hk h r
theorem amN (k : Nat) (l : List Int) (r : Bool → Option α) : jZ k l r = r (decide (4096 < (l.length : Int))) := rfl
theorem ali {l : List Int} (hl : KX l) (k : Nat) (hk : 1000000000 < k) : ∃ x y u v, ∀ r : Int → Int → Int → Int → Option α, aY k l r = r x y u v := by
 obtain ⟨h0, i0, e0⟩ := amT (α := α) hl k (by omega)
 obtain ⟨x, y, u, v, a1, h1, i1, e1⟩ := akV (α := α) hl i0 k hk h0
 exact ⟨x, y, u, v, fun r => by unfold aY DY; rw [e0, e1]⟩
theorem ajU (k : Nat) (hk : 1000000100 < k) (l : List Int) (r : Bool → Option α) (hb : ∀ x ∈ l, 0 ≤ x ∧ x ≤ 255) : Ry k l r = r true := by
 unfold Ry Xw GX
 rw [amN]
 cases hbig : decide (4096 < (l.length : Int)) with
 | true => rfl
 | false =>
   have hl : KX l := ⟨by have := of_decide_eq_false hbig; omega, hb⟩
   obtain ⟨x, y, u, v, e0⟩ := ali (α := α) hl k (by omega)
   rw [cond_false, e0]
   obtain ⟨h1, h2⟩ := adU (α := α) k (by omega) (x, y) (u, v)
   simp only at h1 h2
   have hang : ∀ (z : Int) (pts : List (Int × Int)), wz k z z x y u v pts pts r = wX k z x y u v pts r := fun z pts => by
    unfold wz Gw
    rw [decide_eq_true rfl, Bool.not_true, cond_false, decide_eq_true rfl, Bool.not_true, cond_false, aaA k (by omega), fJ, TJ, aaz k (by omega), beq_self_eq_true]
    rfl
   rw [h1]
   cases hs : uw (x, y) (u, v) with
   | inl c =>
     simp only
     show wK k c x y u v [] r = r true
     unfold wK AX
     rw [h2, hs]
     show wz k c c x y u v [] [] r = r true
     rw [hang]
     unfold wX Az
     have hc0 : ¬ c = 0 := by
      rcases aeg hs with e | e <;> rw [e] <;> decide
     rw [decide_eq_false hc0]
     rfl
   | inr s =>
     simp only
     show wK k 0 x y u v s.1 r = r true
     unfold wK AX
     rw [h2, hs]
     show wz k 0 0 x y u v s.1 s.1 r = r true
     rw [hang]
     exact tp4 k hk hs r
end Go.Sh
