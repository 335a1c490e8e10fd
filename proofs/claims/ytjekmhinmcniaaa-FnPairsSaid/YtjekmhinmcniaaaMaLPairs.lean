/- Plain laws: what the readings without memory answer. -/
import Derived.Test.YtjekmhinmcniaaaShLPairs
namespace Go.Sh
open Go Go.Ev

variable {α : Type}

theorem spec_l01In_eq (k : Nat) (n low high : Int) (r : Bool → Option α) : spec_l01In k n low high r = r (inB n low high) := by
  unfold spec_l01In inB
  cases decide (low ≤ n) <;> rfl

theorem spec_l01Fits_eq (k : Nat) (n : Int) (r : Bool → Option α) : spec_l01Fits k n r = r (crd n) := by
  simp only [spec_l01Fits, spec_l01In_eq]; rfl

theorem spec_l01Is_eq (k : Nat) (a b : Int) (r : Bool → Option α) : spec_l01Is k a b r = r (crd a && crd b) := by
  simp only [spec_l01Is, spec_l01Fits_eq]
  cases crd a <;> rfl

theorem impl_in_eq (k : Nat) (n low high : Int) (r : Bool → Option α) : impl_in k n low high r = r (inB n low high) := by
  unfold impl_in inB
  cases decide (low ≤ n) <;> rfl

theorem impl_isCoord_eq (k : Nat) (n : Int) (r : Bool → Option α) : impl_isCoord k n r = r (crd n) := by
  simp only [impl_isCoord, impl_in_eq]; rfl

theorem impl_IsPoint_eq (k : Nat) (a b : Int) (r : Bool → Option α) : impl_IsPoint k a b r = r (crd a && crd b) := by
  simp only [impl_IsPoint, impl_isCoord_eq]
  cases crd a <;> rfl

theorem impl_points_find (k : Nat) (s : List (Int × Int)) (hs : s.length ≤ big) (hk : s.length < k) (r : Bool → Option α) : impl_points k s r = r (s.all fun e => crd e.1 && crd e.2) := by
  unfold impl_points slices_ContainsFunc_impl_Point_impl_Point_1F_impl_points_1 slices_IndexFunc_impl_Point_impl_Point_1F_impl_points_1
  have h := find_loop (α := α) (p := fun e : Int × Int => !(crd e.1 && crd e.2)) (L := slices_IndexFunc_impl_Point_impl_Point_1F_impl_points_1_l2)
    (fun k x i s b r => by simp only [slices_IndexFunc_impl_Point_impl_Point_1F_impl_points_1_l2, impl_points_1, impl_IsPoint_eq]) s k 0 s
  have h0 : ((0 : Nat) : Int) = 0 := rfl
  rw [h0] at h
  rw [h _ _ (by simp) hs (by omega) hk]
  cases hf : s.findIdx? (fun e : Int × Int => !(crd e.1 && crd e.2)) with
  | none =>
    rw [List.findIdx?_eq_none_iff] at hf
    have : (s.all fun e => crd e.1 && crd e.2) = true := List.all_eq_true.2 fun e he => by simpa using hf e he
    simp [this]
  | some j =>
    rw [List.findIdx?_eq_some_iff_getElem] at hf
    obtain ⟨hj, hp, _⟩ := hf
    have : (s.all fun e => crd e.1 && crd e.2) = false := by
      rw [List.all_eq_false]
      exact ⟨s[j], List.getElem_mem hj, by cases h1 : crd s[j].1 <;> cases h2 : crd s[j].2 <;> simp_all⟩
    rw [this]
    simp

theorem impl_points2 (k : Nat) (hk : 3 ≤ k) (a b c d : Int) (r : Bool → Option α) : impl_points k [(a, b), (c, d)] r = r (crd a && crd b && (crd c && crd d)) := by
  rw [impl_points_find _ _ (by rw [big_val]; simp) (by simp; omega)]
  simp

theorem impl_floor_eq (k : Nat) (a b : Int) (r : Int → Option α) (hb : 0 < b) (ha : -1000000000000000000 ≤ a) (ha2 : a ≤ 1000000000000000000) : impl_floor k a b r = r (a / b) := by
  have hq := tdiv_abs a b
  simp only [impl_floor, dec_eq_f (show b ≠ 0 by omega), cond_false, w64_of (n := Int.tdiv a b) (by omega) (by omega), w64_of (n := Int.tdiv a b - 1) (by omega) (by omega)]
  rw [← tdiv_floor a b hb]
  cases (!decide (Int.tmod a b = 0)) <;> cases (!(decide (a < 0) == decide (b < 0))) <;> rfl

theorem spec_l01Floor_eq (k : Nat) (a b : Int) (r : Int → Option α) (hb : 0 < b) (ha : -1000000000000000000 ≤ a) (ha2 : a ≤ 1000000000000000000) : spec_l01Floor k a b r = r (a / b) := by
  have hq := tdiv_abs a b
  simp only [spec_l01Floor, dec_eq_f (show b ≠ 0 by omega), cond_false, w64_of (n := Int.tdiv a b) (by omega) (by omega), w64_of (n := Int.tdiv a b - 1) (by omega) (by omega)]
  rw [← tdiv_floor a b hb]
  cases (!decide (Int.tmod a b = 0)) <;> cases (!(decide (a < 0) == decide (b < 0))) <;> rfl

theorem impl_size_eq (k : Nat) (n : Int) (r : Int → Option α) (h0 : -1000000000000000000 ≤ n) (h1 : n ≤ 1000000000000000000) : impl_size k n r = r (max n (-n)) := by
  simp only [impl_size]
  rw [w64_of (by omega) (by omega), Int.zero_sub]

/-- The code of a pair. -/
def pairCode (a b c d : Int) : Int := bif crd a && crd b && (crd c && crd d) then (bif decide (w64 (w64 (a * d) - w64 (b * c)) = 0) then 5 else 0) else 1

theorem spec_l10Pair_eq (k : Nat) (a b c d : Int) (r : Int → Option α) : spec_l10Pair k a b c d r = r (pairCode a b c d) := by
  simp only [spec_l10Pair, spec_l01Is_eq, spec_l01Det, pairCode]
  cases (crd a && crd b) <;> cases (crd c && crd d) <;> cases decide (w64 (w64 (a * d) - w64 (b * c)) = 0) <;> rfl

theorem impl_pairFault_eq (k : Nat) (hk : 3 ≤ k) (a b c d : Int) (r : Int → Option α) : impl_pairFault k a b c d r = r (pairCode a b c d) := by
  simp only [impl_pairFault, impl_points2 k hk, impl_det, pairCode]
  cases (crd a && crd b) <;> cases (crd c && crd d) <;> cases decide (w64 (w64 (a * d) - w64 (b * c)) = 0) <;> rfl

/-- The sum of the products of two points' numbers. -/
def dotP (a b c d : Int) : Int := a * c + b * d

def detP (a b c d : Int) : Int := a * d - b * c

/-- Within the bounds of reduced pairs. -/
def near2 (a : Int) : Prop := -1414214 ≤ a ∧ a ≤ 1414214

theorem near2_of {a b : Int} (h : dotP a b a b ≤ 2000000000000) : near2 a ∧ near2 b := by
  unfold dotP at h
  have h1 := sq_nn a
  have h2 := sq_nn b
  have key : ∀ x : Int, x * x ≤ 2000000000000 → near2 x := fun x hx => by
    have e : ∀ y : Int, 0 ≤ y → y * y = x * x → y ≤ 1414214 := fun y hy he => by
      rcases ilt_or_ge 1414214 y with h3 | h3
      · have := Int.mul_le_mul (a := 1414215) (b := 1414215) (c := y) (d := y) (by omega) (by omega) (by omega) (by omega)
        omega
      · exact h3
    rcases Int.le_total 0 x with hx0 | hx0
    · have := e x hx0 rfl
      exact ⟨by omega, by omega⟩
    · have := e (-x) (by omega) (Int.neg_mul_neg x x)
      exact ⟨by omega, by omega⟩
  exact ⟨key a (by omega), key b (by omega)⟩

theorem dot_w {a b c d : Int} (ha : near2 a) (hb : near2 b) (hc : near2 c) (hd : near2 d) : w64 (w64 (a * c) + w64 (b * d)) = dotP a b c d ∧ -4000003557796 ≤ dotP a b c d ∧ dotP a b c d ≤ 4000003557796 := by
  have h1 := mul_bound ha.1 ha.2 hc.1 hc.2
  have h2 := mul_bound hb.1 hb.2 hd.1 hd.2
  unfold dotP
  rw [w64_of (n := a * c) (by omega) (by omega), w64_of (n := b * d) (by omega) (by omega), w64_of (by omega) (by omega)]
  exact ⟨rfl, by omega, by omega⟩

def redP (a b c d : Int) : Bool := decide (dotP a b a b ≤ dotP c d c d) && decide (2 * max (dotP a b c d) (-(dotP a b c d)) ≤ dotP a b a b)

theorem spec_l10Reduced_eq {a b c d : Int} (ha : near2 a) (hb : near2 b) (hc : near2 c) (hd : near2 d) (k : Nat) (r : Bool → Option α) : spec_l10Reduced k a b c d r = r (redP a b c d) := by
  obtain ⟨e1, b1, b2⟩ := dot_w ha hb hc hd
  obtain ⟨e2, b3, b4⟩ := dot_w ha hb ha hb
  obtain ⟨e3, b5, b6⟩ := dot_w hc hd hc hd
  simp only [spec_l10Reduced, spec_l10Dot, e1, e2, e3, redP]
  rw [w64_of (n := 2 * dotP a b c d) (by omega) (by omega), w64_of (n := 0 - 2 * dotP a b c d) (by omega) (by omega)]
  have e : max (2 * dotP a b c d) (0 - 2 * dotP a b c d) = 2 * max (dotP a b c d) (-(dotP a b c d)) := by omega
  rw [e]
  cases decide (dotP a b a b ≤ dotP c d c d) <;> rfl

theorem impl_isReduced_eq {a b c d : Int} (ha : near2 a) (hb : near2 b) (hc : near2 c) (hd : near2 d) (k : Nat) (r : Bool → Option α) : impl_isReduced k a b c d r = r (redP a b c d) := by
  obtain ⟨e1, b1, b2⟩ := dot_w ha hb hc hd
  obtain ⟨e2, b3, b4⟩ := dot_w ha hb ha hb
  obtain ⟨e3, b5, b6⟩ := dot_w hc hd hc hd
  simp only [impl_isReduced, impl_Point_norm, impl_dot, e1, e2, e3, redP, impl_size_eq k (dotP a b c d) _ (by omega) (by omega)]
  rw [w64_of (n := 2 * max (dotP a b c d) (-(dotP a b c d))) (by omega) (by omega)]
  cases decide (dotP a b a b ≤ dotP c d c d) <;> rfl

theorem crd_near {a : Int} (h : crd a = true) : near2 a := by
  rw [crd_iff] at h
  exact ⟨by omega, by omega⟩

theorem pairCode_zero {a b c d : Int} (h : pairCode a b c d = 0) : (crd a = true ∧ crd b = true) ∧ (crd c = true ∧ crd d = true) ∧ detP a b c d ≠ 0 := by
  unfold pairCode at h
  cases hp : (crd a && crd b && (crd c && crd d)) with
  | false => simp [hp] at h
  | true =>
    rw [hp, cond_true] at h
    simp only [Bool.and_eq_true] at hp
    refine ⟨hp.1, hp.2, fun e => ?_⟩
    obtain ⟨⟨h1, h2⟩, h3, h4⟩ := hp
    rw [crd_iff] at h1 h2 h3 h4
    have m1 := mul_bound (A := 1000000) (B := 1000000) h1.1 h1.2 h4.1 h4.2
    have m2 := mul_bound (A := 1000000) (B := 1000000) h2.1 h2.2 h3.1 h3.2
    unfold detP at e
    rw [w64_of (n := a * d) (by omega) (by omega), w64_of (n := b * c) (by omega) (by omega), w64_of (by omega) (by omega), e] at h
    simp at h

/-- What a step takes away. -/
def stepQ (a b c d : Int) : Int := (2 * dotP a b c d + dotP a b a b) / (2 * dotP a b a b)

theorem norm_nonneg (a b : Int) : 0 ≤ dotP a b a b := by
  have h1 := sq_nn a
  have h2 := sq_nn b
  unfold dotP
  omega

theorem norm_pos {a b c d : Int} (h : detP a b c d ≠ 0) : 0 < dotP a b a b := by
  have h1 := sq_nn a
  have h2 := sq_nn b
  unfold dotP
  rcases ilt_or_ge 0 (a * a + b * b) with h3 | h3
  · exact h3
  · exfalso
    have ha : a * a = 0 := by omega
    have hb : b * b = 0 := by omega
    have ha : a = 0 := (Int.mul_eq_zero.1 ha).elim id id
    have hb : b = 0 := (Int.mul_eq_zero.1 hb).elim id id
    exact h (by simp [detP, ha, hb])

theorem step_less {a b c d : Int} (hd : detP a b c d ≠ 0) (hr : redP a b c d = false) (hn : ¬ dotP c d c d < dotP a b a b) :
    dotP (c - stepQ a b c d * a) (d - stepQ a b c d * b) (c - stepQ a b c d * a) (d - stepQ a b c d * b) < dotP c d c d := by
  have hp := norm_pos hd
  have hgt : dotP a b a b < 2 * max (dotP a b c d) (-(dotP a b c d)) := by
    unfold redP at hr
    rw [decide_eq_true (by omega), Bool.true_and, decide_eq_false_iff_not] at hr
    omega
  have e : dotP (c - stepQ a b c d * a) (d - stepQ a b c d * b) (c - stepQ a b c d * a) (d - stepQ a b c d * b) = dotP c d c d - stepQ a b c d * (2 * dotP a b c d - stepQ a b c d * dotP a b a b) := by
    unfold dotP
    generalize stepQ a b c d = q
    grind
  have hq := ediv_bounds (a := 2 * dotP a b c d + dotP a b a b) (b := 2 * dotP a b a b) (by omega)
  have key : 0 < stepQ a b c d * (2 * dotP a b c d - stepQ a b c d * dotP a b a b) := by
    unfold stepQ
    generalize hQ : (2 * dotP a b c d + dotP a b a b) / (2 * dotP a b a b) = q at hq ⊢
    generalize dotP a b a b = n at *
    generalize dotP a b c d = t at *
    have e1 : 2 * n * q = q * n + q * n := by grind
    rw [e1] at hq
    rcases Int.lt_trichotomy q 0 with h | h | h
    · have h2 : 2 * t - q * n < 0 := by
        rcases ilt_or_ge q (-1) with h3 | h3
        · have : (q + 2) * n ≤ 0 := by
            have := Int.mul_nonneg (a := -(q + 2)) (b := n) (by omega) (by omega)
            rw [Int.neg_mul] at this
            omega
          rw [Int.add_mul] at this
          omega
        · have : q = -1 := by omega
          subst this
          omega
      have := Int.mul_pos (a := -q) (b := -(2 * t - q * n)) (by omega) (by omega)
      rw [Int.neg_mul_neg] at this
      exact this
    · subst h
      omega
    · have h2 : 0 < 2 * t - q * n := by
        rcases ilt_or_ge 1 q with h3 | h3
        · have : 0 ≤ (q - 2) * n := Int.mul_nonneg (by omega) (by omega)
          rw [Int.sub_mul] at this
          omega
        · have : q = 1 := by omega
          subst this
          omega
      exact Int.mul_pos h h2
  omega

theorem redP_near {a b c d : Int} (h1 : dotP a b a b ≤ 2000000000000) (h2 : dotP c d c d ≤ 2000000000000) : near2 a ∧ near2 b ∧ near2 c ∧ near2 d := ⟨(near2_of h1).1, (near2_of h1).2, (near2_of h2).1, (near2_of h2).2⟩

/-- What both reductions come to. -/
structure Redd (a b c d a' b' c' d' : Int) : Prop where
  red : redP a' b' c' d' = true
  n1 : dotP a' b' a' b' ≤ dotP a b a b
  n2 : dotP a' b' a' b' ≤ dotP c d c d
  n3 : dotP a' b' a' b' ≤ 2000000000000
  n4 : dotP c' d' c' d' ≤ 2000000000000
  det : detP a' b' c' d' = detP a b c d ∨ detP a' b' c' d' = -(detP a b c d)

theorem redP_le {a b c d : Int} (h : redP a b c d = true) : dotP a b a b ≤ dotP c d c d := by
  unfold redP at h
  simp only [Bool.and_eq_true, decide_eq_true_eq] at h
  exact h.1

theorem reduce_both : ∀ (m : Nat) (a b c d : Int), dotP a b a b ≤ 2000000000000 → dotP c d c d ≤ 2000000000000 → detP a b c d ≠ 0 → 2 * (dotP a b a b + dotP c d c d) + (if dotP c d c d < dotP a b a b then 1 else 0) ≤ m →
    ∃ a' b' c' d', Redd a b c d a' b' c' d' ∧ (∀ k, m < k → ∀ x x1 x2 x3 b0 (r0 : Int → Int → Int → Int → Option α), spec_l10Reduce_l1 k a b c d x x1 x2 x3 b0 r0 = b0 a' b' c' d' x x1 x2 x3) ∧
      (∀ k, m < k → ∀ b0 (r0 : Int → Option α) r1, impl_ReducePair_l4 k a b c d b0 r0 r1 = b0 a' b' c' d')
  | m, a, b, c, d, h1, h2, hd, hm => by
    obtain ⟨na, nb, nc, nd⟩ := redP_near h1 h2
    have hp := norm_pos hd
    have hq := norm_nonneg c d
    cases hr : redP a b c d with
    | true =>
      refine ⟨a, b, c, d, ⟨hr, by omega, redP_le hr, h1, h2, .inl rfl⟩, fun k hk x x1 x2 x3 b0 r0 => ?_, fun k hk b0 r0 r1 => ?_⟩
      · cases k with
        | zero => omega
        | succ k => simp [spec_l10Reduce_l1, spec_l10Reduced_eq na nb nc nd, hr]
      · cases k with
        | zero => omega
        | succ k => simp [impl_ReducePair_l4, impl_isReduced_eq na nb nc nd, hr]
    | false =>
      obtain ⟨e2, b3, b4⟩ := dot_w na nb na nb
      obtain ⟨e3, b5, b6⟩ := dot_w nc nd nc nd
      obtain ⟨e1, b1, b2⟩ := dot_w na nb nc nd
      by_cases hn : dotP c d c d < dotP a b a b
      · cases m with
        | zero => simp only [hn, if_true] at hm; omega
        | succ m =>
          have hd' : detP c d a b = -(detP a b c d) := by unfold detP; grind
          obtain ⟨a', b', c', d', hR, hs, hi⟩ := reduce_both m c d a b h2 h1 (by omega) (by
            simp only [hn, if_true] at hm
            rw [if_neg (by omega)]
            omega)
          refine ⟨a', b', c', d', ⟨hR.red, hR.n2, hR.n1, hR.n3, hR.n4, by have := hR.det; omega⟩, fun k hk x x1 x2 x3 b0 r0 => ?_, fun k hk b0 r0 r1 => ?_⟩
          · cases k with
            | zero => omega
            | succ k =>
              simp only [spec_l10Reduce_l1, spec_l10Reduced_eq na nb nc nd, hr, Bool.not_false, cond_true, spec_l10Dot, e2, e3, dec_lt_t hn]
              exact hs k (by omega) _ _ _ _ _ _
          · cases k with
            | zero => omega
            | succ k =>
              simp only [impl_ReducePair_l4, impl_isReduced_eq na nb nc nd, hr, Bool.not_false, cond_true, impl_Point_norm, impl_dot, e2, e3, dec_lt_t hn]
              exact hi k (by omega) _ _ _
      · cases m with
        | zero => rw [if_neg hn] at hm; omega
        | succ m =>
          have hless := step_less hd hr hn
          have hfl := ediv_bounds (a := 2 * dotP a b c d + dotP a b a b) (b := 2 * dotP a b a b) (by omega)
          have hqb : -9000000000000 ≤ stepQ a b c d ∧ stepQ a b c d ≤ 9000000000000 := by
            unfold stepQ
            generalize (2 * dotP a b c d + dotP a b a b) / (2 * dotP a b a b) = q at hfl ⊢
            generalize dotP a b a b = n at *
            generalize dotP a b c d = t at *
            constructor
            · rcases ilt_or_ge q (-9000000000000) with h3 | h3
              · have := mul_le_l (2 * n) (a := q + 1) (b := -9000000000000 + 1) (by omega) (by omega)
                rw [Int.mul_add] at this
                omega
              · exact h3
            · rcases ilt_or_ge 9000000000000 q with h3 | h3
              · have := mul_le_l (2 * n) (a := 9000000000000) (b := q) (by omega) (by omega)
                omega
              · exact h3
          have hfw : (2 * dotP a b c d + dotP a b a b) / (2 * dotP a b a b) = stepQ a b c d := rfl
          generalize hQ : stepQ a b c d = q at hless hqb hfw
          obtain ⟨_, _, nc', nd'⟩ := redP_near (a := a) (b := b) h1 (by omega : dotP (c - q * a) (d - q * b) (c - q * a) (d - q * b) ≤ 2000000000000)
          have hd' : detP a b (c - q * a) (d - q * b) = detP a b c d := by unfold detP; grind
          obtain ⟨a', b', c', d', hR, hs, hi⟩ := reduce_both m a b (c - q * a) (d - q * b) h1 (by omega) (by omega) (by
            rw [if_neg hn] at hm
            split <;> omega)
          have w1 : w64 (c + w64 (w64 (0 - q) * a)) = c - q * a := by
            rw [w64_of (n := 0 - q) (by omega) (by omega)]
            have e : (0 - q) * a = -(q * a) := by rw [Int.zero_sub, Int.neg_mul]
            obtain ⟨p1, p2⟩ := nc
            obtain ⟨p3, p4⟩ := nc'
            rw [e, w64_of (n := -(q * a)) (by omega) (by omega), w64_of (by omega) (by omega)]
            omega
          have w2 : w64 (d + w64 (w64 (0 - q) * b)) = d - q * b := by
            rw [w64_of (n := 0 - q) (by omega) (by omega)]
            have e : (0 - q) * b = -(q * b) := by rw [Int.zero_sub, Int.neg_mul]
            obtain ⟨p1, p2⟩ := nd
            obtain ⟨p3, p4⟩ := nd'
            rw [e, w64_of (n := -(q * b)) (by omega) (by omega), w64_of (by omega) (by omega)]
            omega
          have w3 : w64 (2 * dotP a b c d) = 2 * dotP a b c d := w64_of (by omega) (by omega)
          have w4 : w64 (2 * dotP a b c d + dotP a b a b) = 2 * dotP a b c d + dotP a b a b := w64_of (by omega) (by omega)
          have w5 : w64 (2 * dotP a b a b) = 2 * dotP a b a b := w64_of (by omega) (by omega)
          refine ⟨a', b', c', d', ⟨hR.red, hR.n1, by have := hR.n2; omega, hR.n3, hR.n4, by have := hR.det; omega⟩, fun k hk x x1 x2 x3 b0 r0 => ?_, fun k hk b0 r0 r1 => ?_⟩
          · cases k with
            | zero => omega
            | succ k =>
              simp only [spec_l10Reduce_l1, spec_l10Reduced_eq na nb nc nd, hr, Bool.not_false, cond_true, spec_l10Dot, e1, e2, e3, dec_lt_f (show dotP a b a b ≤ dotP c d c d by omega), cond_false, w3, w4, w5, spec_l01Plus]
              rw [spec_l01Floor_eq _ _ _ _ (by omega) (by omega) (by omega), hfw, w1, w2]
              exact hs k (by omega) _ _ _ _ _ _
          · cases k with
            | zero => omega
            | succ k =>
              simp only [impl_ReducePair_l4, impl_isReduced_eq na nb nc nd, hr, Bool.not_false, cond_true, impl_Point_norm, impl_dot, e1, e2, e3, dec_lt_f (show dotP a b a b ≤ dotP c d c d by omega), cond_false, w3, w4, w5, impl_Point_plus]
              rw [impl_floor_eq _ _ _ _ (by omega) (by omega) (by omega), hfw, w1, w2]
              exact hi k (by omega) _ _ _

theorem crd_norm {a b : Int} (ha : crd a = true) (hb : crd b = true) : dotP a b a b ≤ 2000000000000 := by
  rw [crd_iff] at ha hb
  have h1 := mul_bound (A := 1000000) (B := 1000000) ha.1 ha.2 ha.1 ha.2
  have h2 := mul_bound (A := 1000000) (B := 1000000) hb.1 hb.2 hb.1 hb.2
  unfold dotP
  omega

/-- Both reductions of a pair. -/
theorem pair_reduces {a b c d : Int} (h : pairCode a b c d = 0) : ∃ a' b' c' d', Redd a b c d a' b' c' d' ∧ (∀ k, 8000000000001 < k → ∀ r : Int → Int → Int → Int → Option α, spec_l10Reduce k a b c d r = r a' b' c' d') ∧
    (∀ k, 8000000000001 < k → ∀ (r0 : Int → Option α) r1, impl_ReducePair k a b c d r0 r1 = r1 [(a', b'), (c', d')] 0) := by
  obtain ⟨⟨h1, h2⟩, ⟨h3, h4⟩, hd⟩ := pairCode_zero h
  have n1 := crd_norm h1 h2
  have n2 := crd_norm h3 h4
  obtain ⟨a', b', c', d', hR, hs, hi⟩ := reduce_both (α := α) 8000000000001 a b c d n1 n2 hd (by split <;> omega)
  refine ⟨a', b', c', d', hR, fun k hk r => ?_, fun k hk r0 r1 => ?_⟩
  · unfold spec_l10Reduce
    exact hs k hk _ _ _ _ _ _
  · unfold impl_ReducePair
    rw [impl_pairFault_eq k (by omega), h]
    exact hi k hk _ _ _

/-- A code. -/
structure IsCode (l : List Int) : Prop where
  len : l.length ≤ 4096
  byte : ∀ x ∈ l, 0 ≤ x ∧ x ≤ 255

/-- How far a code is read. -/
def AtC (l : List Int) (a : Int) : Prop := 0 ≤ a ∧ a ≤ l.length

theorem mask_b (h : Int) : 0 ≤ w64 (IntKind.wrap .u64 ((BitVec.ofInt 64 h &&& BitVec.ofInt 64 1073741823).toNat : Nat)) ∧ w64 (IntKind.wrap .u64 ((BitVec.ofInt 64 h &&& BitVec.ofInt 64 1073741823).toNat : Nat)) ≤ 1073741823 := by
  have h1 : (BitVec.ofInt 64 h &&& BitVec.ofInt 64 1073741823).toNat ≤ 1073741823 := by
    rw [BitVec.toNat_and]
    exact Nat.le_trans Nat.and_le_right (by decide)
  rw [IntWalk.u64_in _ (by omega), w64_of (by omega) (by omega)]
  omega

/-- The next hash, and the number that it tells. -/
def lcg (h : Int) : Int := IntKind.wrap .u64 ((IntKind.wrap .u64 (h * 6364136223846793005)) + 1442695040888963407)

def lcgX (h : Int) : Int := w64 (IntKind.wrap .u64 ((BitVec.ofInt 64 (Int.fdiv (lcg h) (2 ^ 31)) &&& BitVec.ofInt 64 1073741823).toNat : Nat))

theorem lcgX_b (h : Int) : 0 ≤ lcgX h ∧ lcgX h ≤ 1073741823 := mask_b _

theorem next_eq (l : List Int) (a : Int) (k : Nat) (h n : Int) (r : Int → Int → Int → Option α) : spec_l01Next k l a h n r = bif decide (n < 1) then r 0 a h else bif decide (a < (l.length : Nat)) then (bif decide (0 ≤ a) && decide (a < (l.length : Nat)) then (l[a.toNat]?).bind fun e => bif decide (n = 0) then none else r (Int.tmod (w64 (lcgX h + w64 e)) n) (w64 (a + 1)) (lcg h) else none) else bif decide (n = 0) then none else r (Int.tmod (lcgX h) n) a (lcg h) := rfl

theorem next_ok {l : List Int} (hl : IsCode l) {a : Int} (ha : AtC l a) (k : Nat) (h n : Int) : ∃ v a' h', AtC l a' ∧ 0 ≤ v ∧ (v < n ∨ (n < 1 ∧ v = 0)) ∧ ∀ r : Int → Int → Int → Option α, spec_l01Next k l a h n r = r v a' h' := by
  have hlen := hl.len
  unfold AtC at ha
  by_cases h1 : n < 1
  · exact ⟨0, a, h, ha, by omega, .inr ⟨h1, rfl⟩, fun r => by rw [next_eq, dec_lt_t h1, cond_true]⟩
  · have hz : decide (n = 0) = false := decide_eq_false (by omega)
    have h1' : decide (n < 1) = false := decide_eq_false h1
    obtain ⟨m1, m2⟩ := lcgX_b h
    by_cases h2 : a < l.length
    · have hlt : a.toNat < l.length := by omega
      have hb := hl.byte l[a.toNat] (List.getElem_mem hlt)
      refine ⟨Int.tmod (lcgX h + l[a.toNat]) n, a + 1, lcg h, by unfold AtC; omega, Int.tmod_nonneg _ (by omega), .inl (Int.tmod_lt_of_pos _ (by omega)), fun r => ?_⟩
      rw [next_eq, h1', cond_false, dec_lt_t h2, cond_true, dec_le_t ha.1, Bool.and_true, cond_true, List.getElem?_eq_getElem hlt, Option.bind_some, hz, cond_false, w64_of (n := a + 1) (by omega) (by omega), w64_of (n := l[a.toNat]) (by omega) (by omega), w64_of (n := lcgX h + l[a.toNat]) (by omega) (by omega)]
    · refine ⟨Int.tmod (lcgX h) n, a, lcg h, ha, Int.tmod_nonneg _ (by omega), .inl (Int.tmod_lt_of_pos _ (by omega)), fun r => ?_⟩
      rw [next_eq, h1', cond_false, dec_lt_f (by omega), cond_false, hz, cond_false]

theorem from_l3 {l : List Int} (hl : IsCode l) : ∀ (m k i : Nat) (s h : Int) (r : Int → Int → Option α), i + m = l.length → m < k → ∃ h', ∀ (r : Int → Int → Option α), spec_l01From_l3 k i l s h (fun _ _ s1 s2 => r s1 s2) r = r s h'
  | 0, k + 1, i, s, h, r, hi, _ => ⟨h, fun r => by
    rw [spec_l01From_l3, dec_lt_f (by omega), cond_false]⟩
  | m + 1, k + 1, i, s, h, r, hi, hk => by
    have hlen := hl.len
    have en : w64 ((i : Int) + 1) = ((i + 1 : Nat) : Int) := by rw [w64_of (by omega) (by omega)]; omega
    have hlt : i < l.length := by omega
    obtain ⟨h', ih⟩ := from_l3 hl m k (i + 1) s (IntKind.wrap .u64 ((IntKind.wrap .u64 ((IntKind.wrap .u64 (h * 1099511628211)) + (IntKind.wrap .u64 l[i]))) + 107)) r (by omega) (by omega)
    refine ⟨h', fun r => ?_⟩
    rw [spec_l01From_l3, dec_lt_t (by omega), cond_true, dec_lt_t (by omega), cond_true, dec_le_t (by omega), Bool.and_true, cond_true, Int.toNat_natCast, List.getElem?_eq_getElem hlt, Option.bind_some, en]
    exact ih r
  | _, 0, _, _, _, _, _, hk => by omega

theorem from_ok {l : List Int} (hl : IsCode l) (k : Nat) (hk : 4096 < k) : ∃ h, AtC l 0 ∧ ∀ r : Int → Int → Option α, spec_l01From k l r = r 0 h := by
  have hlen := hl.len
  obtain ⟨h', e⟩ := from_l3 (α := α) hl l.length k 0 0 (IntKind.wrap .u64 (12971 + (IntKind.wrap .u64 (((List.length l) : Nat) : Int)))) (fun _ _ => none) (by omega) (by omega)
  exact ⟨h', ⟨by omega, by omega⟩, fun r => e r⟩

theorem pick_ok {l : List Int} (hl : IsCode l) {a : Int} (ha : AtC l a) (k : Nat) (h : Int) {list : List Int} (h0 : 0 < list.length) (h1 : list.length ≤ 1000) : ∃ v a' h', AtC l a' ∧ v ∈ list ∧ ∀ r : Int → Int → Int → Option α, spec_l01Pick k l a h list r = r v a' h' := by
  obtain ⟨v, a', h', i1, i2, i3, i4⟩ := next_ok (α := α) hl ha k h (list.length : Int)
  have hv : v < list.length := by omega
  have hlt : v.toNat < list.length := by omega
  refine ⟨list[v.toNat], a', h', i1, List.getElem_mem hlt, fun r => ?_⟩
  unfold spec_l01Pick
  rw [i4, dec_le_t i2, dec_lt_t hv, Bool.and_true, cond_true, List.getElem?_eq_getElem hlt, Option.bind_some]

theorem point_ok {l : List Int} (hl : IsCode l) {a : Int} (ha : AtC l a) (k : Nat) (h : Int) {most : Int} (h0 : 0 ≤ most) (h1 : most ≤ 1000000000) : ∃ x y a' h', AtC l a' ∧ (-most ≤ x ∧ x ≤ most) ∧ (-most ≤ y ∧ y ≤ most) ∧ ∀ r : Int → Int → Int → Int → Option α, spec_l01DrawPoint k l a h most r = r x y a' h' := by
  have w : w64 ((w64 (2 * most)) + 1) = 2 * most + 1 := by rw [w64_of (n := 2 * most) (by omega) (by omega), w64_of (by omega) (by omega)]
  obtain ⟨v, a1, h1', i1, i2, i3, i4⟩ := next_ok (α := α) hl ha k h (w64 ((w64 (2 * most)) + 1))
  obtain ⟨u, a2, h2', j1, j2, j3, j4⟩ := next_ok (α := α) hl i1 k h1' (w64 ((w64 (2 * most)) + 1))
  refine ⟨v - most, u - most, a2, h2', j1, by omega, by omega, fun r => ?_⟩
  unfold spec_l01DrawPoint
  rw [i4, j4, w64_of (n := v - most) (by omega) (by omega), w64_of (n := u - most) (by omega) (by omega)]

theorem size_ok {l : List Int} (hl : IsCode l) {a : Int} (ha : AtC l a) (k : Nat) (h : Int) : ∃ v a' h', AtC l a' ∧ 3 ≤ v ∧ v ≤ 1000000 ∧ ∀ r : Int → Int → Int → Option α, spec_l01Size k l a h r = r v a' h' := by
  obtain ⟨u, a2, h2, j1, j2, j3⟩ := pick_ok (α := α) hl ha k h (list := [3, 6, 12, 100, 1000, 1000000]) (by simp) (by simp)
  refine ⟨u, a2, h2, j1, ?_, ?_, fun r => ?_⟩
  · simp only [List.mem_cons, List.not_mem_nil, or_false] at j2; omega
  · simp only [List.mem_cons, List.not_mem_nil, or_false] at j2; omega
  · unfold spec_l01Size
    rw [j3]

theorem bad_ok {l : List Int} (hl : IsCode l) {a : Int} (ha : AtC l a) (k : Nat) (h x y : Int) : ∃ x' y' a' h', AtC l a' ∧ ∀ r : Int → Int → Int → Int → Option α, spec_l01Bad k l a h x y r = r x' y' a' h' := by
  obtain ⟨v, a1, h1', i1, i2, i3, i4⟩ := next_ok (α := α) hl ha k h 40
  by_cases hv : v = 0
  · obtain ⟨u, a2, h2, j1, j2, j3, j4⟩ := next_ok (α := α) hl i1 k h1' 2
    obtain ⟨z, a3, h3, q1, q2, q3⟩ := pick_ok (α := α) hl j1 k h2 (list := [1000001, (-1000001), 1099511627776]) (by simp) (by simp)
    rcases (show u = 0 ∨ u = 1 by omega) with rfl | rfl
    · refine ⟨z, y, a3, h3, q1, fun r => ?_⟩
      unfold spec_l01Bad
      rw [i4, decide_eq_true hv, cond_true, j4, q3]
      simp
    · refine ⟨x, z, a3, h3, q1, fun r => ?_⟩
      unfold spec_l01Bad
      rw [i4, decide_eq_true hv, cond_true, j4, q3]
      simp
  · refine ⟨x, y, a1, h1', i1, fun r => ?_⟩
    unfold spec_l01Bad
    rw [i4, decide_eq_false hv, cond_false]

theorem spoil_ok {l : List Int} (hl : IsCode l) {a : Int} (ha : AtC l a) (k : Nat) (h : Int) : ∃ x y a' h', AtC l a' ∧ ∀ r : Int → Int → Int → Int → Option α, spec_l01Spoil k l a h r = r x y a' h' := by
  obtain ⟨v, a1, h1, i1, i2, i3, i4⟩ := size_ok (α := α) hl ha k h
  obtain ⟨x, y, a2, h2, j1, j2, j3, j4⟩ := point_ok (α := α) hl i1 k h1 (most := v) (by omega) (by omega)
  obtain ⟨x', y', a3, h3, q1, q2⟩ := bad_ok (α := α) hl j1 k h2 x y
  refine ⟨x', y', a3, h3, q1, fun r => ?_⟩
  unfold spec_l01Spoil
  rw [i4, j4, q2]

theorem points10_ok {l : List Int} (hl : IsCode l) (k : Nat) (hk : 4096 < k) : ∃ a b c d, ∀ r : Int → Int → Int → Int → Option α, spec_l10Points k l r = r a b c d := by
  obtain ⟨h0, i0, e0⟩ := from_ok (α := α) hl k hk
  obtain ⟨m, a1, h1, i1, m1, m2, e1⟩ := size_ok (α := α) hl i0 k h0
  obtain ⟨x, y, a2, h2, i2, _, _, e2⟩ := point_ok (α := α) hl i1 k h1 (most := m) (by omega) (by omega)
  obtain ⟨u, v, a3, h3, i3, _, _, e3⟩ := point_ok (α := α) hl i2 k h2 (most := m) (by omega) (by omega)
  obtain ⟨n, a4, h4, i4, _, _, e4⟩ := next_ok (α := α) hl i3 k h3 12
  obtain ⟨p, q, a5, h5, i5, e5⟩ := spoil_ok (α := α) hl i4 k h4
  by_cases n0 : n = 0
  · exact ⟨x, y, x, y, fun r => by simp [spec_l10Points, e0, e1, e2, e3, e4, n0]⟩
  · by_cases n1 : n = 1
    · exact ⟨p, q, u, v, fun r => by subst n1; simp [spec_l10Points, e0, e1, e2, e3, e4, e5]⟩
    · exact ⟨x, y, u, v, fun r => by simp [spec_l10Points, e0, e1, e2, e3, e4, n0, n1]⟩

theorem drawIsReduced_ok {l : List Int} (hl : IsCode l) (k : Nat) (hk : 8000000000001 < k) : ∃ a b c d, ∀ r : Int → Int → Int → Int → Option α, spec_DrawIsReducedPair k l r = r a b c d := by
  obtain ⟨h0, i0, e0⟩ := from_ok (α := α) hl k (by omega)
  obtain ⟨a, b, c, d, e1⟩ := points10_ok (α := α) hl k (by omega)
  obtain ⟨n, a4, h4, i4, _, _, e4⟩ := next_ok (α := α) hl i0 k h0 2
  by_cases h : pairCode a b c d = 0
  · obtain ⟨a', b', c', d', hR, hs, hi⟩ := pair_reduces (α := α) h
    by_cases n0 : n = 0
    · exact ⟨a', b', c', d', fun r => by simp [spec_DrawIsReducedPair, e0, e1, e4, spec_l10Pair_eq, h, n0, hs k hk]⟩
    · exact ⟨a, b, c, d, fun r => by simp [spec_DrawIsReducedPair, e0, e1, e4, spec_l10Pair_eq, h, n0]⟩
  · exact ⟨a, b, c, d, fun r => by simp [spec_DrawIsReducedPair, e0, e1, spec_l10Pair_eq, h]⟩

theorem drawNorm_ok {l : List Int} (hl : IsCode l) (k : Nat) (hk : 4096 < k) : ∃ a b, ∀ r : Int → Int → Option α, spec_DrawNormOf k l r = r a b := by
  obtain ⟨h0, i0, e0⟩ := from_ok (α := α) hl k hk
  obtain ⟨p, q, a5, h5, i5, e5⟩ := spoil_ok (α := α) hl i0 k h0
  exact ⟨p, q, fun r => by simp [spec_DrawNormOf, e0, e5]⟩

theorem isReduced_both (k : Nat) (hk : 3 ≤ k) (a b c d : Int) : ∃ v : Bool, (∀ r : Bool → Int → Option α, impl_IsReducedPair k a b c d r = r v (pairCode a b c d)) ∧ (∀ r : Bool → Int → Option α, spec_IsReducedPair k a b c d r = r v (pairCode a b c d)) ∧ (pairCode a b c d = 0 → v = redP a b c d) := by
  by_cases h : pairCode a b c d = 0
  · obtain ⟨⟨h1, h2⟩, ⟨h3, h4⟩, _⟩ := pairCode_zero h
    exact ⟨redP a b c d, fun r => by simp [impl_IsReducedPair, impl_pairFault_eq k hk, h, impl_isReduced_eq (crd_near h1) (crd_near h2) (crd_near h3) (crd_near h4)], fun r => by simp [spec_IsReducedPair, spec_l10Pair_eq, h, spec_l10Reduced_eq (crd_near h1) (crd_near h2) (crd_near h3) (crd_near h4)], fun _ => rfl⟩
  · exact ⟨false, fun r => by simp [impl_IsReducedPair, impl_pairFault_eq k hk, h], fun r => by simp [spec_IsReducedPair, spec_l10Pair_eq, h], fun e => absurd e h⟩

theorem normOf_both (k : Nat) (a b : Int) : (∀ r : Int → Int → Option α, impl_NormOf k a b r = bif crd a && crd b then r (dotP a b a b) 0 else r 0 1) ∧ (∀ r : Int → Int → Option α, spec_NormOf k a b r = bif crd a && crd b then r (dotP a b a b) 0 else r 0 1) := by
  simp only [impl_NormOf, spec_NormOf, impl_IsPoint_eq, spec_l01Is_eq]
  cases h : (crd a && crd b) with
  | false => simp
  | true =>
    rw [Bool.and_eq_true] at h
    have e := dot_w (crd_near h.1) (crd_near h.2) (crd_near h.1) (crd_near h.2)
    simp [impl_Point_norm, impl_dot, spec_l10Dot, e.1]

theorem shortest_both (k : Nat) (hk : 8000000000001 < k) (a b c d : Int) : ∃ v, (∀ r : Int → Int → Option α, impl_ShortestNorm k a b c d r = r v (pairCode a b c d)) ∧ (∀ r : Int → Int → Option α, spec_ShortestNorm k a b c d r = r v (pairCode a b c d)) ∧ (pairCode a b c d = 0 → 1 ≤ v ∧ v ≤ dotP a b a b ∧ v ≤ dotP c d c d) := by
  by_cases h : pairCode a b c d = 0
  · obtain ⟨a', b', c', d', hR, hs, hi⟩ := pair_reduces (α := α) h
    obtain ⟨_, _, hd⟩ := pairCode_zero h
    have n := redP_near hR.n3 hR.n4
    have e := dot_w n.1 n.2.1 n.1 n.2.1
    have hd2 : detP a' b' c' d' ≠ 0 := by
      rcases hR.det with e | e <;> omega
    have hp := norm_pos hd2
    refine ⟨dotP a' b' a' b', fun r => ?_, fun r => ?_, fun _ => ⟨by omega, hR.n1, hR.n2⟩⟩
    · simp [impl_ShortestNorm, hi k hk, impl_Point_norm, impl_dot, e.1, h]
    · simp [spec_ShortestNorm, spec_l10Pair_eq, h, hs k hk, spec_l10Dot, e.1]
  · refine ⟨0, fun r => ?_, fun r => ?_, fun e => absurd e h⟩
    · simp [impl_ShortestNorm, impl_ReducePair, impl_pairFault_eq k (show 3 ≤ k by omega), h]
    · simp [spec_ShortestNorm, spec_l10Pair_eq, h]

theorem detOf_impl (k : Nat) (hk : 3 ≤ k) (a b c d : Int) (r : Int → Int → Option α) : impl_DeterminantOf k a b c d r = bif crd a && crd b && (crd c && crd d) then r (detP a b c d) 0 else r 0 1 := by
  simp only [impl_DeterminantOf, impl_points2 k hk]
  cases h : (crd a && crd b && (crd c && crd d)) with
  | false => simp
  | true =>
    simp only [Bool.and_eq_true, crd_iff] at h
    have h1 := mul_bound h.1.1.1 h.1.1.2 h.2.2.1 h.2.2.2
    have h2 := mul_bound h.1.2.1 h.1.2.2 h.2.1.1 h.2.1.2
    simp only [Bool.not_true, cond_false, cond_true, impl_det]
    rw [w64_of (n := a * d) (by omega) (by omega), w64_of (n := b * c) (by omega) (by omega), w64_of (by omega) (by omega)]
    rfl

theorem points9_same (k : Nat) (a b c d : Int) (hk : 3 < k) (r : Bool → Option α) : laws_points9 k [(a, b), (c, d)] [(a, b), (c, d)] r = r true := by
  obtain ⟨k, rfl⟩ : ∃ k', k = k' + 1 + 1 + 1 := ⟨k - 3, by omega⟩
  have w1 : w64 (0 + 1) = 1 := by decide
  have w2 : w64 (1 + 1) = 2 := by decide
  unfold laws_points9
  rw [laws_points9_l4]
  simp only [List.length_cons, List.length_nil, w1]
  rw [laws_points9_l4]
  simp only [List.length_cons, List.length_nil, w2]
  rw [laws_points9_l4]
  simp

theorem laws_big_eq (k : Nat) (l : List Int) (r : Bool → Option α) : laws_big k l r = r (decide (4096 < (((List.length l) : Nat) : Int))) := rfl

theorem law_FnPairs (k : Nat) (hk : 8000000000001 < k) (l : List Int) (r : Bool → Option α) (hb : ∀ x ∈ l, 0 ≤ x ∧ x ≤ 255) : laws_FnPairs k l r = r true := by
  unfold laws_FnPairs
  rw [laws_big_eq]
  by_cases hlen : 4096 < (l.length : Int)
  · rw [dec_lt_t hlen, cond_true]
  · rw [dec_lt_f (by omega), cond_false]
    have hl : IsCode l := ⟨by omega, hb⟩
    obtain ⟨a, b, c, d, e1⟩ := points10_ok (α := α) hl k (by omega)
    obtain ⟨p, q, u, v, e2⟩ := drawIsReduced_ok (α := α) hl k hk
    obtain ⟨x, y, e3⟩ := drawNorm_ok (α := α) hl k (by omega)
    have e1' : ∀ r : Int → Int → Int → Int → Option α, spec_DrawReducePair k l r = r a b c d := fun r => by simp only [spec_DrawReducePair, e1]
    have e1'' : ∀ r : Int → Int → Int → Int → Option α, spec_DrawShortestNorm k l r = r a b c d := fun r => by simp only [spec_DrawShortestNorm, e1]
    obtain ⟨g, f1, f2, _⟩ := isReduced_both (α := α) k (by omega) p q u v
    obtain ⟨s, s1, s2, s3⟩ := shortest_both (α := α) k hk a b c d
    have nx := normOf_both (α := α) k x y
    have n1 := (normOf_both (α := α) k a b).1
    have n2 := (normOf_both (α := α) k c d).1
    have hd := detOf_impl (α := α) k (by omega)
    by_cases h : pairCode a b c d = 0
    · obtain ⟨a', b', c', d', hR, hs, hi⟩ := pair_reduces (α := α) h
      obtain ⟨⟨h1, h2⟩, ⟨h3, h4⟩, hdt⟩ := pairCode_zero h
      obtain ⟨t1, t2, t3⟩ := s3 h
      have hsp : ∀ (r0 : Int → Option α) r1, spec_ReducePair k a b c d r0 r1 = r1 [(a', b'), (c', d')] 0 := fun r0 r1 => by simp [spec_ReducePair, spec_l10Pair_eq, h, hs k hk]
      have u1 : decide (s < 1) = false := decide_eq_false (by omega)
      have u2 : decide (dotP a b a b < s) = false := decide_eq_false (by omega)
      have u3 : decide (dotP c d c d < s) = false := decide_eq_false (by omega)
      obtain ⟨g', f1', _, f3'⟩ := isReduced_both (α := α) k (by omega) a' b' c' d'
      have hne : detP a' b' c' d' ≠ 0 := by rcases hR.det with e | e <;> omega
      have bd : -2000000000000 ≤ detP a b c d ∧ detP a b c d ≤ 2000000000000 := by
        rw [crd_iff] at h1 h2 h3 h4
        have m1 := mul_bound h1.1 h1.2 h4.1 h4.2
        have m2 := mul_bound h2.1 h2.2 h3.1 h3.2
        unfold detP
        omega
      have hmax : max (detP a b c d) (w64 (0 - detP a b c d)) = max (detP a' b' c' d') (w64 (0 - detP a' b' c' d')) := by
        rw [w64_of (by omega) (by omega), w64_of (n := 0 - detP a' b' c' d') (by rcases hR.det with e | e <;> omega) (by rcases hR.det with e | e <;> omega)]
        rcases hR.det with e | e <;> rw [e] <;> omega
      have nxx : ∀ r : Int → Int → Option α, impl_NormOf k x y r = spec_NormOf k x y r := fun r => by rw [nx.1, nx.2]
      obtain ⟨nv, nc, hn⟩ : ∃ nv nc, ∀ r : Int → Int → Option α, spec_NormOf k x y r = r nv nc := by
        cases hc : (crd x && crd y) with
        | true => exact ⟨_, _, fun r => by rw [nx.2, hc, cond_true]⟩
        | false => exact ⟨_, _, fun r => by rw [nx.2, hc, cond_false]⟩
      simp only [e1', e1'', e2, e3, hi k hk, hsp, f1, f2, s1, s2, nxx, hn, n1, n2, h, h1, h2, h3, h4, hd, f1', u1, u2, u3, points9_same k a' b' c' d' (by omega), impl_IsPoint_eq]
      simp only [decide_true, Bool.not_true, cond_false, cond_true, beq_self_eq_true, Bool.and_self, List.length_cons, List.length_nil]
      simp only [show decide ((0 : Int) < ((0 + 1 + 1 : Nat) : Int)) = true from rfl, show decide ((1 : Int) < ((0 + 1 + 1 : Nat) : Int)) = true from rfl, Bool.and_self, cond_true, List.getElem?_cons_zero, List.getElem?_cons_succ, Option.bind_some]
      cases hp1 : (crd a' && crd b') with
      | false =>
        have hpc : pairCode a' b' c' d' = 1 := by simp [pairCode, hp1]
        simp [f1', hpc]
      | true =>
        cases hp2 : (crd c' && crd d') with
        | false =>
          have hpc : pairCode a' b' c' d' = 1 := by simp [pairCode, hp2]
          simp [f1', hpc]
        | true =>
          have hw : w64 (w64 (a' * d') - w64 (b' * c')) = detP a' b' c' d' := by
            rw [Bool.and_eq_true, crd_iff, crd_iff] at hp1 hp2
            have m1 := mul_bound hp1.1.1 hp1.1.2 hp2.2.1 hp2.2.2
            have m2 := mul_bound hp1.2.1 hp1.2.2 hp2.1.1 hp2.1.2
            rw [w64_of (n := a' * d') (by omega) (by omega), w64_of (n := b' * c') (by omega) (by omega), w64_of (by omega) (by omega)]
            rfl
          have hpc : pairCode a' b' c' d' = 0 := by simp [pairCode, hp1, hp2, hw, hne]
          have hg : g' = true := by rw [f3' hpc, hR.red]
          simp only [Int.zero_sub] at hmax
          simp [f1', hpc, hg, hmax]
    · have hi : ∀ (r0 : Int → Option α) r1, impl_ReducePair k a b c d r0 r1 = r0 (pairCode a b c d) := fun r0 r1 => by simp [impl_ReducePair, impl_pairFault_eq k (show 3 ≤ k by omega), h]
      have hsp : ∀ (r0 : Int → Option α) r1, spec_ReducePair k a b c d r0 r1 = r0 (pairCode a b c d) := fun r0 r1 => by simp [spec_ReducePair, spec_l10Pair_eq, h]
      have nxx : ∀ r : Int → Int → Option α, impl_NormOf k x y r = spec_NormOf k x y r := fun r => by rw [nx.1, nx.2]
      obtain ⟨nv, nc, hn⟩ : ∃ nv nc, ∀ r : Int → Int → Option α, spec_NormOf k x y r = r nv nc := by
        cases hc : (crd x && crd y) with
        | true => exact ⟨_, _, fun r => by rw [nx.2, hc, cond_true]⟩
        | false => exact ⟨_, _, fun r => by rw [nx.2, hc, cond_false]⟩
      have hz : decide (pairCode a b c d = 0) = false := decide_eq_false h
      simp only [e1', e1'', e2, e3, hi, hsp, f1, f2, s1, s2, nxx, hn, hz, laws_points9_0N_1N]
      simp

end Go.Sh
