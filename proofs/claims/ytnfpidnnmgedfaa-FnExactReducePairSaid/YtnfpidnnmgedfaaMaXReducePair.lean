/- Plain laws: what the readings without memory answer. -/
import Derived.Test.YtnfpidnnmgedfaaShXReducePair
namespace Go.Sh
open Go Go.Ev

variable {α : Type}

theorem spec_l01In_eq (k : Nat) (n low high : Int) (r : Bool → Option α) : spec_l01In k n low high r = r (inB n low high) := by
  unfold spec_l01In inB
  cases decide (low ≤ n) <;> rfl

theorem spec_l01Fits_eq (k : Nat) (n : Int) (r : Bool → Option α) : spec_l01Fits k n r = r (crd n) := by
  simp only [spec_l01Fits, spec_l01In_eq]; rfl

theorem spec_l01Is_eq (k : Nat) (a b : Int) (r : Bool → Option α) : spec_l01Is k a b r = r (crd a && crd b) := by
  simp only [spec_l01Is, spec_l01Fits_eq]
  cases crd a <;> rfl

theorem impl_in_eq (k : Nat) (n low high : Int) (r : Bool → Option α) : impl_in k n low high r = r (inB n low high) := by
  unfold impl_in inB
  cases decide (low ≤ n) <;> rfl

theorem impl_isCoord_eq (k : Nat) (n : Int) (r : Bool → Option α) : impl_isCoord k n r = r (crd n) := by
  simp only [impl_isCoord, impl_in_eq]; rfl

theorem impl_IsPoint_eq (k : Nat) (a b : Int) (r : Bool → Option α) : impl_IsPoint k a b r = r (crd a && crd b) := by
  simp only [impl_IsPoint, impl_isCoord_eq]
  cases crd a <;> rfl

theorem impl_points_find (k : Nat) (s : List (Int × Int)) (hs : s.length ≤ big) (hk : s.length < k) (r : Bool → Option α) : impl_points k s r = r (s.all fun e => crd e.1 && crd e.2) := by
  unfold impl_points slices_ContainsFunc_impl_Point_impl_Point_1F_impl_points_1 slices_IndexFunc_impl_Point_impl_Point_1F_impl_points_1
  have h := find_loop (α := α) (p := fun e : Int × Int => !(crd e.1 && crd e.2)) (L := slices_IndexFunc_impl_Point_impl_Point_1F_impl_points_1_l2)
    (fun k x i s b r => by simp only [slices_IndexFunc_impl_Point_impl_Point_1F_impl_points_1_l2, impl_points_1, impl_IsPoint_eq]) s k 0 s
  have h0 : ((0 : Nat) : Int) = 0 := rfl
  rw [h0] at h
  rw [h _ _ (by simp) hs (by omega) hk]
  cases hf : s.findIdx? (fun e : Int × Int => !(crd e.1 && crd e.2)) with
  | none =>
    rw [List.findIdx?_eq_none_iff] at hf
    have : (s.all fun e => crd e.1 && crd e.2) = true := List.all_eq_true.2 fun e he => by simpa using hf e he
    simp [this]
  | some j =>
    rw [List.findIdx?_eq_some_iff_getElem] at hf
    obtain ⟨hj, hp, _⟩ := hf
    have : (s.all fun e => crd e.1 && crd e.2) = false := by
      rw [List.all_eq_false]
      exact ⟨s[j], List.getElem_mem hj, by cases h1 : crd s[j].1 <;> cases h2 : crd s[j].2 <;> simp_all⟩
    rw [this]
    simp

theorem impl_points2 (k : Nat) (hk : 3 ≤ k) (a b c d : Int) (r : Bool → Option α) : impl_points k [(a, b), (c, d)] r = r (crd a && crd b && (crd c && crd d)) := by
  rw [impl_points_find _ _ (by rw [big_val]; simp) (by simp; omega)]
  simp

theorem impl_floor_eq (k : Nat) (a b : Int) (r : Int → Option α) (hb : 0 < b) (ha : -1000000000000000000 ≤ a) (ha2 : a ≤ 1000000000000000000) : impl_floor k a b r = r (a / b) := by
  have hq := tdiv_abs a b
  simp only [impl_floor, dec_eq_f (show b ≠ 0 by omega), cond_false, w64_of (n := Int.tdiv a b) (by omega) (by omega), w64_of (n := Int.tdiv a b - 1) (by omega) (by omega)]
  rw [← tdiv_floor a b hb]
  cases (!decide (Int.tmod a b = 0)) <;> cases (!(decide (a < 0) == decide (b < 0))) <;> rfl

theorem spec_l01Floor_eq (k : Nat) (a b : Int) (r : Int → Option α) (hb : 0 < b) (ha : -1000000000000000000 ≤ a) (ha2 : a ≤ 1000000000000000000) : spec_l01Floor k a b r = r (a / b) := by
  have hq := tdiv_abs a b
  simp only [spec_l01Floor, dec_eq_f (show b ≠ 0 by omega), cond_false, w64_of (n := Int.tdiv a b) (by omega) (by omega), w64_of (n := Int.tdiv a b - 1) (by omega) (by omega)]
  rw [← tdiv_floor a b hb]
  cases (!decide (Int.tmod a b = 0)) <;> cases (!(decide (a < 0) == decide (b < 0))) <;> rfl

theorem impl_size_eq (k : Nat) (n : Int) (r : Int → Option α) (h0 : -1000000000000000000 ≤ n) (h1 : n ≤ 1000000000000000000) : impl_size k n r = r (max n (-n)) := by
  simp only [impl_size]
  rw [w64_of (by omega) (by omega), Int.zero_sub]

theorem set_mid {β : Type} (pre : List β) (x y : β) (rest : List β) : (pre ++ x :: rest).set pre.length y = pre ++ [y] ++ rest := by
  rw [List.set_append_right _ _ (Nat.le_refl _)]
  simp

/-- The same for points. -/
def markedP : Nat → Int → List (Int × Int)
  | 0, _ => []
  | n + 1, m => (m, m + 1) :: markedP n (m + 2)

theorem markedP_length : ∀ (n : Nat) (m : Int), (markedP n m).length = n
  | 0, _ => rfl
  | n + 1, m => by simp [markedP, markedP_length n]

theorem laws_eqPoint_eq (k : Nat) (a b c d : Int) (r : Bool → Option α) : laws_eqPoint k a b c d r = r (decide (a = c) && decide (b = d)) := by
  unfold laws_eqPoint
  cases decide (a = c) <;> cases decide (b = d) <;> rfl

theorem eqPointS_l4_same : ∀ (rest : List (Int × Int)) (k i : Nat) (s : List (Int × Int)) b (r : Bool → Option α), s.drop i = rest → s.length ≤ big → i ≤ s.length → rest.length < k → laws_eqPointS_l4 k i s s b r = b s.length s s
  | [], k + 1, i, s, b, r, hd, hb, hi, _ => by
    have h1 := drop_nil hd
    have h2 : i = s.length := by omega
    subst h2
    rw [laws_eqPointS_l4, dec_lt_f (by omega)]
    rfl
  | e :: rest, k + 1, i, s, b, r, hd, hb, hi, hk => by
    obtain ⟨h1, h2, h3⟩ := drop_cons hd
    rw [big_val] at hb
    rw [laws_eqPointS_l4, dec_lt_t (by omega), dec_le_t (by omega), cond_true, Bool.and_true, cond_true, Int.toNat_natCast, h1, Option.bind_some, cond_true]
    have e1 : w64 ((i : Int) + 1) = ((i + 1 : Nat) : Int) := by rw [w64_of (by omega) (by omega)]; omega
    simp only [Option.bind_some, laws_eqPoint_eq, decide_true, Bool.and_true, Bool.not_true, cond_false, e1]
    exact eqPointS_l4_same rest k (i + 1) s b r h2 (by rw [big_val]; omega) (by omega) (by simp at hk; omega)
  | _, 0, _, _, _, _, _, _, _, hk => by omega

theorem eqPointS_same (k : Nat) (s : List (Int × Int)) (r : Bool → Option α) (hs : s.length ≤ big) (hk : s.length < k) : laws_eqPointS k s s r = r true := by
  unfold laws_eqPointS
  have h := eqPointS_l4_same (α := α) s k 0 s (fun _ _ _ => r true) r (by simp) hs (by omega) hk
  simpa using h

theorem markPointS_l2_ok : ∀ (rest : List (Int × Int)) (k : Nat) (pre : List (Int × Int)) (m : Int) b (r : Int → List (Int × Int) → Option α), pre.length + rest.length ≤ big → 0 ≤ m → m + 2 * rest.length ≤ 1000000000000000 → rest.length < k →
    laws_markPointS_l2 k m pre.length (pre ++ rest) b r = b (m + 2 * rest.length) (pre.length + rest.length : Nat) (pre ++ markedP rest.length m)
  | [], k + 1, pre, m, b, r, hb, h0, hm, _ => by
    rw [laws_markPointS_l2, dec_lt_f (by simp)]
    simp [markedP]
  | e :: rest, k + 1, pre, m, b, r, hb, h0, hm, hk => by
    rw [big_val] at hb
    simp only [List.length_cons] at hb hk hm
    have hl : (pre ++ e :: rest).length = pre.length + (rest.length + 1) := by simp
    have e1 : w64 ((pre.length : Int) + 1) = ((pre ++ [(m, m + 1)]).length : Int) := by rw [w64_of (by omega) (by omega)]; simp
    have e2 : w64 (m + 1) = m + 1 := w64_of (by omega) (by omega)
    have e3 : w64 (m + 1 + 1) = m + 2 := by rw [w64_of (by omega) (by omega)]; omega
    have hg : (pre ++ e :: rest)[pre.length]? = some e := by simp
    have hg2 : ((pre ++ e :: rest).set pre.length (m, e.2))[pre.length]? = some (m, e.2) := by rw [set_mid]; simp
    have hs2 : ((pre ++ e :: rest).set pre.length (m, e.2)).set pre.length (m, m + 1) = (pre ++ [(m, m + 1)]) ++ rest := by
      rw [List.set_set, set_mid]
    rw [laws_markPointS_l2, hl, dec_lt_t (by omega), dec_le_t (by omega), cond_true, Bool.and_true, cond_true, Int.toNat_natCast, hg, Option.bind_some, List.length_set, hl, dec_lt_t (by omega), Bool.and_self, cond_true, hg2, Option.bind_some, e2, hs2, e1, e3]
    rw [markPointS_l2_ok rest k (pre ++ [(m, m + 1)]) (m + 2) b r (by rw [big_val]; simp; omega) (by omega) (by omega) (by omega)]
    simp only [markedP, List.append_assoc, List.singleton_append, List.length_cons, List.length_append, List.length_nil]
    congr 1
    · omega
    · omega
  | _, 0, _, _, _, _, _, _, _, hk => by omega

theorem markPointS_ok (k : Nat) (s : List (Int × Int)) (m : Int) (r : Int → List (Int × Int) → Option α) (hs : s.length ≤ big) (h0 : 0 ≤ m) (hm : m + 2 * s.length ≤ 1000000000000000) (hk : s.length < k) : laws_markPointS k s m r = r (m + 2 * s.length) (markedP s.length m) := by
  unfold laws_markPointS
  have h := markPointS_l2_ok (α := α) s k [] m (fun a _ c => r a c) r (by simpa using hs) h0 hm hk
  simpa using h

theorem heldPointS_l2_ok : ∀ (n : Nat) (k : Nat) (pre : List (Int × Int)) (m : Int) b (r : Int → Option α), pre.length + n ≤ big → 0 ≤ m → m + 2 * n ≤ 1000000000000000 → n < k →
    laws_heldPointS_l2 k m pre.length (pre ++ markedP n m) b r = b (m + 2 * n) (pre.length + n : Nat) (pre ++ markedP n m)
  | 0, k + 1, pre, m, b, r, hb, h0, hm, _ => by
    rw [laws_heldPointS_l2, dec_lt_f (by simp [markedP])]
    simp [markedP]
  | n + 1, k + 1, pre, m, b, r, hb, h0, hm, hk => by
    rw [big_val] at hb
    have hl : (pre ++ markedP (n + 1) m).length = pre.length + (n + 1) := by simp [markedP_length]
    have e1 : w64 ((pre.length : Int) + 1) = ((pre ++ [(m, m + 1)]).length : Int) := by rw [w64_of (by omega) (by omega)]; simp
    have e2 : w64 (m + 1) = m + 1 := w64_of (by omega) (by omega)
    have e3 : w64 (m + 1 + 1) = m + 2 := by rw [w64_of (by omega) (by omega)]; omega
    have hg : (pre ++ markedP (n + 1) m)[pre.length]? = some (m, m + 1) := by simp [markedP]
    have ha : pre ++ markedP (n + 1) m = (pre ++ [(m, m + 1)]) ++ markedP n (m + 2) := by simp [markedP]
    rw [laws_heldPointS_l2, hl, dec_lt_t (by omega), dec_le_t (by omega), cond_true, Bool.and_true, cond_true, Int.toNat_natCast, hg, Option.bind_some]
    simp only [decide_true, Bool.not_true, cond_false, cond_true, Option.bind_some, e2, e3, e1]
    rw [ha, heldPointS_l2_ok n k (pre ++ [(m, m + 1)]) (m + 2) b r (by rw [big_val]; simp; omega) (by omega) (by omega) (by omega)]
    congr 1
    · omega
    · simp; omega
  | _, 0, _, _, _, _, _, _, _, hk => by omega

theorem heldPointS_ok (k n : Nat) (m : Int) (r : Int → Option α) (hs : n ≤ big) (h0 : 0 ≤ m) (hm : m + 2 * n ≤ 1000000000000000) (hk : n < k) : laws_heldPointS k (markedP n m) m r = r (m + 2 * n) := by
  unfold laws_heldPointS
  have h := heldPointS_l2_ok (α := α) n k [] m (fun a _ _ => r a) r (by simpa using hs) h0 hm hk
  simpa using h

/-- The code of a pair. -/
def pairCode (a b c d : Int) : Int := bif crd a && crd b && (crd c && crd d) then (bif decide (w64 (w64 (a * d) - w64 (b * c)) = 0) then 5 else 0) else 1

theorem spec_l10Pair_eq (k : Nat) (a b c d : Int) (r : Int → Option α) : spec_l10Pair k a b c d r = r (pairCode a b c d) := by
  simp only [spec_l10Pair, spec_l01Is_eq, spec_l01Det, pairCode]
  cases (crd a && crd b) <;> cases (crd c && crd d) <;> cases decide (w64 (w64 (a * d) - w64 (b * c)) = 0) <;> rfl

theorem impl_pairFault_eq (k : Nat) (hk : 3 ≤ k) (a b c d : Int) (r : Int → Option α) : impl_pairFault k a b c d r = r (pairCode a b c d) := by
  simp only [impl_pairFault, impl_points2 k hk, impl_det, pairCode]
  cases (crd a && crd b) <;> cases (crd c && crd d) <;> cases decide (w64 (w64 (a * d) - w64 (b * c)) = 0) <;> rfl

/-- The sum of the products of two points' numbers. -/
def dotP (a b c d : Int) : Int := a * c + b * d

def detP (a b c d : Int) : Int := a * d - b * c

/-- Within the bounds of reduced pairs. -/
def near2 (a : Int) : Prop := -1414214 ≤ a ∧ a ≤ 1414214

theorem near2_of {a b : Int} (h : dotP a b a b ≤ 2000000000000) : near2 a ∧ near2 b := by
  unfold dotP at h
  have h1 := sq_nn a
  have h2 := sq_nn b
  have key : ∀ x : Int, x * x ≤ 2000000000000 → near2 x := fun x hx => by
    have e : ∀ y : Int, 0 ≤ y → y * y = x * x → y ≤ 1414214 := fun y hy he => by
      rcases ilt_or_ge 1414214 y with h3 | h3
      · have := Int.mul_le_mul (a := 1414215) (b := 1414215) (c := y) (d := y) (by omega) (by omega) (by omega) (by omega)
        omega
      · exact h3
    rcases Int.le_total 0 x with hx0 | hx0
    · have := e x hx0 rfl
      exact ⟨by omega, by omega⟩
    · have := e (-x) (by omega) (Int.neg_mul_neg x x)
      exact ⟨by omega, by omega⟩
  exact ⟨key a (by omega), key b (by omega)⟩

theorem dot_w {a b c d : Int} (ha : near2 a) (hb : near2 b) (hc : near2 c) (hd : near2 d) : w64 (w64 (a * c) + w64 (b * d)) = dotP a b c d ∧ -4000003557796 ≤ dotP a b c d ∧ dotP a b c d ≤ 4000003557796 := by
  have h1 := mul_bound ha.1 ha.2 hc.1 hc.2
  have h2 := mul_bound hb.1 hb.2 hd.1 hd.2
  unfold dotP
  rw [w64_of (n := a * c) (by omega) (by omega), w64_of (n := b * d) (by omega) (by omega), w64_of (by omega) (by omega)]
  exact ⟨rfl, by omega, by omega⟩

def redP (a b c d : Int) : Bool := decide (dotP a b a b ≤ dotP c d c d) && decide (2 * max (dotP a b c d) (-(dotP a b c d)) ≤ dotP a b a b)

theorem spec_l10Reduced_eq {a b c d : Int} (ha : near2 a) (hb : near2 b) (hc : near2 c) (hd : near2 d) (k : Nat) (r : Bool → Option α) : spec_l10Reduced k a b c d r = r (redP a b c d) := by
  obtain ⟨e1, b1, b2⟩ := dot_w ha hb hc hd
  obtain ⟨e2, b3, b4⟩ := dot_w ha hb ha hb
  obtain ⟨e3, b5, b6⟩ := dot_w hc hd hc hd
  simp only [spec_l10Reduced, spec_l10Dot, e1, e2, e3, redP]
  rw [w64_of (n := 2 * dotP a b c d) (by omega) (by omega), w64_of (n := 0 - 2 * dotP a b c d) (by omega) (by omega)]
  have e : max (2 * dotP a b c d) (0 - 2 * dotP a b c d) = 2 * max (dotP a b c d) (-(dotP a b c d)) := by omega
  rw [e]
  cases decide (dotP a b a b ≤ dotP c d c d) <;> rfl

theorem impl_isReduced_eq {a b c d : Int} (ha : near2 a) (hb : near2 b) (hc : near2 c) (hd : near2 d) (k : Nat) (r : Bool → Option α) : impl_isReduced k a b c d r = r (redP a b c d) := by
  obtain ⟨e1, b1, b2⟩ := dot_w ha hb hc hd
  obtain ⟨e2, b3, b4⟩ := dot_w ha hb ha hb
  obtain ⟨e3, b5, b6⟩ := dot_w hc hd hc hd
  simp only [impl_isReduced, impl_Point_norm, impl_dot, e1, e2, e3, redP, impl_size_eq k (dotP a b c d) _ (by omega) (by omega)]
  rw [w64_of (n := 2 * max (dotP a b c d) (-(dotP a b c d))) (by omega) (by omega)]
  cases decide (dotP a b a b ≤ dotP c d c d) <;> rfl

theorem pairCode_zero {a b c d : Int} (h : pairCode a b c d = 0) : (crd a = true ∧ crd b = true) ∧ (crd c = true ∧ crd d = true) ∧ detP a b c d ≠ 0 := by
  unfold pairCode at h
  cases hp : (crd a && crd b && (crd c && crd d)) with
  | false => simp [hp] at h
  | true =>
    rw [hp, cond_true] at h
    simp only [Bool.and_eq_true] at hp
    refine ⟨hp.1, hp.2, fun e => ?_⟩
    obtain ⟨⟨h1, h2⟩, h3, h4⟩ := hp
    rw [crd_iff] at h1 h2 h3 h4
    have m1 := mul_bound (A := 1000000) (B := 1000000) h1.1 h1.2 h4.1 h4.2
    have m2 := mul_bound (A := 1000000) (B := 1000000) h2.1 h2.2 h3.1 h3.2
    unfold detP at e
    rw [w64_of (n := a * d) (by omega) (by omega), w64_of (n := b * c) (by omega) (by omega), w64_of (by omega) (by omega), e] at h
    simp at h

/-- What a step takes away. -/
def stepQ (a b c d : Int) : Int := (2 * dotP a b c d + dotP a b a b) / (2 * dotP a b a b)

theorem norm_nonneg (a b : Int) : 0 ≤ dotP a b a b := by
  have h1 := sq_nn a
  have h2 := sq_nn b
  unfold dotP
  omega

theorem norm_pos {a b c d : Int} (h : detP a b c d ≠ 0) : 0 < dotP a b a b := by
  have h1 := sq_nn a
  have h2 := sq_nn b
  unfold dotP
  rcases ilt_or_ge 0 (a * a + b * b) with h3 | h3
  · exact h3
  · exfalso
    have ha : a * a = 0 := by omega
    have hb : b * b = 0 := by omega
    have ha : a = 0 := (Int.mul_eq_zero.1 ha).elim id id
    have hb : b = 0 := (Int.mul_eq_zero.1 hb).elim id id
    exact h (by simp [detP, ha, hb])

theorem step_less {a b c d : Int} (hd : detP a b c d ≠ 0) (hr : redP a b c d = false) (hn : ¬ dotP c d c d < dotP a b a b) :
    dotP (c - stepQ a b c d * a) (d - stepQ a b c d * b) (c - stepQ a b c d * a) (d - stepQ a b c d * b) < dotP c d c d := by
  have hp := norm_pos hd
  have hgt : dotP a b a b < 2 * max (dotP a b c d) (-(dotP a b c d)) := by
    unfold redP at hr
    rw [decide_eq_true (by omega), Bool.true_and, decide_eq_false_iff_not] at hr
    omega
  have e : dotP (c - stepQ a b c d * a) (d - stepQ a b c d * b) (c - stepQ a b c d * a) (d - stepQ a b c d * b) = dotP c d c d - stepQ a b c d * (2 * dotP a b c d - stepQ a b c d * dotP a b a b) := by
    unfold dotP
    generalize stepQ a b c d = q
    grind
  have hq := ediv_bounds (a := 2 * dotP a b c d + dotP a b a b) (b := 2 * dotP a b a b) (by omega)
  have key : 0 < stepQ a b c d * (2 * dotP a b c d - stepQ a b c d * dotP a b a b) := by
    unfold stepQ
    generalize hQ : (2 * dotP a b c d + dotP a b a b) / (2 * dotP a b a b) = q at hq ⊢
    generalize dotP a b a b = n at *
    generalize dotP a b c d = t at *
    have e1 : 2 * n * q = q * n + q * n := by grind
    rw [e1] at hq
    rcases Int.lt_trichotomy q 0 with h | h | h
    · have h2 : 2 * t - q * n < 0 := by
        rcases ilt_or_ge q (-1) with h3 | h3
        · have : (q + 2) * n ≤ 0 := by
            have := Int.mul_nonneg (a := -(q + 2)) (b := n) (by omega) (by omega)
            rw [Int.neg_mul] at this
            omega
          rw [Int.add_mul] at this
          omega
        · have : q = -1 := by omega
          subst this
          omega
      have := Int.mul_pos (a := -q) (b := -(2 * t - q * n)) (by omega) (by omega)
      rw [Int.neg_mul_neg] at this
      exact this
    · subst h
      omega
    · have h2 : 0 < 2 * t - q * n := by
        rcases ilt_or_ge 1 q with h3 | h3
        · have : 0 ≤ (q - 2) * n := Int.mul_nonneg (by omega) (by omega)
          rw [Int.sub_mul] at this
          omega
        · have : q = 1 := by omega
          subst this
          omega
      exact Int.mul_pos h h2
  omega

theorem redP_near {a b c d : Int} (h1 : dotP a b a b ≤ 2000000000000) (h2 : dotP c d c d ≤ 2000000000000) : near2 a ∧ near2 b ∧ near2 c ∧ near2 d := ⟨(near2_of h1).1, (near2_of h1).2, (near2_of h2).1, (near2_of h2).2⟩

/-- What both reductions come to. -/
structure Redd (a b c d a' b' c' d' : Int) : Prop where
  red : redP a' b' c' d' = true
  n1 : dotP a' b' a' b' ≤ dotP a b a b
  n2 : dotP a' b' a' b' ≤ dotP c d c d
  n3 : dotP a' b' a' b' ≤ 2000000000000
  n4 : dotP c' d' c' d' ≤ 2000000000000
  det : detP a' b' c' d' = detP a b c d ∨ detP a' b' c' d' = -(detP a b c d)

theorem redP_le {a b c d : Int} (h : redP a b c d = true) : dotP a b a b ≤ dotP c d c d := by
  unfold redP at h
  simp only [Bool.and_eq_true, decide_eq_true_eq] at h
  exact h.1

theorem reduce_both : ∀ (m : Nat) (a b c d : Int), dotP a b a b ≤ 2000000000000 → dotP c d c d ≤ 2000000000000 → detP a b c d ≠ 0 → 2 * (dotP a b a b + dotP c d c d) + (if dotP c d c d < dotP a b a b then 1 else 0) ≤ m →
    ∃ a' b' c' d', Redd a b c d a' b' c' d' ∧ (∀ k, m < k → ∀ x x1 x2 x3 b0 (r0 : Int → Int → Int → Int → Option α), spec_l10Reduce_l1 k a b c d x x1 x2 x3 b0 r0 = b0 a' b' c' d' x x1 x2 x3) ∧
      (∀ k, m < k → ∀ b0 (r0 : Int → Option α) r1, impl_ReducePair_l4 k a b c d b0 r0 r1 = b0 a' b' c' d')
  | m, a, b, c, d, h1, h2, hd, hm => by
    obtain ⟨na, nb, nc, nd⟩ := redP_near h1 h2
    have hp := norm_pos hd
    have hq := norm_nonneg c d
    cases hr : redP a b c d with
    | true =>
      refine ⟨a, b, c, d, ⟨hr, by omega, redP_le hr, h1, h2, .inl rfl⟩, fun k hk x x1 x2 x3 b0 r0 => ?_, fun k hk b0 r0 r1 => ?_⟩
      · cases k with
        | zero => omega
        | succ k => simp [spec_l10Reduce_l1, spec_l10Reduced_eq na nb nc nd, hr]
      · cases k with
        | zero => omega
        | succ k => simp [impl_ReducePair_l4, impl_isReduced_eq na nb nc nd, hr]
    | false =>
      obtain ⟨e2, b3, b4⟩ := dot_w na nb na nb
      obtain ⟨e3, b5, b6⟩ := dot_w nc nd nc nd
      obtain ⟨e1, b1, b2⟩ := dot_w na nb nc nd
      by_cases hn : dotP c d c d < dotP a b a b
      · cases m with
        | zero => simp only [hn, if_true] at hm; omega
        | succ m =>
          have hd' : detP c d a b = -(detP a b c d) := by unfold detP; grind
          obtain ⟨a', b', c', d', hR, hs, hi⟩ := reduce_both m c d a b h2 h1 (by omega) (by
            simp only [hn, if_true] at hm
            rw [if_neg (by omega)]
            omega)
          refine ⟨a', b', c', d', ⟨hR.red, hR.n2, hR.n1, hR.n3, hR.n4, by have := hR.det; omega⟩, fun k hk x x1 x2 x3 b0 r0 => ?_, fun k hk b0 r0 r1 => ?_⟩
          · cases k with
            | zero => omega
            | succ k =>
              simp only [spec_l10Reduce_l1, spec_l10Reduced_eq na nb nc nd, hr, Bool.not_false, cond_true, spec_l10Dot, e2, e3, dec_lt_t hn]
              exact hs k (by omega) _ _ _ _ _ _
          · cases k with
            | zero => omega
            | succ k =>
              simp only [impl_ReducePair_l4, impl_isReduced_eq na nb nc nd, hr, Bool.not_false, cond_true, impl_Point_norm, impl_dot, e2, e3, dec_lt_t hn]
              exact hi k (by omega) _ _ _
      · cases m with
        | zero => rw [if_neg hn] at hm; omega
        | succ m =>
          have hless := step_less hd hr hn
          have hfl := ediv_bounds (a := 2 * dotP a b c d + dotP a b a b) (b := 2 * dotP a b a b) (by omega)
          have hqb : -9000000000000 ≤ stepQ a b c d ∧ stepQ a b c d ≤ 9000000000000 := by
            unfold stepQ
            generalize (2 * dotP a b c d + dotP a b a b) / (2 * dotP a b a b) = q at hfl ⊢
            generalize dotP a b a b = n at *
            generalize dotP a b c d = t at *
            constructor
            · rcases ilt_or_ge q (-9000000000000) with h3 | h3
              · have := mul_le_l (2 * n) (a := q + 1) (b := -9000000000000 + 1) (by omega) (by omega)
                rw [Int.mul_add] at this
                omega
              · exact h3
            · rcases ilt_or_ge 9000000000000 q with h3 | h3
              · have := mul_le_l (2 * n) (a := 9000000000000) (b := q) (by omega) (by omega)
                omega
              · exact h3
          have hfw : (2 * dotP a b c d + dotP a b a b) / (2 * dotP a b a b) = stepQ a b c d := rfl
          generalize hQ : stepQ a b c d = q at hless hqb hfw
          obtain ⟨_, _, nc', nd'⟩ := redP_near (a := a) (b := b) h1 (by omega : dotP (c - q * a) (d - q * b) (c - q * a) (d - q * b) ≤ 2000000000000)
          have hd' : detP a b (c - q * a) (d - q * b) = detP a b c d := by unfold detP; grind
          obtain ⟨a', b', c', d', hR, hs, hi⟩ := reduce_both m a b (c - q * a) (d - q * b) h1 (by omega) (by omega) (by
            rw [if_neg hn] at hm
            split <;> omega)
          have w1 : w64 (c + w64 (w64 (0 - q) * a)) = c - q * a := by
            rw [w64_of (n := 0 - q) (by omega) (by omega)]
            have e : (0 - q) * a = -(q * a) := by rw [Int.zero_sub, Int.neg_mul]
            obtain ⟨p1, p2⟩ := nc
            obtain ⟨p3, p4⟩ := nc'
            rw [e, w64_of (n := -(q * a)) (by omega) (by omega), w64_of (by omega) (by omega)]
            omega
          have w2 : w64 (d + w64 (w64 (0 - q) * b)) = d - q * b := by
            rw [w64_of (n := 0 - q) (by omega) (by omega)]
            have e : (0 - q) * b = -(q * b) := by rw [Int.zero_sub, Int.neg_mul]
            obtain ⟨p1, p2⟩ := nd
            obtain ⟨p3, p4⟩ := nd'
            rw [e, w64_of (n := -(q * b)) (by omega) (by omega), w64_of (by omega) (by omega)]
            omega
          have w3 : w64 (2 * dotP a b c d) = 2 * dotP a b c d := w64_of (by omega) (by omega)
          have w4 : w64 (2 * dotP a b c d + dotP a b a b) = 2 * dotP a b c d + dotP a b a b := w64_of (by omega) (by omega)
          have w5 : w64 (2 * dotP a b a b) = 2 * dotP a b a b := w64_of (by omega) (by omega)
          refine ⟨a', b', c', d', ⟨hR.red, hR.n1, by have := hR.n2; omega, hR.n3, hR.n4, by have := hR.det; omega⟩, fun k hk x x1 x2 x3 b0 r0 => ?_, fun k hk b0 r0 r1 => ?_⟩
          · cases k with
            | zero => omega
            | succ k =>
              simp only [spec_l10Reduce_l1, spec_l10Reduced_eq na nb nc nd, hr, Bool.not_false, cond_true, spec_l10Dot, e1, e2, e3, dec_lt_f (show dotP a b a b ≤ dotP c d c d by omega), cond_false, w3, w4, w5, spec_l01Plus]
              rw [spec_l01Floor_eq _ _ _ _ (by omega) (by omega) (by omega), hfw, w1, w2]
              exact hs k (by omega) _ _ _ _ _ _
          · cases k with
            | zero => omega
            | succ k =>
              simp only [impl_ReducePair_l4, impl_isReduced_eq na nb nc nd, hr, Bool.not_false, cond_true, impl_Point_norm, impl_dot, e1, e2, e3, dec_lt_f (show dotP a b a b ≤ dotP c d c d by omega), cond_false, w3, w4, w5, impl_Point_plus]
              rw [impl_floor_eq _ _ _ _ (by omega) (by omega) (by omega), hfw, w1, w2]
              exact hi k (by omega) _ _ _

theorem crd_norm {a b : Int} (ha : crd a = true) (hb : crd b = true) : dotP a b a b ≤ 2000000000000 := by
  rw [crd_iff] at ha hb
  have h1 := mul_bound (A := 1000000) (B := 1000000) ha.1 ha.2 ha.1 ha.2
  have h2 := mul_bound (A := 1000000) (B := 1000000) hb.1 hb.2 hb.1 hb.2
  unfold dotP
  omega

/-- Both reductions of a pair. -/
theorem pair_reduces {a b c d : Int} (h : pairCode a b c d = 0) : ∃ a' b' c' d', Redd a b c d a' b' c' d' ∧ (∀ k, 8000000000001 < k → ∀ r : Int → Int → Int → Int → Option α, spec_l10Reduce k a b c d r = r a' b' c' d') ∧
    (∀ k, 8000000000001 < k → ∀ (r0 : Int → Option α) r1, impl_ReducePair k a b c d r0 r1 = r1 [(a', b'), (c', d')] 0) := by
  obtain ⟨⟨h1, h2⟩, ⟨h3, h4⟩, hd⟩ := pairCode_zero h
  have n1 := crd_norm h1 h2
  have n2 := crd_norm h3 h4
  obtain ⟨a', b', c', d', hR, hs, hi⟩ := reduce_both (α := α) 8000000000001 a b c d n1 n2 hd (by split <;> omega)
  refine ⟨a', b', c', d', hR, fun k hk r => ?_, fun k hk r0 r1 => ?_⟩
  · unfold spec_l10Reduce
    exact hs k hk _ _ _ _ _ _
  · unfold impl_ReducePair
    rw [impl_pairFault_eq k (by omega), h]
    exact hi k hk _ _ _

theorem law_ReducePair (k : Nat) (hk : 8000000000001 < k) (a b c d : Int) (r : Bool → Option α) : laws_FnExactReducePair k a b c d r = r true := by
  simp only [laws_FnExactReducePair, laws_toPoint, spec_ReducePair, spec_l10Pair_eq]
  by_cases h : pairCode a b c d = 0
  · obtain ⟨a', b', c', d', hR, hs, hi⟩ := pair_reduces (α := α) h
    simp only [h, hs k hk, hi k hk, decide_true, Bool.not_true, cond_false]
    have hb : ([(a', b'), (c', d')] : List (Int × Int)).length ≤ big := by rw [big_val]; simp
    rw [eqPointS_same k _ _ hb (by simp; omega), markPointS_ok k _ 1 _ hb (by omega) (by simp) (by simp; omega), heldPointS_ok k _ 1 _ hb (by omega) (by simp) (by simp; omega), eqPointS_same k _ _ hb (by simp; omega), heldPointS_ok k _ 1 _ hb (by omega) (by simp) (by simp; omega)]
    simp
  · simp [h, impl_ReducePair, impl_pairFault_eq k (show 3 ≤ k by omega), laws_eqPointS_0N_1N, laws_markPointS_0N, laws_heldPointS_0N]

end Go.Sh
