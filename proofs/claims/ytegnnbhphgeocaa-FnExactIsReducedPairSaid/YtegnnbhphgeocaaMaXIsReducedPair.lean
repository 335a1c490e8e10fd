/- Plain laws: what the readings without memory answer. -/
import Derived.Test.YtegnnbhphgeocaaShXIsReducedPair
namespace Go.Sh
open Go Go.Ev

variable {α : Type}

theorem spec_l01In_eq (k : Nat) (n low high : Int) (r : Bool → Option α) : spec_l01In k n low high r = r (inB n low high) := by
  unfold spec_l01In inB
  cases decide (low ≤ n) <;> rfl

theorem spec_l01Fits_eq (k : Nat) (n : Int) (r : Bool → Option α) : spec_l01Fits k n r = r (crd n) := by
  simp only [spec_l01Fits, spec_l01In_eq]; rfl

theorem spec_l01Is_eq (k : Nat) (a b : Int) (r : Bool → Option α) : spec_l01Is k a b r = r (crd a && crd b) := by
  simp only [spec_l01Is, spec_l01Fits_eq]
  cases crd a <;> rfl

theorem impl_in_eq (k : Nat) (n low high : Int) (r : Bool → Option α) : impl_in k n low high r = r (inB n low high) := by
  unfold impl_in inB
  cases decide (low ≤ n) <;> rfl

theorem impl_isCoord_eq (k : Nat) (n : Int) (r : Bool → Option α) : impl_isCoord k n r = r (crd n) := by
  simp only [impl_isCoord, impl_in_eq]; rfl

theorem impl_IsPoint_eq (k : Nat) (a b : Int) (r : Bool → Option α) : impl_IsPoint k a b r = r (crd a && crd b) := by
  simp only [impl_IsPoint, impl_isCoord_eq]
  cases crd a <;> rfl

theorem impl_points_find (k : Nat) (s : List (Int × Int)) (hs : s.length ≤ big) (hk : s.length < k) (r : Bool → Option α) : impl_points k s r = r (s.all fun e => crd e.1 && crd e.2) := by
  unfold impl_points slices_ContainsFunc_impl_Point_impl_Point_1F_impl_points_1 slices_IndexFunc_impl_Point_impl_Point_1F_impl_points_1
  have h := find_loop (α := α) (p := fun e : Int × Int => !(crd e.1 && crd e.2)) (L := slices_IndexFunc_impl_Point_impl_Point_1F_impl_points_1_l2)
    (fun k x i s b r => by simp only [slices_IndexFunc_impl_Point_impl_Point_1F_impl_points_1_l2, impl_points_1, impl_IsPoint_eq]) s k 0 s
  have h0 : ((0 : Nat) : Int) = 0 := rfl
  rw [h0] at h
  rw [h _ _ (by simp) hs (by omega) hk]
  cases hf : s.findIdx? (fun e : Int × Int => !(crd e.1 && crd e.2)) with
  | none =>
    rw [List.findIdx?_eq_none_iff] at hf
    have : (s.all fun e => crd e.1 && crd e.2) = true := List.all_eq_true.2 fun e he => by simpa using hf e he
    simp [this]
  | some j =>
    rw [List.findIdx?_eq_some_iff_getElem] at hf
    obtain ⟨hj, hp, _⟩ := hf
    have : (s.all fun e => crd e.1 && crd e.2) = false := by
      rw [List.all_eq_false]
      exact ⟨s[j], List.getElem_mem hj, by cases h1 : crd s[j].1 <;> cases h2 : crd s[j].2 <;> simp_all⟩
    rw [this]
    simp

theorem impl_points2 (k : Nat) (hk : 3 ≤ k) (a b c d : Int) (r : Bool → Option α) : impl_points k [(a, b), (c, d)] r = r (crd a && crd b && (crd c && crd d)) := by
  rw [impl_points_find _ _ (by rw [big_val]; simp) (by simp; omega)]
  simp

theorem impl_size_eq (k : Nat) (n : Int) (r : Int → Option α) (h0 : -1000000000000000000 ≤ n) (h1 : n ≤ 1000000000000000000) : impl_size k n r = r (max n (-n)) := by
  simp only [impl_size]
  rw [w64_of (by omega) (by omega), Int.zero_sub]

/-- The code of a pair. -/
def pairCode (a b c d : Int) : Int := bif crd a && crd b && (crd c && crd d) then (bif decide (w64 (w64 (a * d) - w64 (b * c)) = 0) then 5 else 0) else 1

theorem spec_l10Pair_eq (k : Nat) (a b c d : Int) (r : Int → Option α) : spec_l10Pair k a b c d r = r (pairCode a b c d) := by
  simp only [spec_l10Pair, spec_l01Is_eq, spec_l01Det, pairCode]
  cases (crd a && crd b) <;> cases (crd c && crd d) <;> cases decide (w64 (w64 (a * d) - w64 (b * c)) = 0) <;> rfl

theorem impl_pairFault_eq (k : Nat) (hk : 3 ≤ k) (a b c d : Int) (r : Int → Option α) : impl_pairFault k a b c d r = r (pairCode a b c d) := by
  simp only [impl_pairFault, impl_points2 k hk, impl_det, pairCode]
  cases (crd a && crd b) <;> cases (crd c && crd d) <;> cases decide (w64 (w64 (a * d) - w64 (b * c)) = 0) <;> rfl

/-- The sum of the products of two points' numbers. -/
def dotP (a b c d : Int) : Int := a * c + b * d

def detP (a b c d : Int) : Int := a * d - b * c

/-- Within the bounds of reduced pairs. -/
def near2 (a : Int) : Prop := -1414214 ≤ a ∧ a ≤ 1414214

theorem dot_w {a b c d : Int} (ha : near2 a) (hb : near2 b) (hc : near2 c) (hd : near2 d) : w64 (w64 (a * c) + w64 (b * d)) = dotP a b c d ∧ -4000003557796 ≤ dotP a b c d ∧ dotP a b c d ≤ 4000003557796 := by
  have h1 := mul_bound ha.1 ha.2 hc.1 hc.2
  have h2 := mul_bound hb.1 hb.2 hd.1 hd.2
  unfold dotP
  rw [w64_of (n := a * c) (by omega) (by omega), w64_of (n := b * d) (by omega) (by omega), w64_of (by omega) (by omega)]
  exact ⟨rfl, by omega, by omega⟩

def redP (a b c d : Int) : Bool := decide (dotP a b a b ≤ dotP c d c d) && decide (2 * max (dotP a b c d) (-(dotP a b c d)) ≤ dotP a b a b)

theorem spec_l10Reduced_eq {a b c d : Int} (ha : near2 a) (hb : near2 b) (hc : near2 c) (hd : near2 d) (k : Nat) (r : Bool → Option α) : spec_l10Reduced k a b c d r = r (redP a b c d) := by
  obtain ⟨e1, b1, b2⟩ := dot_w ha hb hc hd
  obtain ⟨e2, b3, b4⟩ := dot_w ha hb ha hb
  obtain ⟨e3, b5, b6⟩ := dot_w hc hd hc hd
  simp only [spec_l10Reduced, spec_l10Dot, e1, e2, e3, redP]
  rw [w64_of (n := 2 * dotP a b c d) (by omega) (by omega), w64_of (n := 0 - 2 * dotP a b c d) (by omega) (by omega)]
  have e : max (2 * dotP a b c d) (0 - 2 * dotP a b c d) = 2 * max (dotP a b c d) (-(dotP a b c d)) := by omega
  rw [e]
  cases decide (dotP a b a b ≤ dotP c d c d) <;> rfl

theorem impl_isReduced_eq {a b c d : Int} (ha : near2 a) (hb : near2 b) (hc : near2 c) (hd : near2 d) (k : Nat) (r : Bool → Option α) : impl_isReduced k a b c d r = r (redP a b c d) := by
  obtain ⟨e1, b1, b2⟩ := dot_w ha hb hc hd
  obtain ⟨e2, b3, b4⟩ := dot_w ha hb ha hb
  obtain ⟨e3, b5, b6⟩ := dot_w hc hd hc hd
  simp only [impl_isReduced, impl_Point_norm, impl_dot, e1, e2, e3, redP, impl_size_eq k (dotP a b c d) _ (by omega) (by omega)]
  rw [w64_of (n := 2 * max (dotP a b c d) (-(dotP a b c d))) (by omega) (by omega)]
  cases decide (dotP a b a b ≤ dotP c d c d) <;> rfl

theorem crd_near {a : Int} (h : crd a = true) : near2 a := by
  rw [crd_iff] at h
  exact ⟨by omega, by omega⟩

theorem pairCode_zero {a b c d : Int} (h : pairCode a b c d = 0) : (crd a = true ∧ crd b = true) ∧ (crd c = true ∧ crd d = true) ∧ detP a b c d ≠ 0 := by
  unfold pairCode at h
  cases hp : (crd a && crd b && (crd c && crd d)) with
  | false => simp [hp] at h
  | true =>
    rw [hp, cond_true] at h
    simp only [Bool.and_eq_true] at hp
    refine ⟨hp.1, hp.2, fun e => ?_⟩
    obtain ⟨⟨h1, h2⟩, h3, h4⟩ := hp
    rw [crd_iff] at h1 h2 h3 h4
    have m1 := mul_bound (A := 1000000) (B := 1000000) h1.1 h1.2 h4.1 h4.2
    have m2 := mul_bound (A := 1000000) (B := 1000000) h2.1 h2.2 h3.1 h3.2
    unfold detP at e
    rw [w64_of (n := a * d) (by omega) (by omega), w64_of (n := b * c) (by omega) (by omega), w64_of (by omega) (by omega), e] at h
    simp at h

theorem law_IsReducedPair (k : Nat) (hk : 3 ≤ k) (a b c d : Int) (r : Bool → Option α) : laws_FnExactIsReducedPair k a b c d r = r true := by
  simp only [laws_FnExactIsReducedPair, laws_toPoint, spec_IsReducedPair, impl_IsReducedPair, spec_l10Pair_eq, impl_pairFault_eq k hk]
  by_cases h : pairCode a b c d = 0
  · obtain ⟨⟨h1, h2⟩, ⟨h3, h4⟩, _⟩ := pairCode_zero h
    simp [h, spec_l10Reduced_eq (crd_near h1) (crd_near h2) (crd_near h3) (crd_near h4), impl_isReduced_eq (crd_near h1) (crd_near h2) (crd_near h3) (crd_near h4)]
  · simp [h]

end Go.Sh
