/- Plain laws: what the readings without memory answer. -/
import Derived.Test.YtjcmebkllhjpfaaShLBests
namespace Go.Sh
open Go Go.Ev

variable {α : Type}

/-- The expansion of two numbers, in so many steps at most. -/
def cfE : Nat → Int → Int → List Int
  | 0, _, _ => []
  | n + 1, p, q => if q = 0 then [] else p / q :: cfE n q (p % q)

/-- The numbers that a list comes to, from its end on. -/
def cfK : List Int → Int × Int
  | [] => (1, 0)
  | a :: l => (a * (cfK l).1 + (cfK l).2, (cfK l).1)

theorem cfE_length : ∀ (n : Nat) (p q : Int), (cfE n p q).length ≤ n
  | 0, _, _ => by simp [cfE]
  | n + 1, p, q => by
    unfold cfE
    split
    · simp
    · have := cfE_length n q (p % q)
      simp
      omega

theorem cfE_pos : ∀ (n : Nat) (p q : Int), 0 ≤ q → q < p → ∀ a ∈ cfE n p q, 1 ≤ a
  | 0, _, _, _, _, a, h => by simp [cfE] at h
  | n + 1, p, q, hq, hp, a, h => by
    unfold cfE at h
    split at h
    · simp at h
    · rename_i h0
      rcases List.mem_cons.1 h with h1 | h1
      · have := ediv_bounds (a := p) (b := q) (by omega)
        rw [h1]
        rcases ilt_or_ge (p / q) 1 with h2 | h2
        · have := mul_le_l (q) (a := p / q) (b := 0) (by omega) (by omega)
          omega
        · exact h2
      · exact cfE_pos n q (p % q) (Int.emod_nonneg _ h0) (Int.emod_lt_of_pos _ (by omega)) a h1

/-- What an expansion comes to, times the greatest common divisor, is what was expanded. -/
theorem cfE_value : ∀ (n : Nat) (p q : Int), 0 ≤ q → q < n → (0 < q ∨ 0 < p) → ∃ g : Int, 0 < g ∧ p = g * (cfK (cfE n p q)).1 ∧ q = g * (cfK (cfE n p q)).2
  | 0, p, q, hq, hn, _ => by omega
  | n + 1, p, q, hq, hn, hpos => by
    unfold cfE
    split
    · rename_i h0
      subst h0
      exact ⟨p, by omega, by simp [cfK], by simp [cfK]⟩
    · rename_i h0
      have h2 := Int.emod_lt_of_pos p (b := q) (by omega)
      obtain ⟨g, hg, e1, e2⟩ := cfE_value n q (p % q) (Int.emod_nonneg _ h0) (by omega) (.inr (by omega))
      refine ⟨g, hg, ?_, ?_⟩
      · simp only [cfK]
        have h1 := Int.emod_add_mul_ediv p q
        generalize (cfK (cfE n q (p % q))).1 = A at *
        generalize (cfK (cfE n q (p % q))).2 = B at *
        have e3 : g * (p / q * A + B) = (g * A) * (p / q) + g * B := by
          generalize p / q = t
          grind
        rw [e3, ← e1, ← e2]
        omega
      · simp only [cfK]
        exact e1

/-- Lists of numbers of at least 1. -/
def Pos (l : List Int) : Prop := ∀ a ∈ l, 1 ≤ a

theorem cfK_pos : ∀ {l : List Int}, Pos l → 1 ≤ (cfK l).1 ∧ 0 ≤ (cfK l).2 ∧ (cfK l).2 ≤ (cfK l).1
  | [], _ => by simp [cfK]
  | a :: l, h => by
    have ha : 1 ≤ a := h a (by simp)
    obtain ⟨h1, h2, h3⟩ := cfK_pos (l := l) fun b hb => h b (by simp [hb])
    have := Int.mul_le_mul_of_nonneg_right (a := 1) (b := a) (c := (cfK l).1) ha (by omega)
    simp only [cfK]
    omega

theorem cfK_app : ∀ {l m : List Int}, Pos l → Pos m → (cfK l).1 ≤ (cfK (l ++ m)).1 ∧ (cfK l).2 ≤ (cfK (l ++ m)).2
  | [], m, _, hm => by
    obtain ⟨h1, h2, h3⟩ := cfK_pos hm
    simp only [cfK, List.nil_append]
    omega
  | a :: l, m, h, hm => by
    have ha : 1 ≤ a := h a (by simp)
    have ih := cfK_app (l := l) (m := m) (fun b hb => h b (by simp [hb])) hm
    have := mul_le_l (a) (by omega) ih.1
    simp only [cfK, List.cons_append]
    omega

theorem cfK_suffix : ∀ {l m : List Int}, Pos (l ++ m) → (cfK m).1 ≤ (cfK (l ++ m)).1
  | [], m, _ => by simp
  | a :: l, m, h => by
    have ha : 1 ≤ a := h a (by simp)
    have hp : Pos (l ++ m) := fun b hb => h b (by simp only [List.cons_append, List.mem_cons]; exact .inr hb)
    have ih := cfK_suffix (l := l) (m := m) hp
    obtain ⟨h1, h2, h3⟩ := cfK_pos hp
    have := Int.mul_le_mul_of_nonneg_right (a := 1) (b := a) (c := (cfK (l ++ m)).1) ha (by omega)
    simp only [cfK, List.cons_append]
    omega

/-- The difference of both numbers grows, too. -/
theorem cfK_diff {l m : List Int} (h : Pos l) (hm : Pos m) (hne : l ≠ []) : (cfK l).1 - (cfK l).2 ≤ (cfK (l ++ m)).1 - (cfK (l ++ m)).2 := by
  cases l with
  | nil => exact absurd rfl hne
  | cons a l =>
    have ha : 1 ≤ a := h a (by simp)
    have ih := cfK_app (l := l) (m := m) (fun b hb => h b (by simp [hb])) hm
    have := mul_le_l (a - 1) (by omega) ih.1
    simp only [cfK, List.cons_append]
    rw [Int.sub_mul, Int.sub_mul] at this
    omega

/-- The numbers of all beginnings of an expansion are within the bounds. -/
theorem cfK_bounds {p q B : Int} {n : Nat} (hp : -B ≤ p) (hp1 : p ≤ B) (hq : 1 ≤ q) (hq1 : q ≤ B) (hn : q < n) {l m : List Int} (he : cfE n p q = l ++ m) (hl : l ≠ []) : (-B ≤ (cfK l).1 ∧ (cfK l).1 ≤ B) ∧ (1 ≤ (cfK l).2 ∧ (cfK l).2 ≤ B) := by
  cases n with
  | zero => omega
  | succ n =>
    cases l with
    | nil => exact absurd rfl hl
    | cons a l =>
      have he' := he
      unfold cfE at he
      rw [if_neg (by omega), List.cons_append] at he
      injection he with h1 h2
      have hr := Int.emod_lt_of_pos p (b := q) (by omega)
      have hr0 := Int.emod_nonneg p (b := q) (by omega)
      have hpos : Pos (l ++ m) := fun b hb => cfE_pos n q (p % q) hr0 hr b (by rw [h2]; exact hb)
      have hposl : Pos l := fun b hb => hpos b (by simp [hb])
      have hposm : Pos m := fun b hb => hpos b (by simp [hb])
      obtain ⟨g, hg, e1, e2⟩ := cfE_value n q (p % q) hr0 (by omega) (.inr (by omega))
      rw [h2] at e1 e2
      obtain ⟨k1, k2, k3⟩ := cfK_pos hpos
      obtain ⟨l1, l2, l3⟩ := cfK_pos hposl
      have happ := cfK_app hposl hposm
      have hq2 : (cfK (l ++ m)).1 ≤ q := by
        have := Int.mul_le_mul_of_nonneg_right (a := 1) (b := g) (c := (cfK (l ++ m)).1) (by omega) (by omega)
        omega
      refine ⟨?_, by simp only [cfK]; omega⟩
      simp only [cfK]
      have hdiv := ediv_bounds (a := p) (b := q) (by omega)
      -- p = g (a P + Q)
      have hpe : p = g * (a * (cfK (l ++ m)).1 + (cfK (l ++ m)).2) := by
        have hx := Int.emod_add_mul_ediv p q
        rw [h1] at hx
        have : g * (a * (cfK (l ++ m)).1 + (cfK (l ++ m)).2) = (g * (cfK (l ++ m)).1) * a + g * (cfK (l ++ m)).2 := by grind
        rw [this, ← e1, ← e2]
        omega
      generalize hP : (cfK (l ++ m)).1 = P at *
      generalize hQ : (cfK (l ++ m)).2 = Q at *
      rcases ilt_or_ge a 0 with ha | ha
      · -- less than 0
        have hup : a * (cfK l).1 + (cfK l).2 ≤ 0 := by
          have := Int.mul_le_mul_of_nonneg_right (a := a) (b := -1) (c := (cfK l).1) (by omega) (by omega)
          omega
        refine ⟨?_, by omega⟩
        by_cases hne : l = []
        · subst hne
          simp only [cfK]
          have : -B ≤ a := by
            rcases ilt_or_ge a (-B) with h3 | h3
            · have := Int.mul_nonneg (a := q - 1) (b := -a - 1) (by omega) (by omega)
              have e : (q - 1) * (-a - 1) = -(q * a) - q + a + 1 := by grind
              rw [h1] at hdiv
              omega
            · exact h3
          simp
          omega
        · have hd := cfK_diff hposl hposm hne
          rw [hP, hQ] at hd
          have hm := mul_le_l (-a - 1) (by omega) happ.1
          have s1 : (-a - 1) * (cfK l).1 = -(a * (cfK l).1) - (cfK l).1 := by rw [Int.sub_mul, Int.neg_mul]; omega
          have s2 : (-a - 1) * P = -(a * P) - P := by rw [Int.sub_mul, Int.neg_mul]; omega
          rw [s1, s2] at hm
          have hf : a * P + Q ≤ 0 := by omega
          have := Int.mul_le_mul_of_nonneg_right (a := 1) (b := g) (c := -(a * P + Q)) (by omega) (by omega)
          have hgv : g * -(a * P + Q) = -(g * (a * P + Q)) := Int.mul_neg _ _
          omega
      · have hm := mul_le_l (a) ha happ.1
        have h0 := Int.mul_nonneg ha (show 0 ≤ (cfK l).1 by omega)
        have := Int.mul_le_mul_of_nonneg_right (a := 1) (b := g) (c := a * P + Q) (by omega) (by omega)
        omega

/-- From the front: what is now, and what was before. -/
def fwS (s : (Int × Int) × (Int × Int)) (a : Int) : (Int × Int) × (Int × Int) := ((s.2.1 + a * s.1.1, s.2.2 + a * s.1.2), s.1)

def fw (l : List Int) : (Int × Int) × (Int × Int) := l.foldl fwS ((1, 0), (0, 1))

theorem fw_snoc (l : List Int) (a : Int) : fw (l ++ [a]) = fwS (fw l) a := by simp [fw]

theorem fw_lin : ∀ (l : List Int) (s : (Int × Int) × (Int × Int)), (l.foldl fwS s).1 = ((cfK l).1 * s.1.1 + (cfK l).2 * s.2.1, (cfK l).1 * s.1.2 + (cfK l).2 * s.2.2)
  | [], s => by simp [cfK]
  | a :: l, s => by
    rw [List.foldl_cons, fw_lin l]
    simp only [fwS, cfK]
    ext <;> simp only <;> grind

theorem fw_eq (l : List Int) : (fw l).1 = cfK l := by
  unfold fw
  rw [fw_lin]
  simp

theorem spec_l01In_eq (k : Nat) (n low high : Int) (r : Bool → Option α) : spec_l01In k n low high r = r (inB n low high) := by
  unfold spec_l01In inB
  cases decide (low ≤ n) <;> rfl

theorem spec_l01Fits_eq (k : Nat) (n : Int) (r : Bool → Option α) : spec_l01Fits k n r = r (crd n) := by
  simp only [spec_l01Fits, spec_l01In_eq]; rfl

theorem impl_in_eq (k : Nat) (n low high : Int) (r : Bool → Option α) : impl_in k n low high r = r (inB n low high) := by
  unfold impl_in inB
  cases decide (low ≤ n) <;> rfl

theorem impl_isCoord_eq (k : Nat) (n : Int) (r : Bool → Option α) : impl_isCoord k n r = r (crd n) := by
  simp only [impl_isCoord, impl_in_eq]; rfl

theorem spec_l10Ratio_eq (k : Nat) (p q low : Int) (r : Bool → Option α) : spec_l10Ratio k p q low r = r (crd p && inB q low 1000000) := by
  simp only [spec_l10Ratio, spec_l01Fits_eq, spec_l01In_eq]
  cases crd p <;> rfl

theorem impl_ratioOk_eq (k : Nat) (p q : Int) (r : Bool → Option α) : impl_ratioOk k p q r = r (crd p && inB q 1 1000000) := by
  simp only [impl_ratioOk, impl_isCoord_eq, impl_in_eq]
  cases crd p <;> rfl

theorem impl_bestOk_eq (k : Nat) (p q n : Int) (r : Bool → Option α) : impl_bestOk k p q n r = r (crd p && inB q 1 1000000 && inB n 1 100000) := by
  simp only [impl_bestOk, impl_ratioOk_eq, impl_in_eq]
  cases (crd p && inB q 1 1000000) <;> rfl

theorem impl_floor_eq (k : Nat) (a b : Int) (r : Int → Option α) (hb : 0 < b) (ha : -1000000000000000000 ≤ a) (ha2 : a ≤ 1000000000000000000) : impl_floor k a b r = r (a / b) := by
  have hq := tdiv_abs a b
  simp only [impl_floor, dec_eq_f (show b ≠ 0 by omega), cond_false, w64_of (n := Int.tdiv a b) (by omega) (by omega), w64_of (n := Int.tdiv a b - 1) (by omega) (by omega)]
  rw [← tdiv_floor a b hb]
  cases (!decide (Int.tmod a b = 0)) <;> cases (!(decide (a < 0) == decide (b < 0))) <;> rfl

theorem spec_l01Floor_eq (k : Nat) (a b : Int) (r : Int → Option α) (hb : 0 < b) (ha : -1000000000000000000 ≤ a) (ha2 : a ≤ 1000000000000000000) : spec_l01Floor k a b r = r (a / b) := by
  have hq := tdiv_abs a b
  simp only [spec_l01Floor, dec_eq_f (show b ≠ 0 by omega), cond_false, w64_of (n := Int.tdiv a b) (by omega) (by omega), w64_of (n := Int.tdiv a b - 1) (by omega) (by omega)]
  rw [← tdiv_floor a b hb]
  cases (!decide (Int.tmod a b = 0)) <;> cases (!(decide (a < 0) == decide (b < 0))) <;> rfl

theorem impl_size_eq (k : Nat) (n : Int) (r : Int → Option α) (h0 : -1000000000000000000 ≤ n) (h1 : n ≤ 1000000000000000000) : impl_size k n r = r (max n (-n)) := by
  simp only [impl_size]
  rw [w64_of (by omega) (by omega), Int.zero_sub]

/-- The least number with the least distance, and this. -/
def nearP (x q : Int) : Int := if q < 2 * (x % q) then x / q + 1 else x / q

def nearE (x q : Int) : Int := if q < 2 * (x % q) then q - x % q else x % q

theorem near_bounds {x q : Int} (hq : 0 < q) : 0 ≤ nearE x q ∧ 2 * nearE x q ≤ q := by
  have h2 := Int.emod_nonneg x (b := q) (by omega)
  have h3 := Int.emod_lt_of_pos x hq
  unfold nearE
  split <;> omega

theorem quo_bounds {x q : Int} (hq : 0 < q) (h0 : -1000000000000 ≤ x) (h1 : x ≤ 1000000000000) : -1000000000001 ≤ x / q ∧ x / q ≤ 1000000000000 := by
  have h := ediv_bounds (a := x) hq
  constructor
  · rcases ilt_or_ge (x / q) (-1000000000001) with h3 | h3
    · have := mul_le_l (q) (a := x / q) (b := -1000000000002) (by omega) (by omega)
      omega
    · exact h3
  · rcases ilt_or_ge 1000000000000 (x / q) with h3 | h3
    · have := mul_le_l (q) (a := 1000000000001) (b := x / q) (by omega) (by omega)
      omega
    · exact h3

theorem quo_rest (x q : Int) : x - x / q * q = x % q := by
  have h1 := Int.emod_add_mul_ediv x q
  rw [Int.mul_comm]
  omega

theorem spec_l10Near_eq (k : Nat) (x q : Int) (r : Int → Int → Option α) (hq : 0 < q) (hq1 : q ≤ 1000000) (h0 : -1000000000000 ≤ x) (h1 : x ≤ 1000000000000) : spec_l10Near k x q r = r (nearP x q) (nearE x q) := by
  have hb := quo_bounds hq h0 h1
  have hr := quo_rest x q
  have h2 := Int.emod_nonneg x (b := q) (by omega)
  have h3 := Int.emod_lt_of_pos x hq
  simp only [spec_l10Near]
  rw [spec_l01Floor_eq _ _ _ _ hq (by omega) (by omega)]
  have e1 : w64 (x / q * q) = x / q * q := w64_of (by omega) (by omega)
  have e2 : w64 (x - x / q * q) = x % q := by rw [w64_of (by omega) (by omega), hr]
  have e3 : w64 (q - x % q) = q - x % q := w64_of (by omega) (by omega)
  have e4 : w64 (x / q + 1) = x / q + 1 := w64_of (by omega) (by omega)
  simp only [e1, e2, e3, e4]
  unfold nearP nearE
  by_cases hc : q < 2 * (x % q)
  · rw [dec_lt_t (by omega), if_pos hc, if_pos hc]
    rfl
  · rw [dec_lt_f (by omega), if_neg hc, if_neg hc]
    rfl

/-- A step of the program's records, for what divides a distance. -/
def RecStep (by_ : Int → Int) (L : Nat → Int → Int → Int → Int → Int → Int → (List (Int × Int)) → (Int → Int → Int → Int → Int → Int → (List (Int × Int)) → Option α) → ((List (Int × Int)) → Option α) → Option α) : Prop :=
  ∀ (k : Nat) (p q n best bestBy k_ : Int) (out : List (Int × Int)) b0 r0, 0 < q → q ≤ 1000000 → -1000000 ≤ p → p ≤ 1000000 → 1 ≤ k_ → n ≤ 100000 → 0 ≤ best → best ≤ 1000000 → 0 ≤ bestBy → bestBy ≤ 100000 → out.length ≤ 1000000 →
    (n < k_ → L (k + 1) p q n best bestBy k_ out b0 r0 = b0 p q n best bestBy k_ out) ∧
    (k_ ≤ n → L (k + 1) p q n best bestBy k_ out b0 r0 = if bestBy = 0 ∨ nearE (k_ * p) q * bestBy < best * by_ k_ then L k p q n (nearE (k_ * p) q) (by_ k_) (k_ + 1) (out ++ [(nearP (k_ * p) q, k_)]) b0 r0 else L k p q n best bestBy (k_ + 1) out b0 r0)

theorem rec_second : RecStep (α := α) (fun _ => 1) impl_records_3F_impl_BestOfSecond_1_l3 := by
  intro k p q n best bestBy k_ out b0 r0 hq hq1 hp hp1 hk hn hb hb1 hy hy1 hl
  constructor
  · intro h
    rw [impl_records_3F_impl_BestOfSecond_1_l3, dec_le_f h]
    rfl
  · intro h
    have hx := mul_bound (a := k_) (b := p) (A := 100000) (B := 1000000) (by omega) (by omega) hp hp1
    rw [impl_records_3F_impl_BestOfSecond_1_l3, dec_le_t h, cond_true, w64_of (n := k_ * p) (by omega) (by omega)]
    generalize hX : k_ * p = x at hx ⊢
    have hqb := quo_bounds hq (x := x) (by omega) (by omega)
    have hr := quo_rest x q
    have h2 := Int.emod_nonneg x (b := q) (by omega)
    have h3 := Int.emod_lt_of_pos x hq
    have hne := near_bounds (x := x) hq
    have hmE := mul_bound (a := nearE x q) (b := bestBy) (A := 1000000) (B := 100000) (by omega) (by omega) (by omega) (by omega)
    rw [impl_floor_eq _ _ _ _ hq (by omega) (by omega)]
    have e1 : w64 (x / q * q) = x / q * q := w64_of (by omega) (by omega)
    have e2 : w64 (x - x / q * q) = x % q := by rw [w64_of (by omega) (by omega), hr]
    have e3 : w64 (2 * (x % q)) = 2 * (x % q) := w64_of (by omega) (by omega)
    have e4 : w64 (x / q + 1) = x / q + 1 := w64_of (by omega) (by omega)
    have e5 : w64 ((x / q + 1) * q) = x / q * q + q := by rw [Int.add_mul, Int.one_mul, w64_of (by omega) (by omega)]
    have e6 : w64 (x - (x / q * q + q)) = x % q - q := by rw [w64_of (by omega) (by omega)]; omega
    have e7 : w64 (k_ + 1) = k_ + 1 := w64_of (by omega) (by omega)
    have e8 : w64 (best * 1) = best * 1 := w64_of (by omega) (by omega)
    have e9 : w64 (nearE x q * bestBy) = nearE x q * bestBy := w64_of (by omega) (by omega)
    have hlen : decide (out.length + 1 ≤ big) = true := decide_eq_true (by rw [big_val]; omega)
    simp only [e1, e2, e3, e4, e5, e6, e7, hlen, cond_true, impl_BestOfSecond_1, e8]
    unfold nearP nearE at *
    by_cases hc : q < 2 * (x % q)
    · simp only [dec_lt_t hc, if_pos hc, cond_true] at e9 ⊢
      rw [impl_size_eq _ _ _ (by omega) (by omega)]
      have ef : max (x % q - q) (-(x % q - q)) = q - x % q := by omega
      simp only [ef, e9]
      by_cases h0 : bestBy = 0
      · simp [h0]
      · by_cases h9 : (q - x % q) * bestBy < best * 1 <;> simp [h0, h9]
    · simp only [dec_lt_f (show 2 * (x % q) ≤ q by omega), if_neg hc, cond_false] at e9 ⊢
      rw [impl_size_eq _ _ _ (by omega) (by omega)]
      have ef : max (x % q) (-(x % q)) = x % q := by omega
      simp only [ef, e9]
      by_cases h0 : bestBy = 0
      · simp [h0]
      · by_cases h9 : x % q * bestBy < best * 1 <;> simp [h0, h9]

theorem rec_first : RecStep (α := α) (fun k => k) impl_records_3F_impl_bestOfFirst_1_l3 := by
  intro k p q n best bestBy k_ out b0 r0 hq hq1 hp hp1 hk hn hb hb1 hy hy1 hl
  constructor
  · intro h
    rw [impl_records_3F_impl_bestOfFirst_1_l3, dec_le_f h]
    rfl
  · intro h
    have hx := mul_bound (a := k_) (b := p) (A := 100000) (B := 1000000) (by omega) (by omega) hp hp1
    have hbk := mul_bound (a := best) (b := k_) (A := 1000000) (B := 100000) (by omega) (by omega) (by omega) (by omega)
    rw [impl_records_3F_impl_bestOfFirst_1_l3, dec_le_t h, cond_true, w64_of (n := k_ * p) (by omega) (by omega)]
    generalize hX : k_ * p = x at hx ⊢
    have hqb := quo_bounds hq (x := x) (by omega) (by omega)
    have hr := quo_rest x q
    have h2 := Int.emod_nonneg x (b := q) (by omega)
    have h3 := Int.emod_lt_of_pos x hq
    have hne := near_bounds (x := x) hq
    have hmE := mul_bound (a := nearE x q) (b := bestBy) (A := 1000000) (B := 100000) (by omega) (by omega) (by omega) (by omega)
    rw [impl_floor_eq _ _ _ _ hq (by omega) (by omega)]
    have e1 : w64 (x / q * q) = x / q * q := w64_of (by omega) (by omega)
    have e2 : w64 (x - x / q * q) = x % q := by rw [w64_of (by omega) (by omega), hr]
    have e3 : w64 (2 * (x % q)) = 2 * (x % q) := w64_of (by omega) (by omega)
    have e4 : w64 (x / q + 1) = x / q + 1 := w64_of (by omega) (by omega)
    have e5 : w64 ((x / q + 1) * q) = x / q * q + q := by rw [Int.add_mul, Int.one_mul, w64_of (by omega) (by omega)]
    have e6 : w64 (x - (x / q * q + q)) = x % q - q := by rw [w64_of (by omega) (by omega)]; omega
    have e7 : w64 (k_ + 1) = k_ + 1 := w64_of (by omega) (by omega)
    have e8 : w64 (best * k_) = best * k_ := w64_of (by omega) (by omega)
    have e9 : w64 (nearE x q * bestBy) = nearE x q * bestBy := w64_of (by omega) (by omega)
    have hlen : decide (out.length + 1 ≤ big) = true := decide_eq_true (by rw [big_val]; omega)
    simp only [e1, e2, e3, e4, e5, e6, e7, hlen, cond_true, impl_bestOfFirst_1, e8]
    unfold nearP nearE at *
    by_cases hc : q < 2 * (x % q)
    · simp only [dec_lt_t hc, if_pos hc, cond_true] at e9 ⊢
      rw [impl_size_eq _ _ _ (by omega) (by omega)]
      have ef : max (x % q - q) (-(x % q - q)) = q - x % q := by omega
      simp only [ef, e9]
      by_cases h0 : bestBy = 0
      · simp [h0]
      · by_cases h9 : (q - x % q) * bestBy < best * k_ <;> simp [h0, h9]
    · simp only [dec_lt_f (show 2 * (x % q) ≤ q by omega), if_neg hc, cond_false] at e9 ⊢
      rw [impl_size_eq _ _ _ (by omega) (by omega)]
      have ef : max (x % q) (-(x % q)) = x % q := by omega
      simp only [ef, e9]
      by_cases h0 : bestBy = 0
      · simp [h0]
      · by_cases h9 : x % q * bestBy < best * k_ <;> simp [h0, h9]

/-- Is a distance less than the last one, told with what divides it? -/
def lessQ (second : Bool) (e last under k_ : Int) : Bool := bif second then decide (e < last) else decide (e * under < last * k_)

theorem spec_best_step (k : Nat) (p q n last under k_ : Int) (second : Bool) (out : List (Int × Int)) (b0 : Int → Int → Int → Bool → Int → Int → Int → (List (Int × Int)) → Option α) r0 (hq : 0 < q) (hq1 : q ≤ 1000000) (hp : -1000000 ≤ p) (hp1 : p ≤ 1000000) (hk : 1 ≤ k_) (hn : n ≤ 100000)
    (hb : 0 ≤ last) (hb1 : last ≤ 1000000) (hy : 0 ≤ under) (hy1 : under ≤ 100000) (hl : out.length ≤ 1000000) :
    (n < k_ → spec_l10Best_l3 (k + 1) p q n second last under k_ out b0 r0 = b0 p q n second last under k_ out) ∧
    (k_ ≤ n → spec_l10Best_l3 (k + 1) p q n second last under k_ out b0 r0 =
      bif decide (out = []) || lessQ second (nearE (k_ * p) q) last under k_ then
        if nearE (k_ * p) q = 0 then b0 p q n second (nearE (k_ * p) q) k_ k_ (out ++ [(nearP (k_ * p) q, k_)]) else spec_l10Best_l3 k p q n second (nearE (k_ * p) q) k_ (k_ + 1) (out ++ [(nearP (k_ * p) q, k_)]) b0 r0
      else if nearE (k_ * p) q = 0 then b0 p q n second last under k_ out else spec_l10Best_l3 k p q n second last under (k_ + 1) out b0 r0) := by
  constructor
  · intro h
    rw [spec_l10Best_l3, dec_le_f h]
    rfl
  · intro h
    have hx := mul_bound (a := k_) (b := p) (A := 100000) (B := 1000000) (by omega) (by omega) hp hp1
    have hbk := mul_bound (a := last) (b := k_) (A := 1000000) (B := 100000) (by omega) (by omega) (by omega) (by omega)
    rw [spec_l10Best_l3, dec_le_t h, cond_true, w64_of (n := k_ * p) (by omega) (by omega)]
    rw [spec_l10Near_eq _ _ _ _ hq hq1 (by omega) (by omega)]
    have hne := near_bounds (x := k_ * p) hq
    generalize nearE (k_ * p) q = e at hne ⊢
    generalize nearP (k_ * p) q = a
    have hmE := mul_bound (a := e) (b := under) (A := 1000000) (B := 100000) (by omega) (by omega) (by omega) (by omega)
    have e7 : w64 (k_ + 1) = k_ + 1 := w64_of (by omega) (by omega)
    have e8 : w64 (last * k_) = last * k_ := w64_of (by omega) (by omega)
    have e9 : w64 (e * under) = e * under := w64_of (by omega) (by omega)
    have hlen : decide (out.length + 1 ≤ big) = true := decide_eq_true (by rw [big_val]; omega)
    have h0 : decide ((out.length : Int) = 0) = decide (out = []) := by
      cases out <;> simp
      omega
    simp only [h0, hlen, e7, e8, e9, cond_true, lessQ]
    cases hd : decide (out = []) with
    | true => by_cases he : e = 0 <;> simp [he]
    | false =>
      cases second with
      | true =>
        by_cases he : e = 0
        · by_cases h1 : e < last <;> simp [he, h1] <;> simp [he] at h1 <;> simp [h1]
        · by_cases h1 : e < last <;> simp [he, h1]
      | false =>
        by_cases he : e = 0
        · by_cases h1 : e * under < last * k_ <;> simp [he, h1] <;> simp [he] at h1 <;> simp [h1]
        · by_cases h1 : e * under < last * k_ <;> simp [he, h1]

/-- What is found is kept, once the distance is 0. -/
theorem rec_tail {by_ : Int → Int} {L : Nat → Int → Int → Int → Int → Int → Int → (List (Int × Int)) → (Int → Int → Int → Int → Int → Int → (List (Int × Int)) → Option α) → ((List (Int × Int)) → Option α) → Option α} (hL : RecStep by_ L) :
    ∀ (m : Nat) (p q n bestBy k_ : Int) (out : List (Int × Int)), 0 < q → q ≤ 1000000 → -1000000 ≤ p → p ≤ 1000000 → 1 ≤ k_ → n ≤ 100000 → 1 ≤ bestBy → bestBy ≤ 100000 → out.length ≤ 1000000 → n + 1 - k_ ≤ m →
      ∀ k, m < k → ∀ b0 r0, ∃ k', L k p q n 0 bestBy k_ out b0 r0 = b0 p q n 0 bestBy k' out
  | m, p, q, n, bestBy, k_, out, hq, hq1, hp, hp1, hk, hn, hy, hy1, hl, hm, k + 1, hkm, b0, r0 => by
    obtain ⟨h1, h2⟩ := hL k p q n 0 bestBy k_ out b0 r0 hq hq1 hp hp1 hk hn (by omega) (by omega) (by omega) hy1 hl
    rcases ilt_or_ge n k_ with h | h
    · exact ⟨k_, h1 h⟩
    · rw [h2 h, if_neg]
      · cases m with
        | zero => omega
        | succ m => exact rec_tail hL m p q n bestBy (k_ + 1) out hq hq1 hp hp1 (by omega) hn hy hy1 hl (by omega) k (by omega) b0 r0
      · have hne := near_bounds (x := k_ * p) hq
        have := Int.mul_nonneg hne.1 (show 0 ≤ bestBy by omega)
        omega
  | _, _, _, _, _, _, _, _, _, _, _, _, _, _, _, _, _, 0, hkm, _, _ => by omega

/-- Both lists of best approximations. -/
theorem best_both {by_ : Int → Int} {second : Bool} {L : Nat → Int → Int → Int → Int → Int → Int → (List (Int × Int)) → (Int → Int → Int → Int → Int → Int → (List (Int × Int)) → Option α) → ((List (Int × Int)) → Option α) → Option α} (hL : RecStep by_ L)
    (hby : ∀ k_, 1 ≤ k_ → k_ ≤ 100000 → 1 ≤ by_ k_ ∧ by_ k_ ≤ 100000) (hsame : ∀ e last under k_ : Int, lessQ second e last under k_ = decide (e * by_ under < last * by_ k_)) :
    ∀ (m : Nat) (p q n last under best bestBy k_ : Int) (out : List (Int × Int)), 0 < q → q ≤ 1000000 → -1000000 ≤ p → p ≤ 1000000 → 1 ≤ k_ → k_ ≤ 100001 → n ≤ 100000 → 0 ≤ last → last ≤ 1000000 → 0 ≤ under → under ≤ 100000 → (out.length : Int) < k_ → n + 1 - k_ ≤ m →
      ((out = [] ∧ bestBy = 0 ∧ best = 0) ∨ (out ≠ [] ∧ 1 ≤ under ∧ bestBy = by_ under ∧ best = last)) →
      ∃ res, (out ≠ [] ∨ k_ ≤ n → res ≠ []) ∧ res.length ≤ 100001 ∧ (∀ k, m < k → ∀ b0 r0, ∃ l u k', spec_l10Best_l3 (α := α) k p q n second last under k_ out b0 r0 = b0 p q n second l u k' res) ∧ (∀ k, m < k → ∀ b0 r0, ∃ l u k', L k p q n best bestBy k_ out b0 r0 = b0 p q n l u k' res)
  | m, p, q, n, last, under, best, bestBy, k_, out, hq, hq1, hp, hp1, hk, hk2, hn, hb, hb1, hy, hy1, hl, hm, hR => by
    have hbest : 0 ≤ best ∧ best ≤ 1000000 ∧ 0 ≤ bestBy ∧ bestBy ≤ 100000 := by
      rcases hR with ⟨_, h1, h2⟩ | ⟨_, h1, h2, h3⟩
      · omega
      · have := hby under h1 hy1
        omega
    obtain ⟨g1, g2, g3, g4⟩ := hbest
    have hl2 : out.length ≤ 1000000 := by omega
    rcases ilt_or_ge n k_ with h | h
    · refine ⟨out, fun h1 => ?_, by omega, fun k hkm b0 r0 => ?_, fun k hkm b0 r0 => ?_⟩
      · rcases h1 with h1 | h1
        · exact h1
        · omega
      · cases k with
        | zero => omega
        | succ k => exact ⟨last, under, k_, (spec_best_step k p q n last under k_ second out b0 r0 hq hq1 hp hp1 hk hn hb hb1 hy hy1 hl2).1 h⟩
      · cases k with
        | zero => omega
        | succ k => exact ⟨best, bestBy, k_, (hL k p q n best bestBy k_ out b0 r0 hq hq1 hp hp1 hk hn g1 g2 g3 g4 hl2).1 h⟩
    · cases m with
      | zero => omega
      | succ m =>
        have S := fun k b0 r0 => (spec_best_step (α := α) k p q n last under k_ second out b0 r0 hq hq1 hp hp1 hk hn hb hb1 hy hy1 hl2).2 h
        have I := fun k b0 r0 => (hL k p q n best bestBy k_ out b0 r0 hq hq1 hp hp1 hk hn g1 g2 g3 g4 hl2).2 h
        have hne := near_bounds (x := k_ * p) hq
        generalize nearE (k_ * p) q = e at S I hne
        generalize nearP (k_ * p) q = a at S I
        have hbk := hby k_ hk (by omega)
        have hcond : (decide (out = []) || lessQ second e last under k_) = decide (bestBy = 0 ∨ e * bestBy < best * by_ k_) := by
          rcases hR with ⟨r1, r2, r3⟩ | ⟨r1, r2, r3, r4⟩
          · simp [r1, r2]
          · have := hby under r2 hy1
            rw [hsame, r3, r4]
            have h0 : by_ under ≠ 0 := by omega
            simp [r1, h0]
        rw [hcond] at S
        by_cases hc : bestBy = 0 ∨ e * bestBy < best * by_ k_
        · simp only [hc, decide_true, cond_true, if_true] at S I
          by_cases he : e = 0
          · simp only [he, if_true] at S I
            refine ⟨out ++ [(a, k_)], fun _ => by simp, by simp; omega, fun k hkm b0 r0 => ?_, fun k hkm b0 r0 => ?_⟩
            · cases k with
              | zero => omega
              | succ k => exact ⟨_, _, _, S k b0 r0⟩
            · cases k with
              | zero => omega
              | succ k =>
                rw [I]
                obtain ⟨k', hk'⟩ := rec_tail hL m p q n (by_ k_) (k_ + 1) (out ++ [(a, k_)]) hq hq1 hp hp1 (by omega) hn hbk.1 hbk.2 (by simp; omega) (by omega) k (by omega) b0 r0
                exact ⟨_, _, _, hk'⟩
          · simp only [he, if_false] at S
            obtain ⟨res, q1, q2, q3, q4⟩ := best_both hL hby hsame m p q n e k_ e (by_ k_) (k_ + 1) (out ++ [(a, k_)]) hq hq1 hp hp1 (by omega) (by omega) hn (by omega) (by omega) (by omega) (by omega) (by simp; omega) (by omega) (.inr ⟨by simp, hk, rfl, rfl⟩)
            refine ⟨res, fun _ => q1 (.inl (by simp)), q2, fun k hkm b0 r0 => ?_, fun k hkm b0 r0 => ?_⟩
            · cases k with
              | zero => omega
              | succ k =>
                rw [S]
                exact q3 k (by omega) b0 r0
            · cases k with
              | zero => omega
              | succ k =>
                rw [I]
                exact q4 k (by omega) b0 r0
        · simp only [hc, decide_false, cond_false, if_false] at S I
          rcases hR with ⟨r1, r2, r3⟩ | ⟨r1, r2, r3, r4⟩
          · exact absurd (.inl r2) hc
          · by_cases he : e = 0
            · simp only [he, if_true] at S
              have hlast : best = 0 := by
                rcases ilt_or_ge 0 best with h1 | h1
                · exfalso
                  refine hc (.inr ?_)
                  rw [he, Int.zero_mul]
                  exact Int.mul_pos h1 (by omega)
                · omega
              refine ⟨out, fun _ => r1, by omega, fun k hkm b0 r0 => ?_, fun k hkm b0 r0 => ?_⟩
              · cases k with
                | zero => omega
                | succ k => exact ⟨_, _, _, S k b0 r0⟩
              · cases k with
                | zero => omega
                | succ k =>
                  rw [I, hlast]
                  have hbu := hby under r2 hy1
                  obtain ⟨k', hk'⟩ := rec_tail hL m p q n bestBy (k_ + 1) out hq hq1 hp hp1 (by omega) hn (by omega) (by omega) hl2 (by omega) k (by omega) b0 r0
                  exact ⟨_, _, _, hk'⟩
            · simp only [he, if_false] at S
              obtain ⟨res, q1, q2, q3, q4⟩ := best_both hL hby hsame m p q n last under best bestBy (k_ + 1) out hq hq1 hp hp1 (by omega) (by omega) hn hb hb1 hy hy1 (by omega) (by omega) (.inr ⟨r1, r2, r3, r4⟩)
              refine ⟨res, fun _ => q1 (.inl r1), q2, fun k hkm b0 r0 => ?_, fun k hkm b0 r0 => ?_⟩
              · cases k with
                | zero => omega
                | succ k =>
                  rw [S]
                  exact q3 k (by omega) b0 r0
              · cases k with
                | zero => omega
                | succ k =>
                  rw [I]
                  exact q4 k (by omega) b0 r0

/-- Ratios and a number up to which something is looked for. -/
def bestArgs (p q n : Int) : Bool := crd p && inB q 1 1000000 && inB n 1 100000

theorem bestArgs_iff {p q n : Int} (h : bestArgs p q n = true) : (-1000000 ≤ p ∧ p ≤ 1000000) ∧ (1 ≤ q ∧ q ≤ 1000000) ∧ (1 ≤ n ∧ n ≤ 100000) := by
  simp only [bestArgs, Bool.and_eq_true, crd_iff, inB_iff] at h
  exact ⟨h.1.1, h.1.2, h.2⟩

theorem best_second {p q n : Int} (h : bestArgs p q n = true) : ∃ res, res ≠ [] ∧ res.length ≤ 100001 ∧ (∀ k, 100000 < k → ∀ r : List (Int × Int) → Option α, spec_l10Best k p q n true r = r res) ∧ (∀ k, 100000 < k → ∀ r : List (Int × Int) → Option α, impl_records_3F_impl_BestOfSecond_1 k p q n r = r res) := by
  obtain ⟨⟨h1, h2⟩, ⟨h3, h4⟩, h5, h6⟩ := bestArgs_iff h
  obtain ⟨res, q1, q2, q3, q4⟩ := best_both (α := α) (second := true) rec_second (fun _ _ _ => ⟨by omega, by omega⟩) (fun e last under k_ => by simp [lessQ]) 100000 p q n 0 1 0 0 1 [] (by omega) h4 h1 h2 (by omega) (by omega) h6 (by omega) (by omega) (by omega) (by omega) (by simp) (by omega) (.inl ⟨rfl, rfl, rfl⟩)
  refine ⟨res, q1 (.inr h5), q2, fun k hk r => ?_, fun k hk r => ?_⟩
  · unfold spec_l10Best
    obtain ⟨_, _, _, e⟩ := q3 k hk (fun _ _ _ _ _ _ _ out => r out) r
    exact e
  · unfold impl_records_3F_impl_BestOfSecond_1
    obtain ⟨_, _, _, e⟩ := q4 k hk (fun _ _ _ _ _ _ out => r out) r
    exact e

theorem best_first {p q n : Int} (h : bestArgs p q n = true) : ∃ res, res ≠ [] ∧ res.length ≤ 100001 ∧ (∀ k, 100000 < k → ∀ r : List (Int × Int) → Option α, spec_l10Best k p q n false r = r res) ∧ (∀ k, 100000 < k → ∀ r : List (Int × Int) → Option α, impl_bestOfFirst k p q n r = r res) := by
  obtain ⟨⟨h1, h2⟩, ⟨h3, h4⟩, h5, h6⟩ := bestArgs_iff h
  obtain ⟨res, q1, q2, q3, q4⟩ := best_both (α := α) (second := false) rec_first (fun _ h1 h2 => ⟨h1, h2⟩) (fun e last under k_ => by simp [lessQ]) 100000 p q n 0 1 0 0 1 [] (by omega) h4 h1 h2 (by omega) (by omega) h6 (by omega) (by omega) (by omega) (by omega) (by simp) (by omega) (.inl ⟨rfl, rfl, rfl⟩)
  refine ⟨res, q1 (.inr h5), q2, fun k hk r => ?_, fun k hk r => ?_⟩
  · unfold spec_l10Best
    obtain ⟨_, _, _, e⟩ := q3 k hk (fun _ _ _ _ _ _ _ out => r out) r
    exact e
  · unfold impl_bestOfFirst impl_records_3F_impl_bestOfFirst_1
    obtain ⟨_, _, _, e⟩ := q4 k hk (fun _ _ _ _ _ _ out => r out) r
    exact e

theorem spec_BestOfSecond_eq (k : Nat) (p q n : Int) (r0 : Int → Option α) r1 : spec_BestOfSecond k p q n r0 r1 = bif bestArgs p q n then spec_l10Best k p q n true (fun v => r1 v 0) else r0 2 := by
  simp only [spec_BestOfSecond, spec_l10Ratio_eq, spec_l01In_eq, bestArgs]
  cases (crd p && inB q 1 1000000) <;> cases inB n 1 100000 <;> rfl

theorem impl_BestOfSecond_eq (k : Nat) (p q n : Int) (r0 : Int → Option α) r1 : impl_BestOfSecond k p q n r0 r1 = bif bestArgs p q n then impl_records_3F_impl_BestOfSecond_1 k p q n (fun v => r1 v 0) else r0 2 := by
  simp only [impl_BestOfSecond, impl_bestOk_eq, bestArgs]
  cases (crd p && inB q 1 1000000 && inB n 1 100000) <;> rfl

theorem spec_BestOfFirst_eq (k : Nat) (p q n : Int) (r0 : Int → Option α) r1 : spec_BestOfFirst k p q n r0 r1 = bif bestArgs p q n then spec_l10Best k p q n false (fun v => r1 v 0) else r0 2 := by
  simp only [spec_BestOfFirst, spec_l10Ratio_eq, spec_l01In_eq, bestArgs]
  cases (crd p && inB q 1 1000000) <;> cases inB n 1 100000 <;> rfl

theorem impl_BestOfFirst_eq (k : Nat) (p q n : Int) (r0 : Int → Option α) r1 : impl_BestOfFirst k p q n r0 r1 = bif bestArgs p q n then impl_bestOfFirst k p q n (fun v => r1 v 0) else r0 2 := by
  simp only [impl_BestOfFirst, impl_bestOk_eq, bestArgs]
  cases (crd p && inB q 1 1000000 && inB n 1 100000) <;> rfl

theorem rest_w {p q : Int} (hq : 0 < q) (hq1 : q ≤ 1000000) (hp : -1000000 ≤ p) (hp1 : p ≤ 1000000) : w64 (p - w64 (p / q * q)) = p % q := by
  have h1 := Int.emod_add_mul_ediv p q
  have h2 := Int.emod_nonneg p (b := q) (by omega)
  have h3 := Int.emod_lt_of_pos p hq
  have e : p / q * q = q * (p / q) := Int.mul_comm _ _
  rw [e, w64_of (n := q * (p / q)) (by omega) (by omega), w64_of (by omega) (by omega)]
  omega

theorem spec_expand_l2 : ∀ (n k : Nat) (p q : Int) (out : List Int) b0 (r0 : List Int → Option α), -1000000 ≤ p → p ≤ 1000000 → 0 ≤ q → q ≤ 1000000 → q < n → n ≤ k → out.length + n ≤ 1000000000 → ∃ p', spec_l01Expand_l2 k p q out b0 r0 = b0 p' 0 (out ++ cfE n p q)
  | 0, k, p, q, out, b0, r0, hp, hp1, hq, hq1, hn, hk, hl => by omega
  | n + 1, 0, p, q, out, b0, r0, hp, hp1, hq, hq1, hn, hk, hl => by omega
  | n + 1, k + 1, p, q, out, b0, r0, hp, hp1, hq, hq1, hn, hk, hl => by
    by_cases h0 : q = 0
    · subst h0
      exact ⟨p, by simp [spec_l01Expand_l2, cfE]⟩
    · have h2 := Int.emod_nonneg p (b := q) (by omega)
      have h3 := Int.emod_lt_of_pos p (b := q) (by omega)
      obtain ⟨p', e⟩ := spec_expand_l2 n k q (p % q) (out ++ [p / q]) b0 r0 (by omega) hq1 h2 (by omega) (by omega) (by omega) (by simp; omega)
      refine ⟨p', ?_⟩
      rw [spec_l01Expand_l2, dec_eq_f h0, Bool.not_false, cond_true, spec_l01Floor_eq _ _ _ _ (by omega) (by omega) (by omega), dec_nle_t (by rw [big_val]; omega), cond_true, rest_w (by omega) hq1 hp hp1, e]
      simp [cfE, h0]

theorem impl_expand_l2_ok : ∀ (n k : Nat) (p q : Int) (out : List Int) b0 (r0 : List Int → Option α), -1000000 ≤ p → p ≤ 1000000 → 0 ≤ q → q ≤ 1000000 → q < n → n ≤ k → out.length + n ≤ 1000000000 → ∃ p', impl_expand_l2 k p q out b0 r0 = b0 p' 0 (out ++ cfE n p q)
  | 0, k, p, q, out, b0, r0, hp, hp1, hq, hq1, hn, hk, hl => by omega
  | n + 1, 0, p, q, out, b0, r0, hp, hp1, hq, hq1, hn, hk, hl => by omega
  | n + 1, k + 1, p, q, out, b0, r0, hp, hp1, hq, hq1, hn, hk, hl => by
    by_cases h0 : q = 0
    · subst h0
      exact ⟨p, by simp [impl_expand_l2, cfE]⟩
    · have h2 := Int.emod_nonneg p (b := q) (by omega)
      have h3 := Int.emod_lt_of_pos p (b := q) (by omega)
      obtain ⟨p', e⟩ := impl_expand_l2_ok n k q (p % q) (out ++ [p / q]) b0 r0 (by omega) hq1 h2 (by omega) (by omega) (by omega) (by simp; omega)
      refine ⟨p', ?_⟩
      rw [impl_expand_l2, dec_eq_f h0, Bool.not_false, cond_true, impl_floor_eq _ _ _ _ (by omega) (by omega) (by omega), dec_nle_t (by rw [big_val]; omega), cond_true, rest_w (by omega) hq1 hp hp1, e]
      simp [cfE, h0]

/-- The expansion of a ratio. -/
def cfX (p q : Int) : List Int := cfE 1000002 p q

theorem spec_l01Expand_eq (k : Nat) (hk : 1000002 ≤ k) (p q : Int) (r : List Int → Option α) (hp : -1000000 ≤ p) (hp1 : p ≤ 1000000) (hq : 0 ≤ q) (hq1 : q ≤ 1000000) : spec_l01Expand k p q r = r (cfX p q) := by
  unfold spec_l01Expand cfX
  obtain ⟨p', e⟩ := spec_expand_l2 (α := α) 1000002 k p q [] (fun _ _ out => r out) r hp hp1 hq hq1 (by omega) hk (by simp)
  simpa using e

theorem impl_expand_eq (k : Nat) (hk : 1000002 ≤ k) (p q : Int) (r : List Int → Option α) (hp : -1000000 ≤ p) (hp1 : p ≤ 1000000) (hq : 0 ≤ q) (hq1 : q ≤ 1000000) : impl_expand k p q r = r (cfX p q) := by
  unfold impl_expand cfX
  obtain ⟨p', e⟩ := impl_expand_l2_ok (α := α) 1000002 k p q [] (fun _ _ out => r out) r hp hp1 hq hq1 (by omega) hk (by simp)
  simpa using e

theorem cfX_length (p q : Int) : (cfX p q).length ≤ 1000002 := cfE_length _ _ _

/-- All beginnings, but the empty one. -/
def convs (l : List Int) (n : Nat) : List (Int × Int) := (List.range n).map fun i => cfK (l.take (i + 1))

theorem convs_succ (l : List Int) (n : Nat) : convs l (n + 1) = convs l n ++ [cfK (l.take (n + 1))] := by
  simp [convs, List.range_succ]

theorem convs_length (l : List Int) (n : Nat) : (convs l n).length = n := by simp [convs]

theorem crd_of {n : Int} (h0 : -1000000 ≤ n) (h1 : n ≤ 1000000) : crd n = true := crd_iff.2 ⟨h0, h1⟩

/-- The steps from the end on. -/
theorem spec_fold_l3 (L : List Int) (hL : L.length ≤ 100000000) (hb : ∀ l m, L = l ++ m → m ≠ [] → (-1000000 ≤ (cfK m).1 ∧ (cfK m).1 ≤ 1000000) ∧ (-1000000 ≤ (cfK m).2 ∧ (cfK m).2 ≤ 1000000)) :
    ∀ (i : Nat) (l m : List Int) (k : Nat) b0 (r0 : Int → Int → Bool → Option α), L = l ++ m → m ≠ [] → l.length = i → i < k → spec_l01Fold_l3 k (cfK m).1 (cfK m).2 ((i : Int) - 1) L b0 r0 = b0 (cfK L).1 (cfK L).2 (-1) L
  | 0, l, m, k, b0, r0, he, hm, hl, hk => by
    cases k with
    | zero => omega
    | succ k =>
      have : l = [] := List.eq_nil_of_length_eq_zero hl
      subst this
      simp only [List.nil_append] at he
      subst he
      rw [spec_l01Fold_l3, dec_le_f (by omega)]
      rfl
  | i + 1, l, m, k, b0, r0, he, hm, hl, hk => by
    cases k with
    | zero => omega
    | succ k =>
      obtain ⟨l', a, rfl⟩ : ∃ l' a, l = l' ++ [a] := ⟨l.dropLast, l.getLast (by intro e; simp [e] at hl), (List.dropLast_concat_getLast _).symm⟩
      have hl' : l'.length = i := by simpa using hl
      have he' : L = l' ++ (a :: m) := by rw [he]; simp
      have hg : L[i]? = some a := by rw [he', ← hl']; simp
      have hb1 := hb l' (a :: m) he' (by simp)
      have hb2 := hb (l' ++ [a]) m he hm
      have ei : ((i + 1 : Nat) : Int) - 1 = (i : Int) := by omega
      have hLi : i < L.length := by rw [he']; simp; omega
      have w1 : w64 (w64 (a * (cfK m).1) + (cfK m).2) = (cfK (a :: m)).1 := by
        have hx : (cfK (a :: m)).1 = a * (cfK m).1 + (cfK m).2 := rfl
        rw [hx] at hb1 ⊢
        rw [w64_of (n := a * (cfK m).1) (by omega) (by omega), w64_of (by omega) (by omega)]
      rw [spec_l01Fold_l3, ei, dec_le_t (by omega), cond_true, dec_lt_t (by omega), Bool.and_self, cond_true, Int.toNat_natCast, hg, Option.bind_some, w1]
      simp only [spec_l01Fits_eq, crd_of hb1.1.1 hb1.1.2, crd_of hb2.1.1 hb2.1.2, Bool.not_true, cond_false]
      have e2 : w64 ((i : Int) - 1) = (i : Int) - 1 := w64_of (by omega) (by omega)
      rw [e2]
      exact spec_fold_l3 L hL hb i l' (a :: m) k b0 r0 he' (by simp) hl' (by omega)

theorem spec_l01Fold_eq (L : List Int) (hL : L.length ≤ 100000000) (hne : L ≠ []) (hb : ∀ l m, L = l ++ m → m ≠ [] → (-1000000 ≤ (cfK m).1 ∧ (cfK m).1 ≤ 1000000) ∧ (-1000000 ≤ (cfK m).2 ∧ (cfK m).2 ≤ 1000000)) (k : Nat) (hk : L.length < k) (r : Int → Int → Bool → Option α) : spec_l01Fold k L r = r (cfK L).1 (cfK L).2 true := by
  unfold spec_l01Fold
  have hpos : 0 < L.length := List.length_pos_iff.2 hne
  obtain ⟨l, a, rfl⟩ : ∃ l a, L = l ++ [a] := ⟨L.dropLast, L.getLast hne, (List.dropLast_concat_getLast _).symm⟩
  have hl : (l ++ [a]).length = l.length + 1 := by simp
  have e1 : w64 (((l ++ [a]).length : Int) - 1) = (l.length : Int) := by rw [w64_of (by omega) (by omega)]; omega
  have e2 : w64 (((l ++ [a]).length : Int) - 2) = (l.length : Int) - 1 := by rw [w64_of (by omega) (by omega)]; omega
  have hg : (l ++ [a])[l.length]? = some a := by simp
  have h := spec_fold_l3 (α := α) (l ++ [a]) hL hb l.length l [a] k (fun p q i l => r p q true) r rfl (by simp) rfl (by omega)
  simp only [cfK, Int.mul_one, Int.add_zero] at h
  rw [e1, e2, dec_le_t (by omega), dec_lt_t (by omega), Bool.and_self, cond_true, Int.toNat_natCast, hg, Option.bind_some]
  exact h

theorem take_app {l : List Int} {n : Nat} : l = l.take n ++ l.drop n := (List.take_append_drop n l).symm

/-- What is asked of the beginnings of an expansion. -/
theorem begin_bounds {p q : Int} (hp : -1000000 ≤ p) (hp1 : p ≤ 1000000) (hq : 1 ≤ q) (hq1 : q ≤ 1000000) {x y : List Int} (hxy : cfX p q = x ++ y) (hx : x ≠ []) :
    (∀ l m, x = l ++ m → m ≠ [] → (-1000000 ≤ (cfK m).1 ∧ (cfK m).1 ≤ 1000000) ∧ (-1000000 ≤ (cfK m).2 ∧ (cfK m).2 ≤ 1000000)) := by
  intro l m he hm
  have hb := cfK_bounds hp hp1 hq hq1 (n := 1000002) (by omega) hxy hx
  cases l with
  | nil =>
    simp only [List.nil_append] at he
    subst he
    omega
  | cons a l =>
    have hpos : Pos (l ++ (m ++ y)) := by
      intro b hb
      have h1 : cfX p q = a :: (l ++ (m ++ y)) := by rw [hxy, he]; simp
      unfold cfX at h1
      rw [show (1000002 : Nat) = 1000001 + 1 from rfl, cfE, if_neg (by omega)] at h1
      injection h1 with h1 h2
      exact cfE_pos 1000001 q (p % q) (Int.emod_nonneg _ (by omega)) (Int.emod_lt_of_pos _ (by omega)) b (by rw [h2]; exact hb)
    have hpm : Pos (l ++ m) := fun b hb => hpos b (by simp only [List.mem_append] at hb ⊢; rcases hb with h | h; exact .inl h; exact .inr (.inl h))
    have hs := cfK_suffix hpm
    have hm2 : Pos m := fun b hb => hpm b (by simp [hb])
    obtain ⟨p1, p2, p3⟩ := cfK_pos hm2
    have hx2 : (cfK x).2 = (cfK (l ++ m)).1 := by rw [he]; rfl
    omega

theorem spec_convs_l5 (p q : Int) (hp : -1000000 ≤ p) (hp1 : p ≤ 1000000) (hq : 1 ≤ q) (hq1 : q ≤ 1000000) : ∀ (j n k : Nat) b0 (r0 : Int → Option α) r1, n + j = (cfX p q).length → j + 1000003 < k → spec_ConvergentsOf_l5 k ((n : Int) + 1) (cfX p q) (convs (cfX p q) n) b0 r0 r1 = b0 ((cfX p q).length + 1 : Nat) (cfX p q) (convs (cfX p q) (cfX p q).length)
  | 0, n, k, b0, r0, r1, hn, hk => by
    cases k with
    | zero => omega
    | succ k =>
      have hn' : n = (cfX p q).length := by omega
      rw [spec_ConvergentsOf_l5, dec_le_f (by omega), cond_false, hn']
      rfl
  | j + 1, n, k, b0, r0, r1, hn, hk => by
    cases k with
    | zero => omega
    | succ k =>
      have hlen := cfX_length p q
      have ht : (n : Int) + 1 ≤ ((cfX p q).length : Int) := by omega
      have etn : ((n : Int) + 1).toNat = n + 1 := by omega
      have hx : (cfX p q).take (n + 1) ≠ [] := by
        intro e
        have := congrArg List.length e
        rw [List.length_take, List.length_nil] at this
        omega
      have hbb := begin_bounds hp hp1 hq hq1 (x := (cfX p q).take (n + 1)) (y := (cfX p q).drop (n + 1)) take_app hx
      have hfold := fun r => spec_l01Fold_eq (α := α) ((cfX p q).take (n + 1)) (by simp; omega) hx hbb k (by simp; omega) r
      have e2 : w64 ((n : Int) + 1 + 1) = ((n + 1 : Nat) : Int) + 1 := by rw [w64_of (by omega) (by omega)]; omega
      rw [spec_ConvergentsOf_l5, dec_le_t ht, cond_true, dec_le_t (by omega), Bool.and_self, cond_true, etn]
      simp only [Nat.sub_zero, List.drop_zero, hfold]
      rw [dec_nle_t (by rw [big_val, convs_length]; omega), cond_true, e2]
      have e3 : convs (cfX p q) n ++ [((cfK ((cfX p q).take (n + 1))).1, (cfK ((cfX p q).take (n + 1))).2)] = convs (cfX p q) (n + 1) := by rw [convs_succ]
      rw [e3]
      exact spec_convs_l5 p q hp hp1 hq hq1 j (n + 1) k b0 r0 r1 (by omega) (by omega)

theorem spec_ConvergentsOf_eq (p q : Int) (hp : -1000000 ≤ p) (hp1 : p ≤ 1000000) (hq : 1 ≤ q) (hq1 : q ≤ 1000000) (k : Nat) (hk : 3000000 < k) (r0 : Int → Option α) r1 : spec_ConvergentsOf k p q r0 r1 = r1 (convs (cfX p q) (cfX p q).length) 0 := by
  unfold spec_ConvergentsOf
  have hlen := cfX_length p q
  simp only [spec_l01Fits_eq, spec_l01In_eq, crd_of hp hp1, inB_iff.2 ⟨hq, hq1⟩, Bool.not_true, cond_false]
  rw [spec_l01Expand_eq k (by omega) p q _ hp hp1 (by omega) hq1]
  have h := spec_convs_l5 (α := α) p q hp hp1 hq hq1 (cfX p q).length 0 k (fun _ _ out => r1 out 0) r0 r1 (by omega) (by omega)
  simpa [convs] using h

theorem impl_convs_l3 (p q : Int) (hp : -1000000 ≤ p) (hp1 : p ≤ 1000000) (hq : 1 ≤ q) (hq1 : q ≤ 1000000) : ∀ (j n k : Nat) b0 (r0 : (List (Int × Int)) → Option α), n + j = (cfX p q).length → j < k → ∃ a b c d, impl_convergents_l3 k ((cfX p q).length : Int) (n : Int) (convs (cfX p q) n) (fw ((cfX p q).take n)).1.1 (fw ((cfX p q).take n)).1.2 (fw ((cfX p q).take n)).2.1 (fw ((cfX p q).take n)).2.2 (cfX p q) b0 r0 = b0 ((cfX p q).length : Int) ((cfX p q).length : Int) (convs (cfX p q) (cfX p q).length) a b c d (cfX p q)
  | 0, n, k, b0, r0, hn, hk => by
    cases k with
    | zero => omega
    | succ k =>
      have hn' : n = (cfX p q).length := by omega
      refine ⟨(fw ((cfX p q).take n)).1.1, (fw ((cfX p q).take n)).1.2, (fw ((cfX p q).take n)).2.1, (fw ((cfX p q).take n)).2.2, ?_⟩
      rw [impl_convergents_l3, dec_lt_f (by omega), cond_false, hn']
  | j + 1, n, k, b0, r0, hn, hk => by
    cases k with
    | zero => omega
    | succ k =>
      have hlen := cfX_length p q
      have hlt : n < (cfX p q).length := by omega
      have hg : (cfX p q)[n]? = some (cfX p q)[n] := List.getElem?_eq_getElem hlt
      have htk : (cfX p q).take (n + 1) = (cfX p q).take n ++ [(cfX p q)[n]] := by rw [List.take_add_one, hg]; rfl
      have hx : (cfX p q).take (n + 1) ≠ [] := by rw [htk]; exact List.append_ne_nil_of_right_ne_nil _ (by simp)
      have hb := cfK_bounds hp hp1 hq hq1 (n := 1000002) (by omega) (l := (cfX p q).take (n + 1)) (m := (cfX p q).drop (n + 1)) take_app hx
      have hfw := fw_eq ((cfX p q).take (n + 1))
      have hst := fw_snoc ((cfX p q).take n) (cfX p q)[n]
      rw [← htk] at hst
      obtain ⟨a, b, c, d, e⟩ := impl_convs_l3 p q hp hp1 hq hq1 j (n + 1) k b0 r0 (by omega) (by omega)
      refine ⟨a, b, c, d, ?_⟩
      rw [← e]
      rw [← hfw] at hb
      rw [hst] at hb ⊢
      simp only [fwS] at hb ⊢
      -- the state ahead
      have hold : (-1000000 ≤ (fw ((cfX p q).take n)).2.1 ∧ (fw ((cfX p q).take n)).2.1 ≤ 1000000) ∧ (-1000000 ≤ (fw ((cfX p q).take n)).2.2 ∧ (fw ((cfX p q).take n)).2.2 ≤ 1000000) := by
        cases n with
        | zero => simp [fw]
        | succ n =>
          have hg2 : (cfX p q)[n]? = some (cfX p q)[n] := List.getElem?_eq_getElem (by omega)
          have htk2 : (cfX p q).take (n + 1) = (cfX p q).take n ++ [(cfX p q)[n]] := by rw [List.take_add_one, hg2]; rfl
          have hst2 := fw_snoc ((cfX p q).take n) (cfX p q)[n]
          rw [← htk2] at hst2
          rw [hst2]
          simp only [fwS, fw_eq]
          cases n with
          | zero => simp [cfK]
          | succ n =>
            have hx2 : (cfX p q).take (n + 1) ≠ [] := by
              intro e
              have := congrArg List.length e
              rw [List.length_take, List.length_nil] at this
              omega
            obtain ⟨⟨a1, a2⟩, a3, a4⟩ := cfK_bounds hp hp1 hq hq1 (n := 1000002) (by omega) (l := (cfX p q).take (n + 1)) (m := (cfX p q).drop (n + 1)) take_app hx2
            exact ⟨⟨a1, a2⟩, by omega, a4⟩
      rw [impl_convergents_l3, dec_lt_t (by omega), cond_true, dec_le_t (by omega), Bool.and_self, cond_true, Int.toNat_natCast, hg, Option.bind_some]
      simp only [impl_Point_plus]
      rw [dec_nle_t (by rw [big_val, convs_length]; omega), cond_true]
      generalize hA : (fw ((cfX p q).take n)).1.1 = A at *
      generalize hB : (fw ((cfX p q).take n)).1.2 = B at *
      generalize hC : (fw ((cfX p q).take n)).2.1 = C at *
      generalize hD : (fw ((cfX p q).take n)).2.2 = D at *
      generalize hE : (cfX p q)[n] = E at *
      have w1 : w64 (C + w64 (E * A)) = C + E * A := by rw [w64_of (n := E * A) (by omega) (by omega), w64_of (by omega) (by omega)]
      have w2 : w64 (D + w64 (E * B)) = D + E * B := by rw [w64_of (n := E * B) (by omega) (by omega), w64_of (by omega) (by omega)]
      have e2 : w64 ((n : Int) + 1) = ((n + 1 : Nat) : Int) := by rw [w64_of (by omega) (by omega)]; omega
      have e3 : convs (cfX p q) n ++ [(C + E * A, D + E * B)] = convs (cfX p q) (n + 1) := by
        rw [convs_succ, ← hfw, hst]
        simp only [fwS, hA, hB, hC, hD]
      rw [w1, w2, e2, e3]

theorem impl_convergents_eq (p q : Int) (hp : -1000000 ≤ p) (hp1 : p ≤ 1000000) (hq : 1 ≤ q) (hq1 : q ≤ 1000000) (k : Nat) (hk : 3000000 < k) (r : (List (Int × Int)) → Option α) : impl_convergents k p q r = r (convs (cfX p q) (cfX p q).length) := by
  unfold impl_convergents
  have hlen := cfX_length p q
  rw [impl_expand_eq k (by omega) p q _ hp hp1 (by omega) hq1]
  obtain ⟨a, b, c, d, e⟩ := impl_convs_l3 (α := α) p q hp hp1 hq hq1 (cfX p q).length 0 k (fun _ _ out _ _ _ _ _ => r out) r (by omega) (by omega)
  simpa [convs, fw] using e

theorem spec_has_l5 : ∀ (rest : List (Int × Int)) (k i : Nat) (s : List (Int × Int)) (x y : Int) (r : Bool → Int → Option α), s.drop i = rest → s.length ≤ 100000000 → i ≤ s.length → rest.length < k → spec_IsConvergent_l5 k x y i s (fun _ _ _ _ => r false 0) r = r (rest.any fun e => decide (e.1 = x) && decide (e.2 = y)) 0
  | [], k, i, s, x, y, r, hd, hb, hi, hk => by
    cases k with
    | zero => omega
    | succ k =>
      have h1 := drop_nil hd
      rw [spec_IsConvergent_l5, dec_lt_f (by omega)]
      rfl
  | e :: rest, k, i, s, x, y, r, hd, hb, hi, hk => by
    cases k with
    | zero => omega
    | succ k =>
      obtain ⟨h1, h2, h3⟩ := drop_cons hd
      have e1 : w64 ((i : Int) + 1) = ((i + 1 : Nat) : Int) := by rw [w64_of (by omega) (by omega)]; omega
      rw [spec_IsConvergent_l5, dec_lt_t (by omega), cond_true, dec_le_t (by omega), Bool.and_self, cond_true, Int.toNat_natCast, h1, Option.bind_some, e1, List.any_cons]
      cases hc : (decide (e.1 = x) && decide (e.2 = y)) with
      | true => rfl
      | false =>
        rw [cond_false, Bool.false_or]
        exact spec_has_l5 rest k (i + 1) s x y r h2 hb (by omega) (by simp at hk; omega)

theorem slices_Contains_points (k : Nat) (s : List (Int × Int)) (x y : Int) (r : Bool → Option α) (hs : s.length ≤ 100000000) (hk : s.length < k) : slices_Contains_impl_Point_impl_Point k s x y r = r (s.any fun e => decide (e.1 = x) && decide (e.2 = y)) := by
  unfold slices_Contains_impl_Point_impl_Point slices_Index_impl_Point_impl_Point
  have key : ∀ (rest : List (Int × Int)) (k i : Nat), s.drop i = rest → i ≤ s.length → rest.length < k → slices_Index_impl_Point_impl_Point_l2 k s.length i s x y (fun _ _ _ _ _ => r (decide ((0 : Int) ≤ -1))) (fun v => r (decide (0 ≤ v))) = r (rest.any fun e => decide (e.1 = x) && decide (e.2 = y)) := by
    intro rest
    induction rest with
    | nil =>
      intro k i hd hi hk
      cases k with
      | zero => omega
      | succ k =>
        have h1 := drop_nil hd
        rw [slices_Index_impl_Point_impl_Point_l2, dec_lt_f (by omega)]
        rfl
    | cons e rest ih =>
      intro k i hd hi hk
      cases k with
      | zero => omega
      | succ k =>
        obtain ⟨h1, h2, h3⟩ := drop_cons hd
        have e1 : w64 ((i : Int) + 1) = ((i + 1 : Nat) : Int) := by rw [w64_of (by omega) (by omega)]; omega
        have hc2 : (decide (x = e.1) && decide (y = e.2)) = (decide (e.1 = x) && decide (e.2 = y)) := by
          congr 1 <;> exact decide_eq_decide.2 ⟨Eq.symm, Eq.symm⟩
        rw [slices_Index_impl_Point_impl_Point_l2, dec_lt_t (by omega), cond_true, dec_le_t (by omega), Bool.and_self, cond_true, Int.toNat_natCast, h1, Option.bind_some, e1, List.any_cons, hc2]
        cases hc : (decide (e.1 = x) && decide (e.2 = y)) with
        | true => rw [cond_true]; rfl
        | false =>
          rw [cond_false, Bool.false_or]
          exact ih k (i + 1) h2 (by omega) (by simp at hk; omega)
  exact key s k 0 (by simp) (by omega) hk

theorem conv_both (k : Nat) (hk : 4000000 < k) (p q x y : Int) : ∃ b c, (∀ r : Bool → Int → Option α, spec_IsConvergent k p q x y r = r b c) ∧ (∀ r : Bool → Int → Option α, impl_IsConvergent k p q x y r = r b c) := by
  simp only [spec_IsConvergent, impl_IsConvergent, spec_l10Ratio_eq, impl_ratioOk_eq]
  cases h1 : (crd p && inB q 1 1000000) with
  | false => exact ⟨false, 2, by simp, by simp⟩
  | true =>
    cases h2 : (crd x && inB y 1 1000000) with
    | false => exact ⟨false, 2, by simp, by simp⟩
    | true =>
      simp only [Bool.and_eq_true, crd_iff, inB_iff] at h1 h2
      have hlen := cfX_length p q
      refine ⟨(convs (cfX p q) (cfX p q).length).any fun e => decide (e.1 = x) && decide (e.2 = y), 0, fun r => ?_, fun r => ?_⟩
      · rw [Bool.not_true, cond_false, cond_false, spec_ConvergentsOf_eq p q h1.1.1 h1.1.2 h1.2.1 h1.2.2 k (by omega)]
        exact spec_has_l5 (α := α) (convs (cfX p q) (cfX p q).length) k 0 (convs (cfX p q) (cfX p q).length) x y r (by simp) (by rw [convs_length]; omega) (by omega) (by rw [convs_length]; omega)
      · rw [Bool.not_true, cond_false, cond_false, impl_convergents_eq p q h1.1.1 h1.1.2 h1.2.1 h1.2.2 k (by omega)]
        exact slices_Contains_points k _ x y _ (by rw [convs_length]; omega) (by rw [convs_length]; omega)

def cmpI (x y : Int) : Int := if x < y then -1 else if y < x then 1 else 0

theorem cmp_Compare_eq (k : Nat) (x y : Int) (r : Int → Option α) : cmp_Compare_int64 k x y r = r (cmpI x y) := by
  simp only [cmp_Compare_int64, cmp_isNaN_int64, decide_true, Bool.not_true, cond_false]
  unfold cmpI
  by_cases h : x < y
  · simp [h]
  · by_cases h2 : y < x <;> simp [h, h2]

/-- A code. -/
structure IsCode (l : List Int) : Prop where
  len : l.length ≤ 4096
  byte : ∀ x ∈ l, 0 ≤ x ∧ x ≤ 255

/-- How far a code is read. -/
def AtC (l : List Int) (a : Int) : Prop := 0 ≤ a ∧ a ≤ l.length

theorem mask_b (h : Int) : 0 ≤ w64 (IntKind.wrap .u64 ((BitVec.ofInt 64 h &&& BitVec.ofInt 64 1073741823).toNat : Nat)) ∧ w64 (IntKind.wrap .u64 ((BitVec.ofInt 64 h &&& BitVec.ofInt 64 1073741823).toNat : Nat)) ≤ 1073741823 := by
  have h1 : (BitVec.ofInt 64 h &&& BitVec.ofInt 64 1073741823).toNat ≤ 1073741823 := by
    rw [BitVec.toNat_and]
    exact Nat.le_trans Nat.and_le_right (by decide)
  rw [IntWalk.u64_in _ (by omega), w64_of (by omega) (by omega)]
  omega

/-- The next hash, and the number that it tells. -/
def lcg (h : Int) : Int := IntKind.wrap .u64 ((IntKind.wrap .u64 (h * 6364136223846793005)) + 1442695040888963407)

def lcgX (h : Int) : Int := w64 (IntKind.wrap .u64 ((BitVec.ofInt 64 (Int.fdiv (lcg h) (2 ^ 31)) &&& BitVec.ofInt 64 1073741823).toNat : Nat))

theorem lcgX_b (h : Int) : 0 ≤ lcgX h ∧ lcgX h ≤ 1073741823 := mask_b _

theorem next_eq (l : List Int) (a : Int) (k : Nat) (h n : Int) (r : Int → Int → Int → Option α) : spec_l01Next k l a h n r = bif decide (n < 1) then r 0 a h else bif decide (a < (l.length : Nat)) then (bif decide (0 ≤ a) && decide (a < (l.length : Nat)) then (l[a.toNat]?).bind fun e => bif decide (n = 0) then none else r (Int.tmod (w64 (lcgX h + w64 e)) n) (w64 (a + 1)) (lcg h) else none) else bif decide (n = 0) then none else r (Int.tmod (lcgX h) n) a (lcg h) := rfl

theorem next_ok {l : List Int} (hl : IsCode l) {a : Int} (ha : AtC l a) (k : Nat) (h n : Int) : ∃ v a' h', AtC l a' ∧ 0 ≤ v ∧ (v < n ∨ (n < 1 ∧ v = 0)) ∧ ∀ r : Int → Int → Int → Option α, spec_l01Next k l a h n r = r v a' h' := by
  have hlen := hl.len
  unfold AtC at ha
  by_cases h1 : n < 1
  · exact ⟨0, a, h, ha, by omega, .inr ⟨h1, rfl⟩, fun r => by rw [next_eq, dec_lt_t h1, cond_true]⟩
  · have hz : decide (n = 0) = false := decide_eq_false (by omega)
    have h1' : decide (n < 1) = false := decide_eq_false h1
    obtain ⟨m1, m2⟩ := lcgX_b h
    by_cases h2 : a < l.length
    · have hlt : a.toNat < l.length := by omega
      have hb := hl.byte l[a.toNat] (List.getElem_mem hlt)
      refine ⟨Int.tmod (lcgX h + l[a.toNat]) n, a + 1, lcg h, by unfold AtC; omega, Int.tmod_nonneg _ (by omega), .inl (Int.tmod_lt_of_pos _ (by omega)), fun r => ?_⟩
      rw [next_eq, h1', cond_false, dec_lt_t h2, cond_true, dec_le_t ha.1, Bool.and_true, cond_true, List.getElem?_eq_getElem hlt, Option.bind_some, hz, cond_false, w64_of (n := a + 1) (by omega) (by omega), w64_of (n := l[a.toNat]) (by omega) (by omega), w64_of (n := lcgX h + l[a.toNat]) (by omega) (by omega)]
    · refine ⟨Int.tmod (lcgX h) n, a, lcg h, ha, Int.tmod_nonneg _ (by omega), .inl (Int.tmod_lt_of_pos _ (by omega)), fun r => ?_⟩
      rw [next_eq, h1', cond_false, dec_lt_f (by omega), cond_false, hz, cond_false]

theorem from_l3 {l : List Int} (hl : IsCode l) : ∀ (m k i : Nat) (s h : Int) (r : Int → Int → Option α), i + m = l.length → m < k → ∃ h', ∀ (r : Int → Int → Option α), spec_l01From_l3 k i l s h (fun _ _ s1 s2 => r s1 s2) r = r s h'
  | 0, k + 1, i, s, h, r, hi, _ => ⟨h, fun r => by
    rw [spec_l01From_l3, dec_lt_f (by omega), cond_false]⟩
  | m + 1, k + 1, i, s, h, r, hi, hk => by
    have hlen := hl.len
    have en : w64 ((i : Int) + 1) = ((i + 1 : Nat) : Int) := by rw [w64_of (by omega) (by omega)]; omega
    have hlt : i < l.length := by omega
    obtain ⟨h', ih⟩ := from_l3 hl m k (i + 1) s (IntKind.wrap .u64 ((IntKind.wrap .u64 ((IntKind.wrap .u64 (h * 1099511628211)) + (IntKind.wrap .u64 l[i]))) + 107)) r (by omega) (by omega)
    refine ⟨h', fun r => ?_⟩
    rw [spec_l01From_l3, dec_lt_t (by omega), cond_true, dec_lt_t (by omega), cond_true, dec_le_t (by omega), Bool.and_true, cond_true, Int.toNat_natCast, List.getElem?_eq_getElem hlt, Option.bind_some, en]
    exact ih r
  | _, 0, _, _, _, _, _, hk => by omega

theorem from_ok {l : List Int} (hl : IsCode l) (k : Nat) (hk : 4096 < k) : ∃ h, AtC l 0 ∧ ∀ r : Int → Int → Option α, spec_l01From k l r = r 0 h := by
  have hlen := hl.len
  obtain ⟨h', e⟩ := from_l3 (α := α) hl l.length k 0 0 (IntKind.wrap .u64 (12971 + (IntKind.wrap .u64 (((List.length l) : Nat) : Int)))) (fun _ _ => none) (by omega) (by omega)
  exact ⟨h', ⟨by omega, by omega⟩, fun r => e r⟩

theorem pick_ok {l : List Int} (hl : IsCode l) {a : Int} (ha : AtC l a) (k : Nat) (h : Int) {list : List Int} (h0 : 0 < list.length) (h1 : list.length ≤ 1000) : ∃ v a' h', AtC l a' ∧ v ∈ list ∧ ∀ r : Int → Int → Int → Option α, spec_l01Pick k l a h list r = r v a' h' := by
  obtain ⟨v, a', h', i1, i2, i3, i4⟩ := next_ok (α := α) hl ha k h (list.length : Int)
  have hv : v < list.length := by omega
  have hlt : v.toNat < list.length := by omega
  refine ⟨list[v.toNat], a', h', i1, List.getElem_mem hlt, fun r => ?_⟩
  unfold spec_l01Pick
  rw [i4, dec_le_t i2, dec_lt_t hv, Bool.and_true, cond_true, List.getElem?_eq_getElem hlt, Option.bind_some]

theorem near_ok {l : List Int} (hl : IsCode l) {a : Int} (ha : AtC l a) (k : Nat) (h : Int) {most : Int} (h0 : 0 ≤ most) (h1 : most ≤ 1000000000) : ∃ v a' h', AtC l a' ∧ -4611686018427387904 ≤ v ∧ v ≤ 1099511627776 ∧ ∀ r : Int → Int → Int → Option α, spec_l01Near k l a h most r = r v a' h' := by
  have w : w64 (most + 1) = most + 1 := w64_of (by omega) (by omega)
  obtain ⟨v, a1, h1', i1, i2, i3, i4⟩ := next_ok (α := α) hl ha k h 14
  by_cases hv : v = 0
  · obtain ⟨u, a2, h2, j1, j2, j3⟩ := pick_ok (α := α) hl i1 k h1' (list := [(-1), (w64 (most + 1)), 1099511627776, (-4611686018427387904)]) (by simp) (by simp)
    refine ⟨u, a2, h2, j1, ?_, ?_, fun r => ?_⟩
    · simp only [List.mem_cons, List.not_mem_nil, or_false] at j2; omega
    · simp only [List.mem_cons, List.not_mem_nil, or_false] at j2; omega
    · unfold spec_l01Near
      rw [i4, decide_eq_true hv, cond_true, j3]
  · obtain ⟨u, a2, h2, j1, j2, j3, j4⟩ := next_ok (α := α) hl i1 k h1' (w64 (most + 1))
    refine ⟨u, a2, h2, j1, by omega, by omega, fun r => ?_⟩
    unfold spec_l01Near
    rw [i4, decide_eq_false hv, cond_false, j4]

theorem laws_big_eq (k : Nat) (l : List Int) (r : Bool → Option α) : laws_big k l r = r (decide (4096 < (((List.length l) : Nat) : Int))) := rfl

theorem sk1 (z : Int) (A B : Option α) : (bif (!decide (z = z)) then A else B) = B := by simp

theorem sk2 (x y : Int) (A B : Option α) : (bif (!(decide (x = x) && decide (y = y))) then A else B) = B := by simp

theorem skb (b : Bool) (A B : Option α) : (bif (!(b == b)) then A else B) = B := by simp

theorem ok1 (z : Int) (A B : Option α) : (bif decide (z = z) then A else B) = A := by simp

/-- The best approximations from k on. -/
def bestF (second : Bool) (p q : Int) : Nat → Int → Int → Int → Bool → List (Int × Int)
  | 0, _, _, _, _ => []
  | m + 1, k, last, under, first =>
    if (first || lessQ second (nearE (k * p) q) last under k) = true then (nearP (k * p) q, k) :: (if nearE (k * p) q = 0 then [] else bestF second p q m (k + 1) (nearE (k * p) q) k false)
    else (if nearE (k * p) q = 0 then [] else bestF second p q m (k + 1) last under first)

theorem spec_bestF {p q n : Int} (second : Bool) (hq : 0 < q) (hq1 : q ≤ 1000000) (hp : -1000000 ≤ p) (hp1 : p ≤ 1000000) (hn : n ≤ 100000) : ∀ (m k : Nat) (last under k_ : Int) (out : List (Int × Int)) (r : List (Int × Int) → Option α), k_ + m = n + 1 → m < k → 1 ≤ k_ → 0 ≤ last → last ≤ 1000000 → 0 ≤ under → under ≤ 100000 → (out.length : Int) < k_ →
    spec_l10Best_l3 k p q n second last under k_ out (fun _ _ _ _ _ _ _ o => r o) r = r (out ++ bestF second p q m k_ last under (decide (out = [])))
  | 0, k + 1, last, under, k_, out, r, hm, _, hk1, hb, hb1, hy, hy1, hl => by
    rw [(spec_best_step k p q n last under k_ second out (fun _ _ _ _ _ _ _ o => r o) r hq hq1 hp hp1 hk1 hn hb hb1 hy hy1 (by omega)).1 (by omega)]
    simp [bestF]
  | m + 1, k + 1, last, under, k_, out, r, hm, hk, hk1, hb, hb1, hy, hy1, hl => by
    have hnb := near_bounds (x := k_ * p) hq
    rw [(spec_best_step k p q n last under k_ second out (fun _ _ _ _ _ _ _ o => r o) r hq hq1 hp hp1 hk1 hn hb hb1 hy hy1 (by omega)).2 (by omega), bestF]
    cases hc : (decide (out = []) || lessQ second (nearE (k_ * p) q) last under k_) with
    | true =>
      rw [cond_true, if_pos (rfl : true = true)]
      by_cases hz : nearE (k_ * p) q = 0
      · rw [if_pos hz, if_pos hz]
      · rw [if_neg hz, if_neg hz, spec_bestF second hq hq1 hp hp1 hn m k _ k_ (k_ + 1) _ r (by omega) (by omega) (by omega) (by omega) (by omega) (by omega) (by omega) (by simp; omega)]
        simp
    | false =>
      have ho : decide (out = []) = false := by
        rw [Bool.or_eq_false_iff] at hc
        exact hc.1
      simp only [cond_false, Bool.false_eq_true, if_false]
      by_cases hz : nearE (k_ * p) q = 0
      · simp [hz]
      · simp only [hz, if_false]
        rw [spec_bestF second hq hq1 hp hp1 hn m k last under (k_ + 1) out r (by omega) (by omega) (by omega) hb hb1 hy hy1 (by omega)]
  | _, 0, _, _, _, _, _, _, hk, _, _, _, _, _, _ => by omega

def bestL (second : Bool) (p q n : Int) : List (Int × Int) := bestF second p q n.toNat 1 0 1 true

theorem spec_best_eq {p q n : Int} (h : bestArgs p q n = true) (second : Bool) (k : Nat) (hk : 100000 < k) (r : List (Int × Int) → Option α) : spec_l10Best k p q n second r = r (bestL second p q n) := by
  obtain ⟨⟨h1, h2⟩, ⟨h3, h4⟩, h5, h6⟩ := bestArgs_iff h
  have := spec_bestF (α := α) second (by omega) h4 h1 h2 h6 n.toNat k 0 1 1 [] r (by omega) (by omega) (by omega) (by omega) (by omega) (by omega) (by omega) (by simp)
  unfold spec_l10Best bestL
  simpa using this

theorem bestF_sub {p q : Int} (hq : 0 < q) : ∀ (m : Nat) (k lS uS lF uF : Int) (first : Bool), 1 ≤ k → (first = true ∨ (lS ≤ lF ∧ 1 ≤ uF ∧ uF ≤ k ∧ 0 ≤ lF)) → (bestF true p q m k lS uS first).Sublist (bestF false p q m k lF uF first)
  | 0, _, _, _, _, _, _, _, _ => by simp [bestF]
  | m + 1, k, lS, uS, lF, uF, first, hk, hR => by
    have hnb := (near_bounds (x := k * p) hq).1
    rw [bestF, bestF]
    generalize nearE (k * p) q = e at hnb
    cases first with
    | true =>
      simp only [Bool.true_or, if_true]
      by_cases hz : e = 0
      · rw [if_pos hz, if_pos hz]; exact List.Sublist.refl _
      · rw [if_neg hz, if_neg hz]
        exact (bestF_sub hq m (k + 1) e k e k false (by omega) (.inr ⟨by omega, by omega, by omega, hnb⟩)).cons_cons _
    | false =>
      obtain ⟨r1, r2, r3, r4⟩ : lS ≤ lF ∧ 1 ≤ uF ∧ uF ≤ k ∧ 0 ≤ lF := by simpa using hR
      simp only [Bool.false_or, lessQ, cond_true, cond_false, decide_eq_true_eq]
      by_cases h1 : e < lS
      · have h2 : e * uF < lF * k := by
          have a1 : e * uF < lF * uF := Int.mul_lt_mul_of_pos_right (by omega) (by omega)
          have a2 : lF * uF ≤ lF * k := Int.mul_le_mul_of_nonneg_left r3 r4
          omega
        rw [if_pos h1, if_pos h2]
        by_cases hz : e = 0
        · rw [if_pos hz, if_pos hz]; exact List.Sublist.refl _
        · rw [if_neg hz, if_neg hz]
          exact (bestF_sub hq m (k + 1) e k e k false (by omega) (.inr ⟨by omega, by omega, by omega, hnb⟩)).cons_cons _
      · rw [if_neg h1]
        by_cases h2 : e * uF < lF * k
        · rw [if_pos h2]
          refine List.Sublist.cons _ ?_
          by_cases hz : e = 0
          · rw [if_pos hz, if_pos hz]; exact List.Sublist.refl _
          · rw [if_neg hz, if_neg hz]
            exact bestF_sub hq m (k + 1) lS uS e k false (by omega) (.inr ⟨by omega, by omega, by omega, hnb⟩)
        · rw [if_neg h2]
          by_cases hz : e = 0
          · rw [if_pos hz, if_pos hz]; exact List.Sublist.refl _
          · rw [if_neg hz, if_neg hz]
            exact bestF_sub hq m (k + 1) lS uS lF uF false (by omega) (.inr ⟨r1, r2, by omega, r4⟩)

theorem bestF_len (second : Bool) (p q : Int) : ∀ (m : Nat) (k l u : Int) (f : Bool), (bestF second p q m k l u f).length ≤ m
  | 0, _, _, _, _ => by simp [bestF]
  | m + 1, k, l, u, f => by
    rw [bestF]
    split
    · simp only [List.length_cons]
      split
      · simp
      · have := bestF_len second p q m (k + 1) (nearE (k * p) q) k false
        omega
    · split
      · simp
      · have := bestF_len second p q m (k + 1) l u f
        omega

theorem bestL_facts {p q n : Int} (h : bestArgs p q n = true) (second : Bool) : bestL second p q n ≠ [] ∧ (bestL second p q n).length ≤ 100000 := by
  obtain ⟨⟨h1, h2⟩, ⟨h3, h4⟩, h5, h6⟩ := bestArgs_iff h
  unfold bestL
  refine ⟨?_, ?_⟩
  · obtain ⟨m, hm⟩ : ∃ m, n.toNat = m + 1 := ⟨n.toNat - 1, by omega⟩
    rw [hm, bestF]
    simp
  · have := bestF_len second p q n.toNat 1 0 1 true
    omega

theorem impl_second_eq {p q n : Int} (h : bestArgs p q n = true) (k : Nat) (hk : 100000 < k) (r0 : Int → Option α) (r1 : List (Int × Int) → Int → Option α) : impl_BestOfSecond k p q n r0 r1 = r1 (bestL true p q n) 0 := by
  obtain ⟨res, _, _, e1, e2⟩ := best_second (α := α) h
  rw [impl_BestOfSecond_eq, h, cond_true, e2 k hk, ← e1 k hk (fun v => r1 v 0), spec_best_eq h true k hk]

theorem impl_first0_eq {p q n : Int} (h : bestArgs p q n = true) (k : Nat) (hk : 100000 < k) (r : List (Int × Int) → Option α) : impl_bestOfFirst k p q n r = r (bestL false p q n) := by
  obtain ⟨res, _, _, e1, e2⟩ := best_first (α := α) h
  rw [e2 k hk, ← e1 k hk r, spec_best_eq h false k hk]

theorem impl_first_eq {p q n : Int} (h : bestArgs p q n = true) (k : Nat) (hk : 100000 < k) (r0 : Int → Option α) (r1 : List (Int × Int) → Int → Option α) : impl_BestOfFirst k p q n r0 r1 = r1 (bestL false p q n) 0 := by
  rw [impl_BestOfFirst_eq, h, cond_true, impl_first0_eq h k hk]

theorem best_no {p q n : Int} (h : bestArgs p q n = false) (k : Nat) (r0 : Int → Option α) (r1 : List (Int × Int) → Int → Option α) : impl_BestOfSecond k p q n r0 r1 = r0 2 ∧ spec_BestOfSecond k p q n r0 r1 = r0 2 ∧ impl_BestOfFirst k p q n r0 r1 = r0 2 ∧ spec_BestOfFirst k p q n r0 r1 = r0 2 := by
  rw [impl_BestOfSecond_eq, spec_BestOfSecond_eq, impl_BestOfFirst_eq, spec_BestOfFirst_eq, h]
  exact ⟨rfl, rfl, rfl, rfl⟩

theorem nearest_both (k : Nat) (hk : 200000 < k) (p q n : Int) : ∃ x y z, (∀ r : Int → Int → Int → Option α, impl_NearestFraction k p q n r = r x y z) ∧ (∀ r : Int → Int → Int → Option α, spec_NearestFraction k p q n r = r x y z) ∧ (bestArgs p q n = true → z = 0 ∧ (bestL false p q n)[(bestL false p q n).length - 1]? = some (x, y)) := by
  simp only [spec_NearestFraction, impl_NearestFraction, spec_l10Ratio_eq, spec_l01In_eq, impl_bestOk_eq]
  cases h : bestArgs p q n with
  | false =>
    have h' := h
    unfold bestArgs at h
    refine ⟨0, 0, 2, fun r => by rw [h]; simp, fun r => ?_, fun e => by simp at e⟩
    cases h1 : (crd p && inB q 1 1000000) with
    | false => simp
    | true =>
      rw [h1, Bool.true_and] at h
      simp [h]
  | true =>
    obtain ⟨f1, f2⟩ := bestL_facts h false
    have e1 := fun r : List (Int × Int) → Option α => impl_first0_eq h k (by omega) r
    have e2 := fun r : List (Int × Int) → Option α => spec_best_eq h false k (by omega) r
    have hpos : 0 < (bestL false p q n).length := List.length_pos_iff.2 f1
    unfold bestArgs at h
    rw [h]
    simp only [Bool.and_eq_true] at h
    simp only [h.1.1, h.1.2, h.2, Bool.and_self, Bool.not_true, cond_false, e1, e2]
    rw [w64_of (n := ((bestL false p q n).length : Int) - 1) (by omega) (by omega), dec_le_t (by omega), dec_lt_t (by omega), Bool.and_self]
    simp only [cond_true]
    have e : (((bestL false p q n).length : Int) - 1).toNat = (bestL false p q n).length - 1 := by omega
    rw [e]
    cases hg : (bestL false p q n)[(bestL false p q n).length - 1]? with
    | none => rw [List.getElem?_eq_none_iff] at hg; omega
    | some x => exact ⟨x.1, x.2, 0, fun r => rfl, fun r => rfl, fun _ => ⟨rfl, rfl⟩⟩

theorem points9_l4_same : ∀ (rest : List (Int × Int)) (k i : Nat) (s : List (Int × Int)) (r : Bool → Option α), s.drop i = rest → s.length ≤ big → i ≤ s.length → rest.length < k → laws_points9_l4 k i s s (fun _ _ _ => r true) r = r true
  | [], k + 1, i, s, r, hd, hb, hi, _ => by
    have := drop_nil hd
    rw [laws_points9_l4, dec_lt_f (by omega), cond_false]
  | e :: rest, k + 1, i, s, r, hd, hb, hi, hk => by
    obtain ⟨h1, h2, h3⟩ := drop_cons hd
    rw [big_val] at hb
    have en : w64 ((i : Int) + 1) = ((i + 1 : Nat) : Int) := by rw [w64_of (by omega) (by omega)]; omega
    simp only [List.length_cons] at hk
    rw [laws_points9_l4, dec_lt_t (by omega), dec_le_t (by omega), cond_true, Bool.and_true, cond_true, Int.toNat_natCast, h1, Option.bind_some, Option.bind_some, sk2, en]
    exact points9_l4_same rest k (i + 1) s r h2 (by rw [big_val]; omega) (by omega) (by omega)
  | _, 0, _, _, _, _, _, _, hk => by omega

theorem points9_refl (k : Nat) (s : List (Int × Int)) (r : Bool → Option α) (hs : s.length ≤ big) (hk : s.length < k) : laws_points9 k s s r = r true := by
  have := points9_l4_same (α := α) s k 0 s r (by simp) hs (by omega) hk
  unfold laws_points9
  simpa using this

theorem find_l45 {second all : List (Int × Int)} {i : Nat} {x : Int × Int} {ys : List (Int × Int)} (hx : second[i]? = some x) (hi : i < second.length) (hb1 : second.length ≤ big) (hb : all.length ≤ big) : ∀ (rest : List (Int × Int)) (a : Nat), all.drop a = rest → (x :: ys).Sublist rest → a ≤ all.length →
    ∃ a', a ≤ a' ∧ a' < all.length ∧ (x :: ys).Sublist (all.drop a') ∧ ∀ k, rest.length < k → ∀ b2 (r0 : Bool → Option α), laws_FnBests_l45 k a i second all b2 r0 = b2 a' i second all
  | [], a, hd, hs, _ => by simp at hs
  | e :: rest, a, hd, hs, ha => by
    obtain ⟨h1, h2, h3⟩ := drop_cons hd
    rw [big_val] at hb hb1
    have en : w64 ((a : Int) + 1) = ((a + 1 : Nat) : Int) := by rw [w64_of (by omega) (by omega)]; omega
    have go : ∀ k b2 (r0 : Bool → Option α), laws_FnBests_l45 (k + 1) a i second all b2 r0 = bif (!(decide (e.1 = x.1) && decide (e.2 = x.2))) then laws_FnBests_l45 k ((a + 1 : Nat) : Int) i second all b2 r0 else b2 a i second all := fun k b2 r0 => by
      rw [laws_FnBests_l45, dec_lt_t (by omega), dec_le_t (by omega), cond_true, Bool.and_true, cond_true, Int.toNat_natCast, h1, Option.bind_some, dec_le_t (by omega), dec_lt_t (by omega), Bool.and_self, cond_true, Int.toNat_natCast, hx, Option.bind_some, en]
    by_cases he : e = x
    · subst he
      refine ⟨a, Nat.le_refl _, h3, by rw [hd]; exact hs, fun k hk b2 r0 => ?_⟩
      obtain ⟨k, rfl⟩ : ∃ k', k = k' + 1 := ⟨k - 1, by simp at hk; omega⟩
      rw [go, sk2]
    · have hs2 : (x :: ys).Sublist rest := by
        cases hs with
        | cons _ h => exact h
        | cons_cons _ h => exact absurd rfl he
      obtain ⟨a', g1, g2, g3, g4⟩ := find_l45 hx hi (by rw [big_val]; omega) (by rw [big_val]; omega) rest (a + 1) h2 hs2 (by omega)
      refine ⟨a', by omega, g2, g3, fun k hk b2 r0 => ?_⟩
      simp only [List.length_cons] at hk
      obtain ⟨k, rfl⟩ : ∃ k', k = k' + 1 := ⟨k - 1, by omega⟩
      have hc : (decide (e.1 = x.1) && decide (e.2 = x.2)) = false := by
        rw [Bool.and_eq_false_iff, decide_eq_false_iff_not, decide_eq_false_iff_not]
        rcases Classical.em (e.1 = x.1) with h | h
        · exact .inr fun h2 => he (Prod.ext h h2)
        · exact .inl h
      rw [go, hc, Bool.not_false, cond_true]
      exact g4 k (by omega) b2 r0

theorem all_l43 {second all : List (Int × Int)} (hb1 : second.length ≤ big) (hb : all.length ≤ big) : ∀ (rest : List (Int × Int)) (k i a : Nat) (r : Bool → Option α), second.drop i = rest → rest.Sublist (all.drop a) → i ≤ second.length → a ≤ all.length → rest.length + all.length < k →
    laws_FnBests_l43 k a i second all (fun _ _ _ _ => r true) r = r true
  | [], k + 1, i, a, r, hd, hs, hi, ha, _ => by
    have := drop_nil hd
    rw [laws_FnBests_l43, dec_lt_f (by omega), cond_false]
  | x :: rest, k + 1, i, a, r, hd, hs, hi, ha, hk => by
    obtain ⟨h1, h2, h3⟩ := drop_cons hd
    simp only [List.length_cons] at hk
    obtain ⟨a', g1, g2, g3, g4⟩ := find_l45 (α := α) h1 h3 hb1 hb (all.drop a) a rfl hs ha
    rw [big_val] at hb hb1
    have en : w64 ((i : Int) + 1) = ((i + 1 : Nat) : Int) := by rw [w64_of (by omega) (by omega)]; omega
    have hne : decide ((a' : Int) = (all.length : Int)) = false := decide_eq_false (by omega)
    rw [laws_FnBests_l43, dec_lt_t (by omega), cond_true, g4 k (by simp; omega), hne, cond_false, en]
    exact all_l43 (by rw [big_val]; omega) (by rw [big_val]; omega) rest k (i + 1) a' r h2 ((List.sublist_cons_self _ _).trans g3) (by omega) (by omega) (by omega)
  | _, 0, _, _, _, _, _, _, _, hk => by omega

theorem compare_both (k : Nat) (p q s t : Int) : ∃ v z, (∀ r : Int → Int → Option α, impl_CompareRatios k p q s t r = r v z) ∧ (∀ r : Int → Int → Option α, spec_CompareRatios k p q s t r = r v z) ∧ (z = 0 → ∀ r : Int → Int → Option α, impl_CompareRatios k s t p q r = r (w64 (0 - v)) 0) := by
  simp only [impl_CompareRatios, spec_CompareRatios, impl_ratioOk_eq, spec_l10Ratio_eq, cmp_Compare_eq]
  cases h1 : (crd p && inB q 1 1000000) with
  | false => exact ⟨0, 2, fun r => by simp, fun r => by simp, fun e => by omega⟩
  | true =>
    cases h2 : (crd s && inB t 1 1000000) with
    | false => exact ⟨0, 2, fun r => by simp, fun r => by simp, fun e => by omega⟩
    | true =>
      simp only [Bool.not_true, cond_false]
      generalize w64 (p * t) = x
      generalize w64 (s * q) = y
      refine ⟨cmpI x y, 0, fun r => rfl, fun r => ?_, fun _ r => ?_⟩
      · unfold cmpI
        by_cases h : x < y
        · simp [h]
        · by_cases h' : y < x <;> simp [h, h']
      · have : cmpI y x = w64 (0 - cmpI x y) := by
          unfold cmpI
          by_cases h : x < y
          · have h' : ¬ y < x := by omega
            simp only [h, h', if_true, if_false]; decide
          · by_cases h' : y < x
            · simp only [h, h', if_true, if_false]; decide
            · simp only [h, h', if_false]; decide
        rw [this]

theorem draw10_ok {l : List Int} (hl : IsCode l) {a : Int} (ha : AtC l a) (k : Nat) (h : Int) : ∃ p q a' h', AtC l a' ∧ ∀ r : Int → Int → Int → Int → Option α, spec_l10Draw k l a h r = r p q a' h' := by
  obtain ⟨v, a1, h1, i1, _, _, e1⟩ := next_ok (α := α) hl ha k h 12
  obtain ⟨u, a2, h2, i2, _, _, e2⟩ := next_ok (α := α) hl i1 k h1 100
  obtain ⟨w, a3, h3, i3, _, _, e3⟩ := near_ok (α := α) hl i2 k h2 (most := 1000000) (by omega) (by omega)
  obtain ⟨q, a4, h4, i4, _, e4⟩ := pick_ok (α := α) hl i3 k h3 (list := [(w64 (1 + v)), (w64 (1 + u)), w]) (by simp) (by simp)
  obtain ⟨x, a5, h5, i5, _, _, e5⟩ := next_ok (α := α) hl i4 k h4 (w64 ((w64 (3 * (max q 1))) + 1))
  obtain ⟨y, a6, h6, i6, _, _, e6⟩ := next_ok (α := α) hl i5 k h5 30
  by_cases h0 : y = 0
  · obtain ⟨z, a7, h7, i7, _, e7⟩ := pick_ok (α := α) hl i6 k h6 (list := [0, (-3), 1000001]) (by simp) (by simp)
    exact ⟨w64 (x - q), z, a7, h7, i7, fun r => by unfold spec_l10Draw; rw [e1, e2, e3, e4, e5, e6, decide_eq_true h0, cond_true, e7]⟩
  · by_cases h9 : y = 1
    · obtain ⟨z, a7, h7, i7, _, e7⟩ := pick_ok (α := α) hl i6 k h6 (list := [1000000, (-1000000), 1000001]) (by simp) (by simp)
      exact ⟨z, q, a7, h7, i7, fun r => by unfold spec_l10Draw; rw [e1, e2, e3, e4, e5, e6, decide_eq_false h0, cond_false, decide_eq_true h9, cond_true, e7]⟩
    · exact ⟨w64 (x - q), q, a6, h6, i6, fun r => by unfold spec_l10Draw; rw [e1, e2, e3, e4, e5, e6, decide_eq_false h0, cond_false, decide_eq_false h9, cond_false]⟩

theorem with10_ok {l : List Int} (hl : IsCode l) (k : Nat) (hk : 4096 < k) {most : Int} (h0 : 0 ≤ most) (h1 : most ≤ 1000000) : ∃ p q n, ∀ r : Int → Int → Int → Option α, spec_l10With k l most r = r p q n := by
  obtain ⟨h0', i0, e0⟩ := from_ok (α := α) hl k hk
  obtain ⟨p, q, a1, h1', i1, e1⟩ := draw10_ok (α := α) hl i0 k h0'
  obtain ⟨v, a2, h2, i2, _, _, e2⟩ := next_ok (α := α) hl i1 k h1' 12
  obtain ⟨u, a3, h3, i3, _, _, e3⟩ := next_ok (α := α) hl i2 k h2 60
  obtain ⟨w, a4, h4, i4, _, _, e4⟩ := near_ok (α := α) hl i3 k h3 (most := most) h0 (by omega)
  obtain ⟨n, a5, h5, i5, _, e5⟩ := pick_ok (α := α) hl i4 k h4 (list := [(w64 (1 + v)), (w64 (1 + u)), w]) (by simp) (by simp)
  exact ⟨p, q, n, fun r => by unfold spec_l10With; rw [e0, e1, e2, e3, e4, e5]⟩

theorem dCompare_ok {l : List Int} (hl : IsCode l) (k : Nat) (hk : 4096 < k) : ∃ p q s t, ∀ r : Int → Int → Int → Int → Option α, spec_DrawCompareRatios k l r = r p q s t := by
  obtain ⟨h0, i0, e0⟩ := from_ok (α := α) hl k hk
  obtain ⟨p, q, a1, h1, i1, e1⟩ := draw10_ok (α := α) hl i0 k h0
  obtain ⟨v, a2, h2, i2, _, _, e2⟩ := next_ok (α := α) hl i1 k h1 3
  obtain ⟨u, a3, h3, i3, _, _, e3⟩ := next_ok (α := α) hl i2 k h2 3
  by_cases hu : u = 0
  · exact ⟨p, q, w64 ((w64 (1 + v)) * p), w64 ((w64 (1 + v)) * q), fun r => by unfold spec_DrawCompareRatios; rw [e0, e1, e2, e3, decide_eq_true hu, cond_true]⟩
  · obtain ⟨s, t, a4, h4, i4, e4⟩ := draw10_ok (α := α) hl i3 k h3
    exact ⟨p, q, s, t, fun r => by unfold spec_DrawCompareRatios; rw [e0, e1, e2, e3, decide_eq_false hu, cond_false, e4]⟩

theorem cfX_ne {p q : Int} (hq : 1 ≤ q) : (cfX p q).length ≠ 0 := by
  unfold cfX
  rw [show (1000002 : Nat) = 1000001 + 1 from rfl, cfE]
  simp [show q ≠ 0 by omega]

theorem dConv_ok {l : List Int} (hl : IsCode l) (k : Nat) (hk : 3000000 < k) : ∃ p q s t, ∀ r : Int → Int → Int → Int → Option α, spec_DrawIsConvergent k l r = r p q s t := by
  obtain ⟨h0, i0, e0⟩ := from_ok (α := α) hl k (by omega)
  obtain ⟨p, q, a1, h1, i1, e1⟩ := draw10_ok (α := α) hl i0 k h0
  cases hc : (crd p && inB q 1 1000000) with
  | true =>
    simp only [Bool.and_eq_true, crd_iff, inB_iff] at hc
    have ec := fun r0 r1 => spec_ConvergentsOf_eq (α := α) p q hc.1.1 hc.1.2 hc.2.1 hc.2.2 k hk r0 r1
    have hlen := convs_length (cfX p q) (cfX p q).length
    have hne := cfX_ne (p := p) hc.2.1
    obtain ⟨v, a2, h2, i2, v1, _, e2⟩ := next_ok (α := α) hl i1 k h1 3
    by_cases hv : 0 < v
    · obtain ⟨w, a3, h3, i3, w1, w2, e3⟩ := next_ok (α := α) hl i2 k h2 (((convs (cfX p q) (cfX p q).length).length : Nat) : Int)
      have hlt : w.toNat < (convs (cfX p q) (cfX p q).length).length := by omega
      refine ⟨p, q, ((convs (cfX p q) (cfX p q).length)[w.toNat]).1, ((convs (cfX p q) (cfX p q).length)[w.toNat]).2, fun r => ?_⟩
      unfold spec_DrawIsConvergent
      rw [e0, e1, ec, ok1, e2, dec_lt_t hv, cond_true, e3, dec_le_t w1, dec_lt_t (by omega), Bool.and_self, cond_true, List.getElem?_eq_getElem hlt, Option.bind_some]
    · obtain ⟨s, t, a3, h3, i3, e3⟩ := draw10_ok (α := α) hl i2 k h2
      refine ⟨p, q, s, t, fun r => ?_⟩
      unfold spec_DrawIsConvergent
      rw [e0, e1, ec, ok1, e2, dec_lt_f (by omega), cond_false, e3]
  | false =>
    have ec : ∀ (r0 : Int → Option α) r1, spec_ConvergentsOf k p q r0 r1 = r0 2 := fun r0 r1 => by
      simp only [spec_ConvergentsOf, spec_l01Fits_eq, spec_l01In_eq]
      cases h1 : crd p with
      | false => simp
      | true =>
        rw [h1, Bool.true_and] at hc
        simp [hc]
    obtain ⟨s, t, a3, h3, i3, e3⟩ := draw10_ok (α := α) hl i1 k h1
    refine ⟨p, q, s, t, fun r => ?_⟩
    unfold spec_DrawIsConvergent
    rw [e0, e1, ec, show decide ((2 : Int) = 0) = false from rfl, cond_false, e3]

theorem skT (A B : Option α) : (bif (!true) then A else B) = B := rfl

theorem d20 : decide ((2 : Int) = 0) = false := rfl

theorem points9_nil (k : Nat) (r : Bool → Option α) : laws_points9_0N_1N k r = r true := rfl

theorem law_FnBests (k : Nat) (hk : 4000000 < k) (l : List Int) (r : Bool → Option α) (hb : ∀ x ∈ l, 0 ≤ x ∧ x ≤ 255) : laws_FnBests k l r = r true := by
  unfold laws_FnBests laws_FnBests_F
  rw [laws_big_eq]
  by_cases hlen : 4096 < (l.length : Int)
  · rw [dec_lt_t hlen, cond_true]
  · rw [dec_lt_f (by omega), cond_false]
    have hl : IsCode l := ⟨by omega, hb⟩
    obtain ⟨p, q, n, e2'⟩ := with10_ok (α := α) hl k (by omega) (most := 2000) (by omega) (by omega)
    have e2 : ∀ r : Int → Int → Int → Option α, spec_DrawBestOfSecond k l r = r p q n := fun r => e2' r
    obtain ⟨p1, q1, n1, e1'⟩ := with10_ok (α := α) hl k (by omega) (most := 2000) (by omega) (by omega)
    have e1 : ∀ r : Int → Int → Int → Option α, spec_DrawBestOfFirst k l r = r p1 q1 n1 := fun r => e1' r
    obtain ⟨p2, q2, n2, eN'⟩ := with10_ok (α := α) hl k (by omega) (most := 100000) (by omega) (by omega)
    have eN : ∀ r : Int → Int → Int → Option α, spec_DrawNearestFraction k l r = r p2 q2 n2 := fun r => eN' r
    obtain ⟨xm, ym, zm, nI, nS, _⟩ := nearest_both (α := α) k (by omega) p2 q2 n2
    obtain ⟨xn, yn, zn, nO, _, nH⟩ := nearest_both (α := α) k (by omega) p1 q1 n1
    obtain ⟨c0, c1, c2, c3, eC⟩ := dConv_ok (α := α) hl k (by omega)
    obtain ⟨bc, zc, cS, cI⟩ := conv_both (α := α) k hk c0 c1 c2 c3
    obtain ⟨r0, r1, r2, r3, eR⟩ := dCompare_ok (α := α) hl k (by omega)
    obtain ⟨vr, zr, rI, rS, hback⟩ := compare_both (α := α) k r0 r1 r2 r3
    rw [e2]
    cases hvS : bestArgs p q n with
    | false =>
      rw [(best_no hvS k _ _).1, (best_no hvS k _ _).2.1, sk1, points9_nil, skT]
      rw [e1]
      cases hvF : bestArgs p1 q1 n1 with
      | false =>
        rw [(best_no hvF k _ _).2.2.1, (best_no hvF k _ _).2.2.2, sk1, points9_nil, skT]
        rw [eN, nI, nS, sk1, sk2, eC, cI, cS, sk1, skb, eR, rI, rS, sk1, sk1]
        by_cases hz : zr = 0
        · rw [decide_eq_true hz, cond_true, hback hz, sk1, sk1]
          rw [d20, cond_false]
          first | rw [d20, Bool.not_false, cond_true] | rw [Bool.not_false, cond_true]
          try rfl
        · rw [decide_eq_false hz, cond_false]
          rw [d20, cond_false]
          first | rw [d20, Bool.not_false, cond_true] | rw [Bool.not_false, cond_true]
          try rfl
      | true =>
        obtain ⟨f1, f2⟩ := bestL_facts hvF false
        obtain ⟨hz0, hg⟩ := nH hvF
        have nV : ∀ r : Int → Int → Int → Option α, impl_NearestFraction k p1 q1 n1 r = r xn yn 0 := fun r => by rw [nO, hz0]
        have hpos : 0 < (bestL false p1 q1 n1).length := List.length_pos_iff.2 f1
        have hlen0 : decide (((bestL false p1 q1 n1).length : Int) = 0) = false := decide_eq_false (by omega)
        have hw1 : w64 (((bestL false p1 q1 n1).length : Int) - 1) = ((bestL false p1 q1 n1).length : Int) - 1 := w64_of (by omega) (by omega)
        have hn1 : (((bestL false p1 q1 n1).length : Int) - 1).toNat = (bestL false p1 q1 n1).length - 1 := by omega
        rw [impl_first_eq hvF k (by omega), spec_BestOfFirst_eq, hvF, cond_true, spec_best_eq hvF false k (by omega), sk1, points9_refl k _ _ (by rw [big_val]; omega) (by omega), skT]
        rw [eN, nI, nS, sk1, sk2, eC, cI, cS, sk1, skb, eR, rI, rS, sk1, sk1]
        by_cases hz : zr = 0
        · rw [decide_eq_true hz, cond_true, hback hz, sk1, sk1]
          rw [ok1, nV, sk1, hlen0, cond_false, hw1, dec_le_t (by omega), dec_lt_t (by omega), Bool.and_self, cond_true, hn1, hg, Option.bind_some]
          dsimp only
          rw [sk2]
          first | rw [d20, Bool.not_false, cond_true] | rw [Bool.not_false, cond_true]
          try rfl
        · rw [decide_eq_false hz, cond_false]
          rw [ok1, nV, sk1, hlen0, cond_false, hw1, dec_le_t (by omega), dec_lt_t (by omega), Bool.and_self, cond_true, hn1, hg, Option.bind_some]
          dsimp only
          rw [sk2]
          first | rw [d20, Bool.not_false, cond_true] | rw [Bool.not_false, cond_true]
          try rfl
    | true =>
      obtain ⟨s1, s2⟩ := bestL_facts hvS true
      obtain ⟨t1, t2⟩ := bestL_facts hvS false
      have hsub : (bestL true p q n).Sublist (bestL false p q n) := bestF_sub (by have := (bestArgs_iff hvS).2.1; omega) n.toNat 1 0 1 0 1 true (by omega) (.inl rfl)
      rw [impl_second_eq hvS k (by omega), spec_BestOfSecond_eq, hvS, cond_true, spec_best_eq hvS true k (by omega), sk1, points9_refl k _ _ (by rw [big_val]; omega) (by omega), skT]
      rw [e1]
      cases hvF : bestArgs p1 q1 n1 with
      | false =>
        rw [(best_no hvF k _ _).2.2.1, (best_no hvF k _ _).2.2.2, sk1, points9_nil, skT]
        rw [eN, nI, nS, sk1, sk2, eC, cI, cS, sk1, skb, eR, rI, rS, sk1, sk1]
        by_cases hz : zr = 0
        · rw [decide_eq_true hz, cond_true, hback hz, sk1, sk1]
          rw [d20, cond_false]
          rw [sk1, impl_first_eq hvS k (by omega), sk1]
          have := all_l43 (α := α) (second := bestL true p q n) (all := bestL false p q n) (by rw [big_val]; omega) (by rw [big_val]; omega) (bestL true p q n) k 0 0 r (by simp) (by simpa using hsub) (by omega) (by omega) (by omega)
          exact this
        · rw [decide_eq_false hz, cond_false]
          rw [d20, cond_false]
          rw [sk1, impl_first_eq hvS k (by omega), sk1]
          have := all_l43 (α := α) (second := bestL true p q n) (all := bestL false p q n) (by rw [big_val]; omega) (by rw [big_val]; omega) (bestL true p q n) k 0 0 r (by simp) (by simpa using hsub) (by omega) (by omega) (by omega)
          exact this
      | true =>
        obtain ⟨f1, f2⟩ := bestL_facts hvF false
        obtain ⟨hz0, hg⟩ := nH hvF
        have nV : ∀ r : Int → Int → Int → Option α, impl_NearestFraction k p1 q1 n1 r = r xn yn 0 := fun r => by rw [nO, hz0]
        have hpos : 0 < (bestL false p1 q1 n1).length := List.length_pos_iff.2 f1
        have hlen0 : decide (((bestL false p1 q1 n1).length : Int) = 0) = false := decide_eq_false (by omega)
        have hw1 : w64 (((bestL false p1 q1 n1).length : Int) - 1) = ((bestL false p1 q1 n1).length : Int) - 1 := w64_of (by omega) (by omega)
        have hn1 : (((bestL false p1 q1 n1).length : Int) - 1).toNat = (bestL false p1 q1 n1).length - 1 := by omega
        rw [impl_first_eq hvF k (by omega), spec_BestOfFirst_eq, hvF, cond_true, spec_best_eq hvF false k (by omega), sk1, points9_refl k _ _ (by rw [big_val]; omega) (by omega), skT]
        rw [eN, nI, nS, sk1, sk2, eC, cI, cS, sk1, skb, eR, rI, rS, sk1, sk1]
        by_cases hz : zr = 0
        · rw [decide_eq_true hz, cond_true, hback hz, sk1, sk1]
          rw [ok1, nV, sk1, hlen0, cond_false, hw1, dec_le_t (by omega), dec_lt_t (by omega), Bool.and_self, cond_true, hn1, hg, Option.bind_some]
          dsimp only
          rw [sk2]
          rw [sk1, impl_first_eq hvS k (by omega), sk1]
          have := all_l43 (α := α) (second := bestL true p q n) (all := bestL false p q n) (by rw [big_val]; omega) (by rw [big_val]; omega) (bestL true p q n) k 0 0 r (by simp) (by simpa using hsub) (by omega) (by omega) (by omega)
          exact this
        · rw [decide_eq_false hz, cond_false]
          rw [ok1, nV, sk1, hlen0, cond_false, hw1, dec_le_t (by omega), dec_lt_t (by omega), Bool.and_self, cond_true, hn1, hg, Option.bind_some]
          dsimp only
          rw [sk2]
          rw [sk1, impl_first_eq hvS k (by omega), sk1]
          have := all_l43 (α := α) (second := bestL true p q n) (all := bestL false p q n) (by rw [big_val]; omega) (by rw [big_val]; omega) (bestL true p q n) k 0 0 r (by simp) (by simpa using hsub) (by omega) (by omega) (by omega)
          exact this

end Go.Sh
