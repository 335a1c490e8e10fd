/- Plain laws: what the readings without memory answer. -/
import Derived.Test.YtegnnbhphgeocaaShXIsConvergent
namespace Go.Sh
open Go Go.Ev

variable {α : Type}

/-- The expansion of two numbers, in so many steps at most. -/
def cfE : Nat → Int → Int → List Int
  | 0, _, _ => []
  | n + 1, p, q => if q = 0 then [] else p / q :: cfE n q (p % q)

/-- The numbers that a list comes to, from its end on. -/
def cfK : List Int → Int × Int
  | [] => (1, 0)
  | a :: l => (a * (cfK l).1 + (cfK l).2, (cfK l).1)

theorem cfE_length : ∀ (n : Nat) (p q : Int), (cfE n p q).length ≤ n
  | 0, _, _ => by simp [cfE]
  | n + 1, p, q => by
    unfold cfE
    split
    · simp
    · have := cfE_length n q (p % q)
      simp
      omega

theorem cfE_pos : ∀ (n : Nat) (p q : Int), 0 ≤ q → q < p → ∀ a ∈ cfE n p q, 1 ≤ a
  | 0, _, _, _, _, a, h => by simp [cfE] at h
  | n + 1, p, q, hq, hp, a, h => by
    unfold cfE at h
    split at h
    · simp at h
    · rename_i h0
      rcases List.mem_cons.1 h with h1 | h1
      · have := ediv_bounds (a := p) (b := q) (by omega)
        rw [h1]
        rcases ilt_or_ge (p / q) 1 with h2 | h2
        · have := mul_le_l (q) (a := p / q) (b := 0) (by omega) (by omega)
          omega
        · exact h2
      · exact cfE_pos n q (p % q) (Int.emod_nonneg _ h0) (Int.emod_lt_of_pos _ (by omega)) a h1

/-- What an expansion comes to, times the greatest common divisor, is what was expanded. -/
theorem cfE_value : ∀ (n : Nat) (p q : Int), 0 ≤ q → q < n → (0 < q ∨ 0 < p) → ∃ g : Int, 0 < g ∧ p = g * (cfK (cfE n p q)).1 ∧ q = g * (cfK (cfE n p q)).2
  | 0, p, q, hq, hn, _ => by omega
  | n + 1, p, q, hq, hn, hpos => by
    unfold cfE
    split
    · rename_i h0
      subst h0
      exact ⟨p, by omega, by simp [cfK], by simp [cfK]⟩
    · rename_i h0
      have h2 := Int.emod_lt_of_pos p (b := q) (by omega)
      obtain ⟨g, hg, e1, e2⟩ := cfE_value n q (p % q) (Int.emod_nonneg _ h0) (by omega) (.inr (by omega))
      refine ⟨g, hg, ?_, ?_⟩
      · simp only [cfK]
        have h1 := Int.emod_add_mul_ediv p q
        generalize (cfK (cfE n q (p % q))).1 = A at *
        generalize (cfK (cfE n q (p % q))).2 = B at *
        have e3 : g * (p / q * A + B) = (g * A) * (p / q) + g * B := by
          generalize p / q = t
          grind
        rw [e3, ← e1, ← e2]
        omega
      · simp only [cfK]
        exact e1

/-- Lists of numbers of at least 1. -/
def Pos (l : List Int) : Prop := ∀ a ∈ l, 1 ≤ a

theorem cfK_pos : ∀ {l : List Int}, Pos l → 1 ≤ (cfK l).1 ∧ 0 ≤ (cfK l).2 ∧ (cfK l).2 ≤ (cfK l).1
  | [], _ => by simp [cfK]
  | a :: l, h => by
    have ha : 1 ≤ a := h a (by simp)
    obtain ⟨h1, h2, h3⟩ := cfK_pos (l := l) fun b hb => h b (by simp [hb])
    have := Int.mul_le_mul_of_nonneg_right (a := 1) (b := a) (c := (cfK l).1) ha (by omega)
    simp only [cfK]
    omega

theorem cfK_app : ∀ {l m : List Int}, Pos l → Pos m → (cfK l).1 ≤ (cfK (l ++ m)).1 ∧ (cfK l).2 ≤ (cfK (l ++ m)).2
  | [], m, _, hm => by
    obtain ⟨h1, h2, h3⟩ := cfK_pos hm
    simp only [cfK, List.nil_append]
    omega
  | a :: l, m, h, hm => by
    have ha : 1 ≤ a := h a (by simp)
    have ih := cfK_app (l := l) (m := m) (fun b hb => h b (by simp [hb])) hm
    have := mul_le_l (a) (by omega) ih.1
    simp only [cfK, List.cons_append]
    omega

theorem cfK_suffix : ∀ {l m : List Int}, Pos (l ++ m) → (cfK m).1 ≤ (cfK (l ++ m)).1
  | [], m, _ => by simp
  | a :: l, m, h => by
    have ha : 1 ≤ a := h a (by simp)
    have hp : Pos (l ++ m) := fun b hb => h b (by simp only [List.cons_append, List.mem_cons]; exact .inr hb)
    have ih := cfK_suffix (l := l) (m := m) hp
    obtain ⟨h1, h2, h3⟩ := cfK_pos hp
    have := Int.mul_le_mul_of_nonneg_right (a := 1) (b := a) (c := (cfK (l ++ m)).1) ha (by omega)
    simp only [cfK, List.cons_append]
    omega

/-- The difference of both numbers grows, too. -/
theorem cfK_diff {l m : List Int} (h : Pos l) (hm : Pos m) (hne : l ≠ []) : (cfK l).1 - (cfK l).2 ≤ (cfK (l ++ m)).1 - (cfK (l ++ m)).2 := by
  cases l with
  | nil => exact absurd rfl hne
  | cons a l =>
    have ha : 1 ≤ a := h a (by simp)
    have ih := cfK_app (l := l) (m := m) (fun b hb => h b (by simp [hb])) hm
    have := mul_le_l (a - 1) (by omega) ih.1
    simp only [cfK, List.cons_append]
    rw [Int.sub_mul, Int.sub_mul] at this
    omega

/-- The numbers of all beginnings of an expansion are within the bounds. -/
theorem cfK_bounds {p q B : Int} {n : Nat} (hp : -B ≤ p) (hp1 : p ≤ B) (hq : 1 ≤ q) (hq1 : q ≤ B) (hn : q < n) {l m : List Int} (he : cfE n p q = l ++ m) (hl : l ≠ []) : (-B ≤ (cfK l).1 ∧ (cfK l).1 ≤ B) ∧ (1 ≤ (cfK l).2 ∧ (cfK l).2 ≤ B) := by
  cases n with
  | zero => omega
  | succ n =>
    cases l with
    | nil => exact absurd rfl hl
    | cons a l =>
      have he' := he
      unfold cfE at he
      rw [if_neg (by omega), List.cons_append] at he
      injection he with h1 h2
      have hr := Int.emod_lt_of_pos p (b := q) (by omega)
      have hr0 := Int.emod_nonneg p (b := q) (by omega)
      have hpos : Pos (l ++ m) := fun b hb => cfE_pos n q (p % q) hr0 hr b (by rw [h2]; exact hb)
      have hposl : Pos l := fun b hb => hpos b (by simp [hb])
      have hposm : Pos m := fun b hb => hpos b (by simp [hb])
      obtain ⟨g, hg, e1, e2⟩ := cfE_value n q (p % q) hr0 (by omega) (.inr (by omega))
      rw [h2] at e1 e2
      obtain ⟨k1, k2, k3⟩ := cfK_pos hpos
      obtain ⟨l1, l2, l3⟩ := cfK_pos hposl
      have happ := cfK_app hposl hposm
      have hq2 : (cfK (l ++ m)).1 ≤ q := by
        have := Int.mul_le_mul_of_nonneg_right (a := 1) (b := g) (c := (cfK (l ++ m)).1) (by omega) (by omega)
        omega
      refine ⟨?_, by simp only [cfK]; omega⟩
      simp only [cfK]
      have hdiv := ediv_bounds (a := p) (b := q) (by omega)
      -- p = g (a P + Q)
      have hpe : p = g * (a * (cfK (l ++ m)).1 + (cfK (l ++ m)).2) := by
        have hx := Int.emod_add_mul_ediv p q
        rw [h1] at hx
        have : g * (a * (cfK (l ++ m)).1 + (cfK (l ++ m)).2) = (g * (cfK (l ++ m)).1) * a + g * (cfK (l ++ m)).2 := by grind
        rw [this, ← e1, ← e2]
        omega
      generalize hP : (cfK (l ++ m)).1 = P at *
      generalize hQ : (cfK (l ++ m)).2 = Q at *
      rcases ilt_or_ge a 0 with ha | ha
      · -- less than 0
        have hup : a * (cfK l).1 + (cfK l).2 ≤ 0 := by
          have := Int.mul_le_mul_of_nonneg_right (a := a) (b := -1) (c := (cfK l).1) (by omega) (by omega)
          omega
        refine ⟨?_, by omega⟩
        by_cases hne : l = []
        · subst hne
          simp only [cfK]
          have : -B ≤ a := by
            rcases ilt_or_ge a (-B) with h3 | h3
            · have := Int.mul_nonneg (a := q - 1) (b := -a - 1) (by omega) (by omega)
              have e : (q - 1) * (-a - 1) = -(q * a) - q + a + 1 := by grind
              rw [h1] at hdiv
              omega
            · exact h3
          simp
          omega
        · have hd := cfK_diff hposl hposm hne
          rw [hP, hQ] at hd
          have hm := mul_le_l (-a - 1) (by omega) happ.1
          have s1 : (-a - 1) * (cfK l).1 = -(a * (cfK l).1) - (cfK l).1 := by rw [Int.sub_mul, Int.neg_mul]; omega
          have s2 : (-a - 1) * P = -(a * P) - P := by rw [Int.sub_mul, Int.neg_mul]; omega
          rw [s1, s2] at hm
          have hf : a * P + Q ≤ 0 := by omega
          have := Int.mul_le_mul_of_nonneg_right (a := 1) (b := g) (c := -(a * P + Q)) (by omega) (by omega)
          have hgv : g * -(a * P + Q) = -(g * (a * P + Q)) := Int.mul_neg _ _
          omega
      · have hm := mul_le_l (a) ha happ.1
        have h0 := Int.mul_nonneg ha (show 0 ≤ (cfK l).1 by omega)
        have := Int.mul_le_mul_of_nonneg_right (a := 1) (b := g) (c := a * P + Q) (by omega) (by omega)
        omega

/-- From the front: what is now, and what was before. -/
def fwS (s : (Int × Int) × (Int × Int)) (a : Int) : (Int × Int) × (Int × Int) := ((s.2.1 + a * s.1.1, s.2.2 + a * s.1.2), s.1)

def fw (l : List Int) : (Int × Int) × (Int × Int) := l.foldl fwS ((1, 0), (0, 1))

theorem fw_snoc (l : List Int) (a : Int) : fw (l ++ [a]) = fwS (fw l) a := by simp [fw]

theorem fw_lin : ∀ (l : List Int) (s : (Int × Int) × (Int × Int)), (l.foldl fwS s).1 = ((cfK l).1 * s.1.1 + (cfK l).2 * s.2.1, (cfK l).1 * s.1.2 + (cfK l).2 * s.2.2)
  | [], s => by simp [cfK]
  | a :: l, s => by
    rw [List.foldl_cons, fw_lin l]
    simp only [fwS, cfK]
    ext <;> simp only <;> grind

theorem fw_eq (l : List Int) : (fw l).1 = cfK l := by
  unfold fw
  rw [fw_lin]
  simp

theorem spec_l01In_eq (k : Nat) (n low high : Int) (r : Bool → Option α) : spec_l01In k n low high r = r (inB n low high) := by
  unfold spec_l01In inB
  cases decide (low ≤ n) <;> rfl

theorem spec_l01Fits_eq (k : Nat) (n : Int) (r : Bool → Option α) : spec_l01Fits k n r = r (crd n) := by
  simp only [spec_l01Fits, spec_l01In_eq]; rfl

theorem impl_in_eq (k : Nat) (n low high : Int) (r : Bool → Option α) : impl_in k n low high r = r (inB n low high) := by
  unfold impl_in inB
  cases decide (low ≤ n) <;> rfl

theorem impl_isCoord_eq (k : Nat) (n : Int) (r : Bool → Option α) : impl_isCoord k n r = r (crd n) := by
  simp only [impl_isCoord, impl_in_eq]; rfl

theorem spec_l10Ratio_eq (k : Nat) (p q low : Int) (r : Bool → Option α) : spec_l10Ratio k p q low r = r (crd p && inB q low 1000000) := by
  simp only [spec_l10Ratio, spec_l01Fits_eq, spec_l01In_eq]
  cases crd p <;> rfl

theorem impl_ratioOk_eq (k : Nat) (p q : Int) (r : Bool → Option α) : impl_ratioOk k p q r = r (crd p && inB q 1 1000000) := by
  simp only [impl_ratioOk, impl_isCoord_eq, impl_in_eq]
  cases crd p <;> rfl

theorem impl_floor_eq (k : Nat) (a b : Int) (r : Int → Option α) (hb : 0 < b) (ha : -1000000000000000000 ≤ a) (ha2 : a ≤ 1000000000000000000) : impl_floor k a b r = r (a / b) := by
  have hq := tdiv_abs a b
  simp only [impl_floor, dec_eq_f (show b ≠ 0 by omega), cond_false, w64_of (n := Int.tdiv a b) (by omega) (by omega), w64_of (n := Int.tdiv a b - 1) (by omega) (by omega)]
  rw [← tdiv_floor a b hb]
  cases (!decide (Int.tmod a b = 0)) <;> cases (!(decide (a < 0) == decide (b < 0))) <;> rfl

theorem spec_l01Floor_eq (k : Nat) (a b : Int) (r : Int → Option α) (hb : 0 < b) (ha : -1000000000000000000 ≤ a) (ha2 : a ≤ 1000000000000000000) : spec_l01Floor k a b r = r (a / b) := by
  have hq := tdiv_abs a b
  simp only [spec_l01Floor, dec_eq_f (show b ≠ 0 by omega), cond_false, w64_of (n := Int.tdiv a b) (by omega) (by omega), w64_of (n := Int.tdiv a b - 1) (by omega) (by omega)]
  rw [← tdiv_floor a b hb]
  cases (!decide (Int.tmod a b = 0)) <;> cases (!(decide (a < 0) == decide (b < 0))) <;> rfl

theorem rest_w {p q : Int} (hq : 0 < q) (hq1 : q ≤ 1000000) (hp : -1000000 ≤ p) (hp1 : p ≤ 1000000) : w64 (p - w64 (p / q * q)) = p % q := by
  have h1 := Int.emod_add_mul_ediv p q
  have h2 := Int.emod_nonneg p (b := q) (by omega)
  have h3 := Int.emod_lt_of_pos p hq
  have e : p / q * q = q * (p / q) := Int.mul_comm _ _
  rw [e, w64_of (n := q * (p / q)) (by omega) (by omega), w64_of (by omega) (by omega)]
  omega

theorem spec_expand_l2 : ∀ (n k : Nat) (p q : Int) (out : List Int) b0 (r0 : List Int → Option α), -1000000 ≤ p → p ≤ 1000000 → 0 ≤ q → q ≤ 1000000 → q < n → n ≤ k → out.length + n ≤ 1000000000 → ∃ p', spec_l01Expand_l2 k p q out b0 r0 = b0 p' 0 (out ++ cfE n p q)
  | 0, k, p, q, out, b0, r0, hp, hp1, hq, hq1, hn, hk, hl => by omega
  | n + 1, 0, p, q, out, b0, r0, hp, hp1, hq, hq1, hn, hk, hl => by omega
  | n + 1, k + 1, p, q, out, b0, r0, hp, hp1, hq, hq1, hn, hk, hl => by
    by_cases h0 : q = 0
    · subst h0
      exact ⟨p, by simp [spec_l01Expand_l2, cfE]⟩
    · have h2 := Int.emod_nonneg p (b := q) (by omega)
      have h3 := Int.emod_lt_of_pos p (b := q) (by omega)
      obtain ⟨p', e⟩ := spec_expand_l2 n k q (p % q) (out ++ [p / q]) b0 r0 (by omega) hq1 h2 (by omega) (by omega) (by omega) (by simp; omega)
      refine ⟨p', ?_⟩
      rw [spec_l01Expand_l2, dec_eq_f h0, Bool.not_false, cond_true, spec_l01Floor_eq _ _ _ _ (by omega) (by omega) (by omega), dec_nle_t (by rw [big_val]; omega), cond_true, rest_w (by omega) hq1 hp hp1, e]
      simp [cfE, h0]

theorem impl_expand_l2_ok : ∀ (n k : Nat) (p q : Int) (out : List Int) b0 (r0 : List Int → Option α), -1000000 ≤ p → p ≤ 1000000 → 0 ≤ q → q ≤ 1000000 → q < n → n ≤ k → out.length + n ≤ 1000000000 → ∃ p', impl_expand_l2 k p q out b0 r0 = b0 p' 0 (out ++ cfE n p q)
  | 0, k, p, q, out, b0, r0, hp, hp1, hq, hq1, hn, hk, hl => by omega
  | n + 1, 0, p, q, out, b0, r0, hp, hp1, hq, hq1, hn, hk, hl => by omega
  | n + 1, k + 1, p, q, out, b0, r0, hp, hp1, hq, hq1, hn, hk, hl => by
    by_cases h0 : q = 0
    · subst h0
      exact ⟨p, by simp [impl_expand_l2, cfE]⟩
    · have h2 := Int.emod_nonneg p (b := q) (by omega)
      have h3 := Int.emod_lt_of_pos p (b := q) (by omega)
      obtain ⟨p', e⟩ := impl_expand_l2_ok n k q (p % q) (out ++ [p / q]) b0 r0 (by omega) hq1 h2 (by omega) (by omega) (by omega) (by simp; omega)
      refine ⟨p', ?_⟩
      rw [impl_expand_l2, dec_eq_f h0, Bool.not_false, cond_true, impl_floor_eq _ _ _ _ (by omega) (by omega) (by omega), dec_nle_t (by rw [big_val]; omega), cond_true, rest_w (by omega) hq1 hp hp1, e]
      simp [cfE, h0]

/-- The expansion of a ratio. -/
def cfX (p q : Int) : List Int := cfE 1000002 p q

theorem spec_l01Expand_eq (k : Nat) (hk : 1000002 ≤ k) (p q : Int) (r : List Int → Option α) (hp : -1000000 ≤ p) (hp1 : p ≤ 1000000) (hq : 0 ≤ q) (hq1 : q ≤ 1000000) : spec_l01Expand k p q r = r (cfX p q) := by
  unfold spec_l01Expand cfX
  obtain ⟨p', e⟩ := spec_expand_l2 (α := α) 1000002 k p q [] (fun _ _ out => r out) r hp hp1 hq hq1 (by omega) hk (by simp)
  simpa using e

theorem impl_expand_eq (k : Nat) (hk : 1000002 ≤ k) (p q : Int) (r : List Int → Option α) (hp : -1000000 ≤ p) (hp1 : p ≤ 1000000) (hq : 0 ≤ q) (hq1 : q ≤ 1000000) : impl_expand k p q r = r (cfX p q) := by
  unfold impl_expand cfX
  obtain ⟨p', e⟩ := impl_expand_l2_ok (α := α) 1000002 k p q [] (fun _ _ out => r out) r hp hp1 hq hq1 (by omega) hk (by simp)
  simpa using e

theorem cfX_length (p q : Int) : (cfX p q).length ≤ 1000002 := cfE_length _ _ _

/-- All beginnings, but the empty one. -/
def convs (l : List Int) (n : Nat) : List (Int × Int) := (List.range n).map fun i => cfK (l.take (i + 1))

theorem convs_succ (l : List Int) (n : Nat) : convs l (n + 1) = convs l n ++ [cfK (l.take (n + 1))] := by
  simp [convs, List.range_succ]

theorem convs_length (l : List Int) (n : Nat) : (convs l n).length = n := by simp [convs]

theorem crd_of {n : Int} (h0 : -1000000 ≤ n) (h1 : n ≤ 1000000) : crd n = true := crd_iff.2 ⟨h0, h1⟩

/-- The steps from the end on. -/
theorem spec_fold_l3 (L : List Int) (hL : L.length ≤ 100000000) (hb : ∀ l m, L = l ++ m → m ≠ [] → (-1000000 ≤ (cfK m).1 ∧ (cfK m).1 ≤ 1000000) ∧ (-1000000 ≤ (cfK m).2 ∧ (cfK m).2 ≤ 1000000)) :
    ∀ (i : Nat) (l m : List Int) (k : Nat) b0 (r0 : Int → Int → Bool → Option α), L = l ++ m → m ≠ [] → l.length = i → i < k → spec_l01Fold_l3 k (cfK m).1 (cfK m).2 ((i : Int) - 1) L b0 r0 = b0 (cfK L).1 (cfK L).2 (-1) L
  | 0, l, m, k, b0, r0, he, hm, hl, hk => by
    cases k with
    | zero => omega
    | succ k =>
      have : l = [] := List.eq_nil_of_length_eq_zero hl
      subst this
      simp only [List.nil_append] at he
      subst he
      rw [spec_l01Fold_l3, dec_le_f (by omega)]
      rfl
  | i + 1, l, m, k, b0, r0, he, hm, hl, hk => by
    cases k with
    | zero => omega
    | succ k =>
      obtain ⟨l', a, rfl⟩ : ∃ l' a, l = l' ++ [a] := ⟨l.dropLast, l.getLast (by intro e; simp [e] at hl), (List.dropLast_concat_getLast _).symm⟩
      have hl' : l'.length = i := by simpa using hl
      have he' : L = l' ++ (a :: m) := by rw [he]; simp
      have hg : L[i]? = some a := by rw [he', ← hl']; simp
      have hb1 := hb l' (a :: m) he' (by simp)
      have hb2 := hb (l' ++ [a]) m he hm
      have ei : ((i + 1 : Nat) : Int) - 1 = (i : Int) := by omega
      have hLi : i < L.length := by rw [he']; simp; omega
      have w1 : w64 (w64 (a * (cfK m).1) + (cfK m).2) = (cfK (a :: m)).1 := by
        have hx : (cfK (a :: m)).1 = a * (cfK m).1 + (cfK m).2 := rfl
        rw [hx] at hb1 ⊢
        rw [w64_of (n := a * (cfK m).1) (by omega) (by omega), w64_of (by omega) (by omega)]
      rw [spec_l01Fold_l3, ei, dec_le_t (by omega), cond_true, dec_lt_t (by omega), Bool.and_self, cond_true, Int.toNat_natCast, hg, Option.bind_some, w1]
      simp only [spec_l01Fits_eq, crd_of hb1.1.1 hb1.1.2, crd_of hb2.1.1 hb2.1.2, Bool.not_true, cond_false]
      have e2 : w64 ((i : Int) - 1) = (i : Int) - 1 := w64_of (by omega) (by omega)
      rw [e2]
      exact spec_fold_l3 L hL hb i l' (a :: m) k b0 r0 he' (by simp) hl' (by omega)

theorem spec_l01Fold_eq (L : List Int) (hL : L.length ≤ 100000000) (hne : L ≠ []) (hb : ∀ l m, L = l ++ m → m ≠ [] → (-1000000 ≤ (cfK m).1 ∧ (cfK m).1 ≤ 1000000) ∧ (-1000000 ≤ (cfK m).2 ∧ (cfK m).2 ≤ 1000000)) (k : Nat) (hk : L.length < k) (r : Int → Int → Bool → Option α) : spec_l01Fold k L r = r (cfK L).1 (cfK L).2 true := by
  unfold spec_l01Fold
  have hpos : 0 < L.length := List.length_pos_iff.2 hne
  obtain ⟨l, a, rfl⟩ : ∃ l a, L = l ++ [a] := ⟨L.dropLast, L.getLast hne, (List.dropLast_concat_getLast _).symm⟩
  have hl : (l ++ [a]).length = l.length + 1 := by simp
  have e1 : w64 (((l ++ [a]).length : Int) - 1) = (l.length : Int) := by rw [w64_of (by omega) (by omega)]; omega
  have e2 : w64 (((l ++ [a]).length : Int) - 2) = (l.length : Int) - 1 := by rw [w64_of (by omega) (by omega)]; omega
  have hg : (l ++ [a])[l.length]? = some a := by simp
  have h := spec_fold_l3 (α := α) (l ++ [a]) hL hb l.length l [a] k (fun p q i l => r p q true) r rfl (by simp) rfl (by omega)
  simp only [cfK, Int.mul_one, Int.add_zero] at h
  rw [e1, e2, dec_le_t (by omega), dec_lt_t (by omega), Bool.and_self, cond_true, Int.toNat_natCast, hg, Option.bind_some]
  exact h

theorem take_app {l : List Int} {n : Nat} : l = l.take n ++ l.drop n := (List.take_append_drop n l).symm

/-- What is asked of the beginnings of an expansion. -/
theorem begin_bounds {p q : Int} (hp : -1000000 ≤ p) (hp1 : p ≤ 1000000) (hq : 1 ≤ q) (hq1 : q ≤ 1000000) {x y : List Int} (hxy : cfX p q = x ++ y) (hx : x ≠ []) :
    (∀ l m, x = l ++ m → m ≠ [] → (-1000000 ≤ (cfK m).1 ∧ (cfK m).1 ≤ 1000000) ∧ (-1000000 ≤ (cfK m).2 ∧ (cfK m).2 ≤ 1000000)) := by
  intro l m he hm
  have hb := cfK_bounds hp hp1 hq hq1 (n := 1000002) (by omega) hxy hx
  cases l with
  | nil =>
    simp only [List.nil_append] at he
    subst he
    omega
  | cons a l =>
    have hpos : Pos (l ++ (m ++ y)) := by
      intro b hb
      have h1 : cfX p q = a :: (l ++ (m ++ y)) := by rw [hxy, he]; simp
      unfold cfX at h1
      rw [show (1000002 : Nat) = 1000001 + 1 from rfl, cfE, if_neg (by omega)] at h1
      injection h1 with h1 h2
      exact cfE_pos 1000001 q (p % q) (Int.emod_nonneg _ (by omega)) (Int.emod_lt_of_pos _ (by omega)) b (by rw [h2]; exact hb)
    have hpm : Pos (l ++ m) := fun b hb => hpos b (by simp only [List.mem_append] at hb ⊢; rcases hb with h | h; exact .inl h; exact .inr (.inl h))
    have hs := cfK_suffix hpm
    have hm2 : Pos m := fun b hb => hpm b (by simp [hb])
    obtain ⟨p1, p2, p3⟩ := cfK_pos hm2
    have hx2 : (cfK x).2 = (cfK (l ++ m)).1 := by rw [he]; rfl
    omega

theorem spec_convs_l5 (p q : Int) (hp : -1000000 ≤ p) (hp1 : p ≤ 1000000) (hq : 1 ≤ q) (hq1 : q ≤ 1000000) : ∀ (j n k : Nat) b0 (r0 : Int → Option α) r1, n + j = (cfX p q).length → j + 1000003 < k → spec_ConvergentsOf_l5 k ((n : Int) + 1) (cfX p q) (convs (cfX p q) n) b0 r0 r1 = b0 ((cfX p q).length + 1 : Nat) (cfX p q) (convs (cfX p q) (cfX p q).length)
  | 0, n, k, b0, r0, r1, hn, hk => by
    cases k with
    | zero => omega
    | succ k =>
      have hn' : n = (cfX p q).length := by omega
      rw [spec_ConvergentsOf_l5, dec_le_f (by omega), cond_false, hn']
      rfl
  | j + 1, n, k, b0, r0, r1, hn, hk => by
    cases k with
    | zero => omega
    | succ k =>
      have hlen := cfX_length p q
      have ht : (n : Int) + 1 ≤ ((cfX p q).length : Int) := by omega
      have etn : ((n : Int) + 1).toNat = n + 1 := by omega
      have hx : (cfX p q).take (n + 1) ≠ [] := by
        intro e
        have := congrArg List.length e
        rw [List.length_take, List.length_nil] at this
        omega
      have hbb := begin_bounds hp hp1 hq hq1 (x := (cfX p q).take (n + 1)) (y := (cfX p q).drop (n + 1)) take_app hx
      have hfold := fun r => spec_l01Fold_eq (α := α) ((cfX p q).take (n + 1)) (by simp; omega) hx hbb k (by simp; omega) r
      have e2 : w64 ((n : Int) + 1 + 1) = ((n + 1 : Nat) : Int) + 1 := by rw [w64_of (by omega) (by omega)]; omega
      rw [spec_ConvergentsOf_l5, dec_le_t ht, cond_true, dec_le_t (by omega), Bool.and_self, cond_true, etn]
      simp only [Nat.sub_zero, List.drop_zero, hfold]
      rw [dec_nle_t (by rw [big_val, convs_length]; omega), cond_true, e2]
      have e3 : convs (cfX p q) n ++ [((cfK ((cfX p q).take (n + 1))).1, (cfK ((cfX p q).take (n + 1))).2)] = convs (cfX p q) (n + 1) := by rw [convs_succ]
      rw [e3]
      exact spec_convs_l5 p q hp hp1 hq hq1 j (n + 1) k b0 r0 r1 (by omega) (by omega)

theorem spec_ConvergentsOf_eq (p q : Int) (hp : -1000000 ≤ p) (hp1 : p ≤ 1000000) (hq : 1 ≤ q) (hq1 : q ≤ 1000000) (k : Nat) (hk : 3000000 < k) (r0 : Int → Option α) r1 : spec_ConvergentsOf k p q r0 r1 = r1 (convs (cfX p q) (cfX p q).length) 0 := by
  unfold spec_ConvergentsOf
  have hlen := cfX_length p q
  simp only [spec_l01Fits_eq, spec_l01In_eq, crd_of hp hp1, inB_iff.2 ⟨hq, hq1⟩, Bool.not_true, cond_false]
  rw [spec_l01Expand_eq k (by omega) p q _ hp hp1 (by omega) hq1]
  have h := spec_convs_l5 (α := α) p q hp hp1 hq hq1 (cfX p q).length 0 k (fun _ _ out => r1 out 0) r0 r1 (by omega) (by omega)
  simpa [convs] using h

theorem impl_convs_l3 (p q : Int) (hp : -1000000 ≤ p) (hp1 : p ≤ 1000000) (hq : 1 ≤ q) (hq1 : q ≤ 1000000) : ∀ (j n k : Nat) b0 (r0 : (List (Int × Int)) → Option α), n + j = (cfX p q).length → j < k → ∃ a b c d, impl_convergents_l3 k ((cfX p q).length : Int) (n : Int) (convs (cfX p q) n) (fw ((cfX p q).take n)).1.1 (fw ((cfX p q).take n)).1.2 (fw ((cfX p q).take n)).2.1 (fw ((cfX p q).take n)).2.2 (cfX p q) b0 r0 = b0 ((cfX p q).length : Int) ((cfX p q).length : Int) (convs (cfX p q) (cfX p q).length) a b c d (cfX p q)
  | 0, n, k, b0, r0, hn, hk => by
    cases k with
    | zero => omega
    | succ k =>
      have hn' : n = (cfX p q).length := by omega
      refine ⟨(fw ((cfX p q).take n)).1.1, (fw ((cfX p q).take n)).1.2, (fw ((cfX p q).take n)).2.1, (fw ((cfX p q).take n)).2.2, ?_⟩
      rw [impl_convergents_l3, dec_lt_f (by omega), cond_false, hn']
  | j + 1, n, k, b0, r0, hn, hk => by
    cases k with
    | zero => omega
    | succ k =>
      have hlen := cfX_length p q
      have hlt : n < (cfX p q).length := by omega
      have hg : (cfX p q)[n]? = some (cfX p q)[n] := List.getElem?_eq_getElem hlt
      have htk : (cfX p q).take (n + 1) = (cfX p q).take n ++ [(cfX p q)[n]] := by rw [List.take_add_one, hg]; rfl
      have hx : (cfX p q).take (n + 1) ≠ [] := by rw [htk]; exact List.append_ne_nil_of_right_ne_nil _ (by simp)
      have hb := cfK_bounds hp hp1 hq hq1 (n := 1000002) (by omega) (l := (cfX p q).take (n + 1)) (m := (cfX p q).drop (n + 1)) take_app hx
      have hfw := fw_eq ((cfX p q).take (n + 1))
      have hst := fw_snoc ((cfX p q).take n) (cfX p q)[n]
      rw [← htk] at hst
      obtain ⟨a, b, c, d, e⟩ := impl_convs_l3 p q hp hp1 hq hq1 j (n + 1) k b0 r0 (by omega) (by omega)
      refine ⟨a, b, c, d, ?_⟩
      rw [← e]
      rw [← hfw] at hb
      rw [hst] at hb ⊢
      simp only [fwS] at hb ⊢
      -- the state ahead
      have hold : (-1000000 ≤ (fw ((cfX p q).take n)).2.1 ∧ (fw ((cfX p q).take n)).2.1 ≤ 1000000) ∧ (-1000000 ≤ (fw ((cfX p q).take n)).2.2 ∧ (fw ((cfX p q).take n)).2.2 ≤ 1000000) := by
        cases n with
        | zero => simp [fw]
        | succ n =>
          have hg2 : (cfX p q)[n]? = some (cfX p q)[n] := List.getElem?_eq_getElem (by omega)
          have htk2 : (cfX p q).take (n + 1) = (cfX p q).take n ++ [(cfX p q)[n]] := by rw [List.take_add_one, hg2]; rfl
          have hst2 := fw_snoc ((cfX p q).take n) (cfX p q)[n]
          rw [← htk2] at hst2
          rw [hst2]
          simp only [fwS, fw_eq]
          cases n with
          | zero => simp [cfK]
          | succ n =>
            have hx2 : (cfX p q).take (n + 1) ≠ [] := by
              intro e
              have := congrArg List.length e
              rw [List.length_take, List.length_nil] at this
              omega
            obtain ⟨⟨a1, a2⟩, a3, a4⟩ := cfK_bounds hp hp1 hq hq1 (n := 1000002) (by omega) (l := (cfX p q).take (n + 1)) (m := (cfX p q).drop (n + 1)) take_app hx2
            exact ⟨⟨a1, a2⟩, by omega, a4⟩
      rw [impl_convergents_l3, dec_lt_t (by omega), cond_true, dec_le_t (by omega), Bool.and_self, cond_true, Int.toNat_natCast, hg, Option.bind_some]
      simp only [impl_Point_plus]
      rw [dec_nle_t (by rw [big_val, convs_length]; omega), cond_true]
      generalize hA : (fw ((cfX p q).take n)).1.1 = A at *
      generalize hB : (fw ((cfX p q).take n)).1.2 = B at *
      generalize hC : (fw ((cfX p q).take n)).2.1 = C at *
      generalize hD : (fw ((cfX p q).take n)).2.2 = D at *
      generalize hE : (cfX p q)[n] = E at *
      have w1 : w64 (C + w64 (E * A)) = C + E * A := by rw [w64_of (n := E * A) (by omega) (by omega), w64_of (by omega) (by omega)]
      have w2 : w64 (D + w64 (E * B)) = D + E * B := by rw [w64_of (n := E * B) (by omega) (by omega), w64_of (by omega) (by omega)]
      have e2 : w64 ((n : Int) + 1) = ((n + 1 : Nat) : Int) := by rw [w64_of (by omega) (by omega)]; omega
      have e3 : convs (cfX p q) n ++ [(C + E * A, D + E * B)] = convs (cfX p q) (n + 1) := by
        rw [convs_succ, ← hfw, hst]
        simp only [fwS, hA, hB, hC, hD]
      rw [w1, w2, e2, e3]

theorem impl_convergents_eq (p q : Int) (hp : -1000000 ≤ p) (hp1 : p ≤ 1000000) (hq : 1 ≤ q) (hq1 : q ≤ 1000000) (k : Nat) (hk : 3000000 < k) (r : (List (Int × Int)) → Option α) : impl_convergents k p q r = r (convs (cfX p q) (cfX p q).length) := by
  unfold impl_convergents
  have hlen := cfX_length p q
  rw [impl_expand_eq k (by omega) p q _ hp hp1 (by omega) hq1]
  obtain ⟨a, b, c, d, e⟩ := impl_convs_l3 (α := α) p q hp hp1 hq hq1 (cfX p q).length 0 k (fun _ _ out _ _ _ _ _ => r out) r (by omega) (by omega)
  simpa [convs, fw] using e

theorem spec_has_l5 : ∀ (rest : List (Int × Int)) (k i : Nat) (s : List (Int × Int)) (x y : Int) (r : Bool → Int → Option α), s.drop i = rest → s.length ≤ 100000000 → i ≤ s.length → rest.length < k → spec_IsConvergent_l5 k x y i s (fun _ _ _ _ => r false 0) r = r (rest.any fun e => decide (e.1 = x) && decide (e.2 = y)) 0
  | [], k, i, s, x, y, r, hd, hb, hi, hk => by
    cases k with
    | zero => omega
    | succ k =>
      have h1 := drop_nil hd
      rw [spec_IsConvergent_l5, dec_lt_f (by omega)]
      rfl
  | e :: rest, k, i, s, x, y, r, hd, hb, hi, hk => by
    cases k with
    | zero => omega
    | succ k =>
      obtain ⟨h1, h2, h3⟩ := drop_cons hd
      have e1 : w64 ((i : Int) + 1) = ((i + 1 : Nat) : Int) := by rw [w64_of (by omega) (by omega)]; omega
      rw [spec_IsConvergent_l5, dec_lt_t (by omega), cond_true, dec_le_t (by omega), Bool.and_self, cond_true, Int.toNat_natCast, h1, Option.bind_some, e1, List.any_cons]
      cases hc : (decide (e.1 = x) && decide (e.2 = y)) with
      | true => rfl
      | false =>
        rw [cond_false, Bool.false_or]
        exact spec_has_l5 rest k (i + 1) s x y r h2 hb (by omega) (by simp at hk; omega)

theorem slices_Contains_points (k : Nat) (s : List (Int × Int)) (x y : Int) (r : Bool → Option α) (hs : s.length ≤ 100000000) (hk : s.length < k) : slices_Contains_impl_Point_impl_Point k s x y r = r (s.any fun e => decide (e.1 = x) && decide (e.2 = y)) := by
  unfold slices_Contains_impl_Point_impl_Point slices_Index_impl_Point_impl_Point
  have key : ∀ (rest : List (Int × Int)) (k i : Nat), s.drop i = rest → i ≤ s.length → rest.length < k → slices_Index_impl_Point_impl_Point_l2 k s.length i s x y (fun _ _ _ _ _ => r (decide ((0 : Int) ≤ -1))) (fun v => r (decide (0 ≤ v))) = r (rest.any fun e => decide (e.1 = x) && decide (e.2 = y)) := by
    intro rest
    induction rest with
    | nil =>
      intro k i hd hi hk
      cases k with
      | zero => omega
      | succ k =>
        have h1 := drop_nil hd
        rw [slices_Index_impl_Point_impl_Point_l2, dec_lt_f (by omega)]
        rfl
    | cons e rest ih =>
      intro k i hd hi hk
      cases k with
      | zero => omega
      | succ k =>
        obtain ⟨h1, h2, h3⟩ := drop_cons hd
        have e1 : w64 ((i : Int) + 1) = ((i + 1 : Nat) : Int) := by rw [w64_of (by omega) (by omega)]; omega
        have hc2 : (decide (x = e.1) && decide (y = e.2)) = (decide (e.1 = x) && decide (e.2 = y)) := by
          congr 1 <;> exact decide_eq_decide.2 ⟨Eq.symm, Eq.symm⟩
        rw [slices_Index_impl_Point_impl_Point_l2, dec_lt_t (by omega), cond_true, dec_le_t (by omega), Bool.and_self, cond_true, Int.toNat_natCast, h1, Option.bind_some, e1, List.any_cons, hc2]
        cases hc : (decide (e.1 = x) && decide (e.2 = y)) with
        | true => rw [cond_true]; rfl
        | false =>
          rw [cond_false, Bool.false_or]
          exact ih k (i + 1) h2 (by omega) (by simp at hk; omega)
  exact key s k 0 (by simp) (by omega) hk

theorem conv_both (k : Nat) (hk : 4000000 < k) (p q x y : Int) : ∃ b c, (∀ r : Bool → Int → Option α, spec_IsConvergent k p q x y r = r b c) ∧ (∀ r : Bool → Int → Option α, impl_IsConvergent k p q x y r = r b c) := by
  simp only [spec_IsConvergent, impl_IsConvergent, spec_l10Ratio_eq, impl_ratioOk_eq]
  cases h1 : (crd p && inB q 1 1000000) with
  | false => exact ⟨false, 2, by simp, by simp⟩
  | true =>
    cases h2 : (crd x && inB y 1 1000000) with
    | false => exact ⟨false, 2, by simp, by simp⟩
    | true =>
      simp only [Bool.and_eq_true, crd_iff, inB_iff] at h1 h2
      have hlen := cfX_length p q
      refine ⟨(convs (cfX p q) (cfX p q).length).any fun e => decide (e.1 = x) && decide (e.2 = y), 0, fun r => ?_, fun r => ?_⟩
      · rw [Bool.not_true, cond_false, cond_false, spec_ConvergentsOf_eq p q h1.1.1 h1.1.2 h1.2.1 h1.2.2 k (by omega)]
        exact spec_has_l5 (α := α) (convs (cfX p q) (cfX p q).length) k 0 (convs (cfX p q) (cfX p q).length) x y r (by simp) (by rw [convs_length]; omega) (by omega) (by rw [convs_length]; omega)
      · rw [Bool.not_true, cond_false, cond_false, impl_convergents_eq p q h1.1.1 h1.1.2 h1.2.1 h1.2.2 k (by omega)]
        exact slices_Contains_points k _ x y _ (by rw [convs_length]; omega) (by rw [convs_length]; omega)

theorem law_IsConvergent (k : Nat) (hk : 4000000 < k) (p q x y : Int) (r : Bool → Option α) : laws_FnExactIsConvergent k p q x y r = r true := by
  obtain ⟨b, c, h1, h2⟩ := conv_both (α := α) k hk p q x y
  simp [laws_FnExactIsConvergent, h1, h2]

end Go.Sh
