/- Plain laws: what the readings without memory answer. -/
import Derived.Test.YtegnnbhphgeocaaShXCommonRecords
namespace Go.Sh
open Go Go.Ev

variable {α : Type}

theorem spec_l01In_eq (k : Nat) (n low high : Int) (r : Bool → Option α) : spec_l01In k n low high r = r (inB n low high) := by
  unfold spec_l01In inB
  cases decide (low ≤ n) <;> rfl

theorem spec_l01Fits_eq (k : Nat) (n : Int) (r : Bool → Option α) : spec_l01Fits k n r = r (crd n) := by
  simp only [spec_l01Fits, spec_l01In_eq]; rfl

theorem impl_in_eq (k : Nat) (n low high : Int) (r : Bool → Option α) : impl_in k n low high r = r (inB n low high) := by
  unfold impl_in inB
  cases decide (low ≤ n) <;> rfl

theorem impl_isCoord_eq (k : Nat) (n : Int) (r : Bool → Option α) : impl_isCoord k n r = r (crd n) := by
  simp only [impl_isCoord, impl_in_eq]; rfl

theorem spec_l10Ratio_eq (k : Nat) (p q low : Int) (r : Bool → Option α) : spec_l10Ratio k p q low r = r (crd p && inB q low 1000000) := by
  simp only [spec_l10Ratio, spec_l01Fits_eq, spec_l01In_eq]
  cases crd p <;> rfl

theorem impl_ratioOk_eq (k : Nat) (p q : Int) (r : Bool → Option α) : impl_ratioOk k p q r = r (crd p && inB q 1 1000000) := by
  simp only [impl_ratioOk, impl_isCoord_eq, impl_in_eq]
  cases crd p <;> rfl

theorem impl_bestOk_eq (k : Nat) (p q n : Int) (r : Bool → Option α) : impl_bestOk k p q n r = r (crd p && inB q 1 1000000 && inB n 1 100000) := by
  simp only [impl_bestOk, impl_ratioOk_eq, impl_in_eq]
  cases (crd p && inB q 1 1000000) <;> rfl

theorem impl_floor_eq (k : Nat) (a b : Int) (r : Int → Option α) (hb : 0 < b) (ha : -1000000000000000000 ≤ a) (ha2 : a ≤ 1000000000000000000) : impl_floor k a b r = r (a / b) := by
  have hq := tdiv_abs a b
  simp only [impl_floor, dec_eq_f (show b ≠ 0 by omega), cond_false, w64_of (n := Int.tdiv a b) (by omega) (by omega), w64_of (n := Int.tdiv a b - 1) (by omega) (by omega)]
  rw [← tdiv_floor a b hb]
  cases (!decide (Int.tmod a b = 0)) <;> cases (!(decide (a < 0) == decide (b < 0))) <;> rfl

theorem spec_l01Floor_eq (k : Nat) (a b : Int) (r : Int → Option α) (hb : 0 < b) (ha : -1000000000000000000 ≤ a) (ha2 : a ≤ 1000000000000000000) : spec_l01Floor k a b r = r (a / b) := by
  have hq := tdiv_abs a b
  simp only [spec_l01Floor, dec_eq_f (show b ≠ 0 by omega), cond_false, w64_of (n := Int.tdiv a b) (by omega) (by omega), w64_of (n := Int.tdiv a b - 1) (by omega) (by omega)]
  rw [← tdiv_floor a b hb]
  cases (!decide (Int.tmod a b = 0)) <;> cases (!(decide (a < 0) == decide (b < 0))) <;> rfl

theorem impl_mod_eq (k : Nat) (a b : Int) (r : Int → Option α) (hb : 0 < b) (hb2 : b ≤ 1000000000000000000) (ha : -1000000000000000000 ≤ a) (ha2 : a ≤ 1000000000000000000) : impl_mod k a b r = r (a % b) := by
  simp only [impl_mod, impl_floor_eq k a b _ hb ha ha2]
  have h1 := Int.emod_add_mul_ediv a b
  have h2 := Int.emod_nonneg a (b := b) (by omega)
  have h3 := Int.emod_lt_of_pos a hb
  rw [w64_of (n := b * (a / b)) (by omega) (by omega), w64_of (by omega) (by omega)]
  congr 1
  omega

theorem eqInt64S_l4_same : ∀ (rest : List Int) (k i : Nat) (s : List Int) b (r : Bool → Option α), s.drop i = rest → s.length ≤ big → i ≤ s.length → rest.length < k → laws_eqInt64S_l4 k i s s b r = b s.length s s
  | [], k + 1, i, s, b, r, hd, hb, hi, _ => by
    have h1 := drop_nil hd
    have h2 : i = s.length := by omega
    subst h2
    rw [laws_eqInt64S_l4, dec_lt_f (by omega)]
    rfl
  | e :: rest, k + 1, i, s, b, r, hd, hb, hi, hk => by
    obtain ⟨h1, h2, h3⟩ := drop_cons hd
    rw [big_val] at hb
    rw [laws_eqInt64S_l4, dec_lt_t (by omega), dec_le_t (by omega), cond_true, Bool.and_true, cond_true, Int.toNat_natCast, h1, Option.bind_some, cond_true]
    have e1 : w64 ((i : Int) + 1) = ((i + 1 : Nat) : Int) := by rw [w64_of (by omega) (by omega)]; omega
    simp only [Option.bind_some, decide_true, Bool.not_true, cond_false, e1]
    exact eqInt64S_l4_same rest k (i + 1) s b r h2 (by rw [big_val]; omega) (by omega) (by simp at hk; omega)
  | _, 0, _, _, _, _, _, _, _, hk => by omega

theorem eqInt64S_same (k : Nat) (s : List Int) (r : Bool → Option α) (hs : s.length ≤ big) (hk : s.length < k) : laws_eqInt64S k s s r = r true := by
  unfold laws_eqInt64S
  have h := eqInt64S_l4_same (α := α) s k 0 s (fun _ _ _ => r true) r (by simp) hs (by omega) hk
  simpa using h

/-- What is marked. -/
def marked : Nat → Int → List Int
  | 0, _ => []
  | n + 1, m => m :: marked n (m + 1)

theorem marked_length : ∀ (n : Nat) (m : Int), (marked n m).length = n
  | 0, _ => rfl
  | n + 1, m => by simp [marked, marked_length n]

theorem set_mid {β : Type} (pre : List β) (x y : β) (rest : List β) : (pre ++ x :: rest).set pre.length y = pre ++ [y] ++ rest := by
  rw [List.set_append_right _ _ (Nat.le_refl _)]
  simp

theorem markInt64S_l2_ok : ∀ (rest : List Int) (k : Nat) (pre : List Int) (m : Int) b (r : Int → List Int → Option α), pre.length + rest.length ≤ big → 0 ≤ m → m + rest.length ≤ 1000000000000000 → rest.length < k →
    laws_markInt64S_l2 k m pre.length (pre ++ rest) b r = b (m + rest.length) (pre.length + rest.length : Nat) (pre ++ marked rest.length m)
  | [], k + 1, pre, m, b, r, hb, h0, hm, _ => by
    rw [laws_markInt64S_l2, dec_lt_f (by simp)]
    simp [marked]
  | e :: rest, k + 1, pre, m, b, r, hb, h0, hm, hk => by
    rw [big_val] at hb
    simp only [List.length_cons] at hb hk hm
    have hl : (pre ++ e :: rest).length = pre.length + (rest.length + 1) := by simp
    rw [laws_markInt64S_l2, hl, dec_lt_t (by omega), dec_le_t (by omega), cond_true, Bool.and_true, cond_true, Int.toNat_natCast]
    have e1 : w64 ((pre.length : Int) + 1) = ((pre ++ [m]).length : Int) := by rw [w64_of (by omega) (by omega)]; simp
    have e2 : w64 (m + 1) = m + 1 := w64_of (by omega) (by omega)
    have hg : (pre ++ e :: rest)[pre.length]? = some e := by simp
    rw [hg, Option.bind_some, set_mid, e1, e2]
    rw [markInt64S_l2_ok rest k (pre ++ [m]) (m + 1) b r (by rw [big_val]; simp; omega) (by omega) (by omega) (by omega)]
    simp only [marked, List.append_assoc, List.singleton_append, List.length_cons, List.length_append, List.length_nil]
    congr 1
    · omega
    · omega
  | _, 0, _, _, _, _, _, _, _, hk => by omega

theorem markInt64S_ok (k : Nat) (s : List Int) (m : Int) (r : Int → List Int → Option α) (hs : s.length ≤ big) (h0 : 0 ≤ m) (hm : m + s.length ≤ 1000000000000000) (hk : s.length < k) : laws_markInt64S k s m r = r (m + s.length) (marked s.length m) := by
  unfold laws_markInt64S
  have h := markInt64S_l2_ok (α := α) s k [] m (fun a _ c => r a c) r (by simpa using hs) h0 hm hk
  simpa using h

theorem heldInt64S_l2_ok : ∀ (n : Nat) (k : Nat) (pre : List Int) (m : Int) b (r : Int → Option α), pre.length + n ≤ big → 0 ≤ m → m + n ≤ 1000000000000000 → n < k →
    laws_heldInt64S_l2 k m pre.length (pre ++ marked n m) b r = b (m + n) (pre.length + n : Nat) (pre ++ marked n m)
  | 0, k + 1, pre, m, b, r, hb, h0, hm, _ => by
    rw [laws_heldInt64S_l2, dec_lt_f (by simp [marked])]
    simp [marked]
  | n + 1, k + 1, pre, m, b, r, hb, h0, hm, hk => by
    rw [big_val] at hb
    have hl : (pre ++ marked (n + 1) m).length = pre.length + (n + 1) := by simp [marked_length]
    rw [laws_heldInt64S_l2, hl, dec_lt_t (by omega), dec_le_t (by omega), cond_true, Bool.and_true, cond_true, Int.toNat_natCast]
    have e1 : w64 ((pre.length : Int) + 1) = ((pre ++ [m]).length : Int) := by rw [w64_of (by omega) (by omega)]; simp
    have e2 : w64 (m + 1) = m + 1 := w64_of (by omega) (by omega)
    have hg : (pre ++ marked (n + 1) m)[pre.length]? = some m := by simp [marked]
    have ha : pre ++ marked (n + 1) m = (pre ++ [m]) ++ marked n (m + 1) := by simp [marked]
    rw [hg, Option.bind_some, e1, e2, ha]
    simp only [decide_true, Bool.not_true, cond_false]
    rw [heldInt64S_l2_ok n k (pre ++ [m]) (m + 1) b r (by rw [big_val]; simp; omega) (by omega) (by omega) (by omega)]
    congr 1
    · omega
    · simp; omega
  | _, 0, _, _, _, _, _, _, _, hk => by omega

theorem heldInt64S_ok (k n : Nat) (m : Int) (r : Int → Option α) (hs : n ≤ big) (h0 : 0 ≤ m) (hm : m + n ≤ 1000000000000000) (hk : n < k) : laws_heldInt64S k (marked n m) m r = r (m + n) := by
  unfold laws_heldInt64S
  have h := heldInt64S_l2_ok (α := α) n k [] m (fun a _ _ => r a) r (by simpa using hs) h0 hm hk
  simpa using h

/-- The least number with the least distance, and this. -/
def nearP (x q : Int) : Int := if q < 2 * (x % q) then x / q + 1 else x / q

def nearE (x q : Int) : Int := if q < 2 * (x % q) then q - x % q else x % q

theorem near_bounds {x q : Int} (hq : 0 < q) : 0 ≤ nearE x q ∧ 2 * nearE x q ≤ q := by
  have h2 := Int.emod_nonneg x (b := q) (by omega)
  have h3 := Int.emod_lt_of_pos x hq
  unfold nearE
  split <;> omega

theorem quo_bounds {x q : Int} (hq : 0 < q) (h0 : -1000000000000 ≤ x) (h1 : x ≤ 1000000000000) : -1000000000001 ≤ x / q ∧ x / q ≤ 1000000000000 := by
  have h := ediv_bounds (a := x) hq
  constructor
  · rcases ilt_or_ge (x / q) (-1000000000001) with h3 | h3
    · have := mul_le_l (q) (a := x / q) (b := -1000000000002) (by omega) (by omega)
      omega
    · exact h3
  · rcases ilt_or_ge 1000000000000 (x / q) with h3 | h3
    · have := mul_le_l (q) (a := 1000000000001) (b := x / q) (by omega) (by omega)
      omega
    · exact h3

theorem quo_rest (x q : Int) : x - x / q * q = x % q := by
  have h1 := Int.emod_add_mul_ediv x q
  rw [Int.mul_comm]
  omega

theorem spec_l10Near_eq (k : Nat) (x q : Int) (r : Int → Int → Option α) (hq : 0 < q) (hq1 : q ≤ 1000000) (h0 : -1000000000000 ≤ x) (h1 : x ≤ 1000000000000) : spec_l10Near k x q r = r (nearP x q) (nearE x q) := by
  have hb := quo_bounds hq h0 h1
  have hr := quo_rest x q
  have h2 := Int.emod_nonneg x (b := q) (by omega)
  have h3 := Int.emod_lt_of_pos x hq
  simp only [spec_l10Near]
  rw [spec_l01Floor_eq _ _ _ _ hq (by omega) (by omega)]
  have e1 : w64 (x / q * q) = x / q * q := w64_of (by omega) (by omega)
  have e2 : w64 (x - x / q * q) = x % q := by rw [w64_of (by omega) (by omega), hr]
  have e3 : w64 (q - x % q) = q - x % q := w64_of (by omega) (by omega)
  have e4 : w64 (x / q + 1) = x / q + 1 := w64_of (by omega) (by omega)
  simp only [e1, e2, e3, e4]
  unfold nearP nearE
  by_cases hc : q < 2 * (x % q)
  · rw [dec_lt_t (by omega), if_pos hc, if_pos hc]
    rfl
  · rw [dec_lt_f (by omega), if_neg hc, if_neg hc]
    rfl

theorem impl_near_eq (k : Nat) (x q : Int) (r : Int → Option α) (hq : 0 < q) (hq1 : q ≤ 1000000) (h0 : -1000000000000 ≤ x) (h1 : x ≤ 1000000000000) : impl_near k x q r = r (nearE x q) := by
  have h2 := Int.emod_nonneg x (b := q) (by omega)
  have h3 := Int.emod_lt_of_pos x hq
  simp only [impl_near]
  rw [impl_mod_eq _ _ _ _ hq (by omega) (by omega) (by omega), impl_mod_eq _ _ _ _ hq (by omega) (by omega) (by omega), w64_of (by omega) (by omega)]
  congr 1
  unfold nearE
  split <;> omega

theorem common_both : ∀ (m : Nat) (p s q n least best k_ : Int) (out : List Int), 0 < q → q ≤ 1000000 → -1000000 ≤ p → p ≤ 1000000 → -1000000 ≤ s → s ≤ 1000000 → 1 ≤ k_ → k_ ≤ 100001 → n ≤ 100000 → (out.length : Int) < k_ → n + 1 - k_ ≤ m →
      ((out = [] ∧ best = q + 1) ∨ (out ≠ [] ∧ best = least)) →
      ∃ res, res.length ≤ 100001 ∧ (∀ k, m < k → ∀ b0 r0 r1, ∃ l k', spec_CommonRecords_l5 (α := α) k p s q n least k_ out b0 r0 r1 = b0 p s q n l k' res) ∧ (∀ k, m < k → ∀ b0 r0 r1, ∃ l k', impl_CommonRecords_l5 (α := α) k p s q n best k_ out b0 r0 r1 = b0 p s q n l k' res)
  | m, p, s, q, n, least, best, k_, out, hq, hq1, hp, hp1, hs, hs1, hk, hk2, hn, hl, hm, hR => by
    rcases ilt_or_ge n k_ with h | h
    · refine ⟨out, by omega, fun k hkm b0 r0 r1 => ?_, fun k hkm b0 r0 r1 => ?_⟩
      · cases k with
        | zero => omega
        | succ k =>
          refine ⟨least, k_, ?_⟩
          rw [spec_CommonRecords_l5, dec_le_f h]
          rfl
      · cases k with
        | zero => omega
        | succ k =>
          refine ⟨best, k_, ?_⟩
          rw [impl_CommonRecords_l5, dec_le_f h]
          rfl
    · cases m with
      | zero => omega
      | succ m =>
        have hx := mul_bound (a := k_) (b := p) (A := 100000) (B := 1000000) (by omega) (by omega) hp hp1
        have hy := mul_bound (a := k_) (b := s) (A := 100000) (B := 1000000) (by omega) (by omega) hs hs1
        have n1 := near_bounds (x := k_ * p) hq
        have n2 := near_bounds (x := k_ * s) hq
        have S : ∀ k b0 r0 r1, spec_CommonRecords_l5 (α := α) (k + 1) p s q n least k_ out b0 r0 r1 = if out = [] ∨ max (nearE (k_ * p) q) (nearE (k_ * s) q) < least then spec_CommonRecords_l5 k p s q n (max (nearE (k_ * p) q) (nearE (k_ * s) q)) (k_ + 1) (out ++ [k_]) b0 r0 r1 else spec_CommonRecords_l5 k p s q n least (k_ + 1) out b0 r0 r1 := by
          intro k b0 r0 r1
          rw [spec_CommonRecords_l5, dec_le_t h, cond_true, w64_of (n := k_ * p) (by omega) (by omega), w64_of (n := k_ * s) (by omega) (by omega), spec_l10Near_eq _ _ _ _ hq hq1 (by omega) (by omega), spec_l10Near_eq _ _ _ _ hq hq1 (by omega) (by omega), w64_of (n := k_ + 1) (by omega) (by omega)]
          have hlen : decide (out.length + 1 ≤ big) = true := decide_eq_true (by rw [big_val]; omega)
          rw [hlen]
          cases out with
          | nil => simp
          | cons x out =>
            rw [dec_eq_f (by simp; omega)]
            by_cases hc : max (nearE (k_ * p) q) (nearE (k_ * s) q) < least <;> simp [hc]
        have I : ∀ k b0 r0 r1, impl_CommonRecords_l5 (α := α) (k + 1) p s q n best k_ out b0 r0 r1 = if max (nearE (k_ * p) q) (nearE (k_ * s) q) < best then impl_CommonRecords_l5 k p s q n (max (nearE (k_ * p) q) (nearE (k_ * s) q)) (k_ + 1) (out ++ [k_]) b0 r0 r1 else impl_CommonRecords_l5 k p s q n best (k_ + 1) out b0 r0 r1 := by
          intro k b0 r0 r1
          rw [impl_CommonRecords_l5, dec_le_t h, cond_true, w64_of (n := k_ * p) (by omega) (by omega), w64_of (n := k_ * s) (by omega) (by omega), impl_near_eq _ _ _ _ hq hq1 (by omega) (by omega), impl_near_eq _ _ _ _ hq hq1 (by omega) (by omega), w64_of (n := k_ + 1) (by omega) (by omega)]
          have hlen : decide (out.length + 1 ≤ big) = true := decide_eq_true (by rw [big_val]; omega)
          rw [hlen]
          by_cases hc : max (nearE (k_ * p) q) (nearE (k_ * s) q) < best <;> simp [hc]
        have hcond : (out = [] ∨ max (nearE (k_ * p) q) (nearE (k_ * s) q) < least) ↔ max (nearE (k_ * p) q) (nearE (k_ * s) q) < best := by
          rcases hR with ⟨r1, r2⟩ | ⟨r1, r2⟩
          · simp only [r1, true_or, true_iff]
            omega
          · simp only [r1, false_or, r2]
        by_cases hc : max (nearE (k_ * p) q) (nearE (k_ * s) q) < best
        · obtain ⟨res, q2, q3, q4⟩ := common_both m p s q n (max (nearE (k_ * p) q) (nearE (k_ * s) q)) (max (nearE (k_ * p) q) (nearE (k_ * s) q)) (k_ + 1) (out ++ [k_]) hq hq1 hp hp1 hs hs1 (by omega) (by omega) hn (by simp; omega) (by omega) (.inr ⟨by simp, rfl⟩)
          refine ⟨res, q2, fun k hkm b0 r0 r1 => ?_, fun k hkm b0 r0 r1 => ?_⟩
          · cases k with
            | zero => omega
            | succ k =>
              rw [S, if_pos (hcond.2 hc)]
              exact q3 k (by omega) b0 r0 r1
          · cases k with
            | zero => omega
            | succ k =>
              rw [I, if_pos hc]
              exact q4 k (by omega) b0 r0 r1
        · have hno : out ≠ [] := fun e => hc (hcond.1 (.inl e))
          obtain ⟨res, q2, q3, q4⟩ := common_both m p s q n least best (k_ + 1) out hq hq1 hp hp1 hs hs1 (by omega) (by omega) hn (by omega) (by omega) (by rcases hR with h1 | h1; exact absurd h1.1 hno; exact .inr h1)
          refine ⟨res, q2, fun k hkm b0 r0 r1 => ?_, fun k hkm b0 r0 r1 => ?_⟩
          · cases k with
            | zero => omega
            | succ k =>
              rw [S, if_neg (fun h1 => hc (hcond.1 h1))]
              exact q3 k (by omega) b0 r0 r1
          · cases k with
            | zero => omega
            | succ k =>
              rw [I, if_neg hc]
              exact q4 k (by omega) b0 r0 r1

theorem common_eq (k : Nat) (hk : 100000 < k) (p s q n : Int) : (∀ (r0 : Int → Option α) r1, spec_CommonRecords k p s q n r0 r1 = r0 2) ∧ (∀ (r0 : Int → Option α) r1, impl_CommonRecords k p s q n r0 r1 = r0 2) ∨
    ∃ res, res.length ≤ 100001 ∧ (∀ (r0 : Int → Option α) r1, spec_CommonRecords k p s q n r0 r1 = r1 res 0) ∧ (∀ (r0 : Int → Option α) r1, impl_CommonRecords k p s q n r0 r1 = r1 res 0) := by
  simp only [spec_CommonRecords, impl_CommonRecords, spec_l10Ratio_eq, spec_l01In_eq, impl_bestOk_eq, impl_ratioOk_eq]
  cases h1 : (crd p && inB q 1 1000000) with
  | false => exact .inl ⟨by simp, by simp⟩
  | true =>
    cases h2 : (crd s && inB q 1 1000000) with
    | false => exact .inl ⟨by simp, by cases inB n 1 100000 <;> simp⟩
    | true =>
      cases h3 : inB n 1 100000 with
      | false => exact .inl ⟨by simp, by simp⟩
      | true =>
        simp only [Bool.and_eq_true, crd_iff, inB_iff] at h1 h2 h3
        obtain ⟨res, q2, q3, q4⟩ := common_both (α := α) 100000 p s q n 0 (q + 1) 1 [] (by omega) h1.2.2 h1.1.1 h1.1.2 h2.1.1 h2.1.2 (by omega) (by omega) h3.2 (by simp) (by omega) (.inl ⟨rfl, rfl⟩)
        refine .inr ⟨res, q2, fun r0 r1 => ?_, fun r0 r1 => ?_⟩
        · obtain ⟨_, _, e⟩ := q3 k hk (fun _ _ _ _ _ _ out => r1 out 0) r0 r1
          simpa using e
        · obtain ⟨_, _, e⟩ := q4 k hk (fun _ _ _ _ _ _ out => r1 out 0) r0 r1
          have hw : w64 (q + 1) = q + 1 := w64_of (by omega) (by omega)
          simpa [hw] using e

theorem law_CommonRecords (k : Nat) (hk : 200000 < k) (p s q n : Int) (r : Bool → Option α) : laws_FnExactCommonRecords k p s q n r = r true := by
  simp only [laws_FnExactCommonRecords]
  rcases common_eq (α := α) k (by omega) p s q n with ⟨h1, h2⟩ | ⟨res, h0, h1, h2⟩
  · simp [h1, h2, laws_eqInt64S_0N_1N, laws_markInt64S_0N, laws_heldInt64S_0N]
  · simp only [h1, h2]
    have hb : res.length ≤ big := by rw [big_val]; omega
    rw [eqInt64S_same k res _ hb (by omega), markInt64S_ok k res 1 _ hb (by omega) (by omega) (by omega), heldInt64S_ok k res.length 1 _ hb (by omega) (by omega) (by omega), eqInt64S_same k res _ hb (by omega), heldInt64S_ok k res.length 1 _ hb (by omega) (by omega) (by omega)]
    rw [dec_lt_f (by omega)]
    simp

end Go.Sh
