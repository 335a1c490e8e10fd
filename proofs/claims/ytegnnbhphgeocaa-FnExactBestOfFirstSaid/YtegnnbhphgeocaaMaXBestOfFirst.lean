/- Plain laws: what the readings without memory answer. -/
import Derived.Test.YtegnnbhphgeocaaShXBestOfFirst
namespace Go.Sh
open Go Go.Ev

variable {α : Type}

theorem spec_l01In_eq (k : Nat) (n low high : Int) (r : Bool → Option α) : spec_l01In k n low high r = r (inB n low high) := by
  unfold spec_l01In inB
  cases decide (low ≤ n) <;> rfl

theorem spec_l01Fits_eq (k : Nat) (n : Int) (r : Bool → Option α) : spec_l01Fits k n r = r (crd n) := by
  simp only [spec_l01Fits, spec_l01In_eq]; rfl

theorem impl_in_eq (k : Nat) (n low high : Int) (r : Bool → Option α) : impl_in k n low high r = r (inB n low high) := by
  unfold impl_in inB
  cases decide (low ≤ n) <;> rfl

theorem impl_isCoord_eq (k : Nat) (n : Int) (r : Bool → Option α) : impl_isCoord k n r = r (crd n) := by
  simp only [impl_isCoord, impl_in_eq]; rfl

theorem spec_l10Ratio_eq (k : Nat) (p q low : Int) (r : Bool → Option α) : spec_l10Ratio k p q low r = r (crd p && inB q low 1000000) := by
  simp only [spec_l10Ratio, spec_l01Fits_eq, spec_l01In_eq]
  cases crd p <;> rfl

theorem impl_ratioOk_eq (k : Nat) (p q : Int) (r : Bool → Option α) : impl_ratioOk k p q r = r (crd p && inB q 1 1000000) := by
  simp only [impl_ratioOk, impl_isCoord_eq, impl_in_eq]
  cases crd p <;> rfl

theorem impl_bestOk_eq (k : Nat) (p q n : Int) (r : Bool → Option α) : impl_bestOk k p q n r = r (crd p && inB q 1 1000000 && inB n 1 100000) := by
  simp only [impl_bestOk, impl_ratioOk_eq, impl_in_eq]
  cases (crd p && inB q 1 1000000) <;> rfl

theorem impl_floor_eq (k : Nat) (a b : Int) (r : Int → Option α) (hb : 0 < b) (ha : -1000000000000000000 ≤ a) (ha2 : a ≤ 1000000000000000000) : impl_floor k a b r = r (a / b) := by
  have hq := tdiv_abs a b
  simp only [impl_floor, dec_eq_f (show b ≠ 0 by omega), cond_false, w64_of (n := Int.tdiv a b) (by omega) (by omega), w64_of (n := Int.tdiv a b - 1) (by omega) (by omega)]
  rw [← tdiv_floor a b hb]
  cases (!decide (Int.tmod a b = 0)) <;> cases (!(decide (a < 0) == decide (b < 0))) <;> rfl

theorem spec_l01Floor_eq (k : Nat) (a b : Int) (r : Int → Option α) (hb : 0 < b) (ha : -1000000000000000000 ≤ a) (ha2 : a ≤ 1000000000000000000) : spec_l01Floor k a b r = r (a / b) := by
  have hq := tdiv_abs a b
  simp only [spec_l01Floor, dec_eq_f (show b ≠ 0 by omega), cond_false, w64_of (n := Int.tdiv a b) (by omega) (by omega), w64_of (n := Int.tdiv a b - 1) (by omega) (by omega)]
  rw [← tdiv_floor a b hb]
  cases (!decide (Int.tmod a b = 0)) <;> cases (!(decide (a < 0) == decide (b < 0))) <;> rfl

theorem impl_size_eq (k : Nat) (n : Int) (r : Int → Option α) (h0 : -1000000000000000000 ≤ n) (h1 : n ≤ 1000000000000000000) : impl_size k n r = r (max n (-n)) := by
  simp only [impl_size]
  rw [w64_of (by omega) (by omega), Int.zero_sub]

theorem set_mid {β : Type} (pre : List β) (x y : β) (rest : List β) : (pre ++ x :: rest).set pre.length y = pre ++ [y] ++ rest := by
  rw [List.set_append_right _ _ (Nat.le_refl _)]
  simp

/-- The same for points. -/
def markedP : Nat → Int → List (Int × Int)
  | 0, _ => []
  | n + 1, m => (m, m + 1) :: markedP n (m + 2)

theorem markedP_length : ∀ (n : Nat) (m : Int), (markedP n m).length = n
  | 0, _ => rfl
  | n + 1, m => by simp [markedP, markedP_length n]

theorem laws_eqPoint_eq (k : Nat) (a b c d : Int) (r : Bool → Option α) : laws_eqPoint k a b c d r = r (decide (a = c) && decide (b = d)) := by
  unfold laws_eqPoint
  cases decide (a = c) <;> cases decide (b = d) <;> rfl

theorem eqPointS_l4_same : ∀ (rest : List (Int × Int)) (k i : Nat) (s : List (Int × Int)) b (r : Bool → Option α), s.drop i = rest → s.length ≤ big → i ≤ s.length → rest.length < k → laws_eqPointS_l4 k i s s b r = b s.length s s
  | [], k + 1, i, s, b, r, hd, hb, hi, _ => by
    have h1 := drop_nil hd
    have h2 : i = s.length := by omega
    subst h2
    rw [laws_eqPointS_l4, dec_lt_f (by omega)]
    rfl
  | e :: rest, k + 1, i, s, b, r, hd, hb, hi, hk => by
    obtain ⟨h1, h2, h3⟩ := drop_cons hd
    rw [big_val] at hb
    rw [laws_eqPointS_l4, dec_lt_t (by omega), dec_le_t (by omega), cond_true, Bool.and_true, cond_true, Int.toNat_natCast, h1, Option.bind_some, cond_true]
    have e1 : w64 ((i : Int) + 1) = ((i + 1 : Nat) : Int) := by rw [w64_of (by omega) (by omega)]; omega
    simp only [Option.bind_some, laws_eqPoint_eq, decide_true, Bool.and_true, Bool.not_true, cond_false, e1]
    exact eqPointS_l4_same rest k (i + 1) s b r h2 (by rw [big_val]; omega) (by omega) (by simp at hk; omega)
  | _, 0, _, _, _, _, _, _, _, hk => by omega

theorem eqPointS_same (k : Nat) (s : List (Int × Int)) (r : Bool → Option α) (hs : s.length ≤ big) (hk : s.length < k) : laws_eqPointS k s s r = r true := by
  unfold laws_eqPointS
  have h := eqPointS_l4_same (α := α) s k 0 s (fun _ _ _ => r true) r (by simp) hs (by omega) hk
  simpa using h

theorem markPointS_l2_ok : ∀ (rest : List (Int × Int)) (k : Nat) (pre : List (Int × Int)) (m : Int) b (r : Int → List (Int × Int) → Option α), pre.length + rest.length ≤ big → 0 ≤ m → m + 2 * rest.length ≤ 1000000000000000 → rest.length < k →
    laws_markPointS_l2 k m pre.length (pre ++ rest) b r = b (m + 2 * rest.length) (pre.length + rest.length : Nat) (pre ++ markedP rest.length m)
  | [], k + 1, pre, m, b, r, hb, h0, hm, _ => by
    rw [laws_markPointS_l2, dec_lt_f (by simp)]
    simp [markedP]
  | e :: rest, k + 1, pre, m, b, r, hb, h0, hm, hk => by
    rw [big_val] at hb
    simp only [List.length_cons] at hb hk hm
    have hl : (pre ++ e :: rest).length = pre.length + (rest.length + 1) := by simp
    have e1 : w64 ((pre.length : Int) + 1) = ((pre ++ [(m, m + 1)]).length : Int) := by rw [w64_of (by omega) (by omega)]; simp
    have e2 : w64 (m + 1) = m + 1 := w64_of (by omega) (by omega)
    have e3 : w64 (m + 1 + 1) = m + 2 := by rw [w64_of (by omega) (by omega)]; omega
    have hg : (pre ++ e :: rest)[pre.length]? = some e := by simp
    have hg2 : ((pre ++ e :: rest).set pre.length (m, e.2))[pre.length]? = some (m, e.2) := by rw [set_mid]; simp
    have hs2 : ((pre ++ e :: rest).set pre.length (m, e.2)).set pre.length (m, m + 1) = (pre ++ [(m, m + 1)]) ++ rest := by
      rw [List.set_set, set_mid]
    rw [laws_markPointS_l2, hl, dec_lt_t (by omega), dec_le_t (by omega), cond_true, Bool.and_true, cond_true, Int.toNat_natCast, hg, Option.bind_some, List.length_set, hl, dec_lt_t (by omega), Bool.and_self, cond_true, hg2, Option.bind_some, e2, hs2, e1, e3]
    rw [markPointS_l2_ok rest k (pre ++ [(m, m + 1)]) (m + 2) b r (by rw [big_val]; simp; omega) (by omega) (by omega) (by omega)]
    simp only [markedP, List.append_assoc, List.singleton_append, List.length_cons, List.length_append, List.length_nil]
    congr 1
    · omega
    · omega
  | _, 0, _, _, _, _, _, _, _, hk => by omega

theorem markPointS_ok (k : Nat) (s : List (Int × Int)) (m : Int) (r : Int → List (Int × Int) → Option α) (hs : s.length ≤ big) (h0 : 0 ≤ m) (hm : m + 2 * s.length ≤ 1000000000000000) (hk : s.length < k) : laws_markPointS k s m r = r (m + 2 * s.length) (markedP s.length m) := by
  unfold laws_markPointS
  have h := markPointS_l2_ok (α := α) s k [] m (fun a _ c => r a c) r (by simpa using hs) h0 hm hk
  simpa using h

theorem heldPointS_l2_ok : ∀ (n : Nat) (k : Nat) (pre : List (Int × Int)) (m : Int) b (r : Int → Option α), pre.length + n ≤ big → 0 ≤ m → m + 2 * n ≤ 1000000000000000 → n < k →
    laws_heldPointS_l2 k m pre.length (pre ++ markedP n m) b r = b (m + 2 * n) (pre.length + n : Nat) (pre ++ markedP n m)
  | 0, k + 1, pre, m, b, r, hb, h0, hm, _ => by
    rw [laws_heldPointS_l2, dec_lt_f (by simp [markedP])]
    simp [markedP]
  | n + 1, k + 1, pre, m, b, r, hb, h0, hm, hk => by
    rw [big_val] at hb
    have hl : (pre ++ markedP (n + 1) m).length = pre.length + (n + 1) := by simp [markedP_length]
    have e1 : w64 ((pre.length : Int) + 1) = ((pre ++ [(m, m + 1)]).length : Int) := by rw [w64_of (by omega) (by omega)]; simp
    have e2 : w64 (m + 1) = m + 1 := w64_of (by omega) (by omega)
    have e3 : w64 (m + 1 + 1) = m + 2 := by rw [w64_of (by omega) (by omega)]; omega
    have hg : (pre ++ markedP (n + 1) m)[pre.length]? = some (m, m + 1) := by simp [markedP]
    have ha : pre ++ markedP (n + 1) m = (pre ++ [(m, m + 1)]) ++ markedP n (m + 2) := by simp [markedP]
    rw [laws_heldPointS_l2, hl, dec_lt_t (by omega), dec_le_t (by omega), cond_true, Bool.and_true, cond_true, Int.toNat_natCast, hg, Option.bind_some]
    simp only [decide_true, Bool.not_true, cond_false, cond_true, Option.bind_some, e2, e3, e1]
    rw [ha, heldPointS_l2_ok n k (pre ++ [(m, m + 1)]) (m + 2) b r (by rw [big_val]; simp; omega) (by omega) (by omega) (by omega)]
    congr 1
    · omega
    · simp; omega
  | _, 0, _, _, _, _, _, _, _, hk => by omega

theorem heldPointS_ok (k n : Nat) (m : Int) (r : Int → Option α) (hs : n ≤ big) (h0 : 0 ≤ m) (hm : m + 2 * n ≤ 1000000000000000) (hk : n < k) : laws_heldPointS k (markedP n m) m r = r (m + 2 * n) := by
  unfold laws_heldPointS
  have h := heldPointS_l2_ok (α := α) n k [] m (fun a _ _ => r a) r (by simpa using hs) h0 hm hk
  simpa using h

/-- The least number with the least distance, and this. -/
def nearP (x q : Int) : Int := if q < 2 * (x % q) then x / q + 1 else x / q

def nearE (x q : Int) : Int := if q < 2 * (x % q) then q - x % q else x % q

theorem near_bounds {x q : Int} (hq : 0 < q) : 0 ≤ nearE x q ∧ 2 * nearE x q ≤ q := by
  have h2 := Int.emod_nonneg x (b := q) (by omega)
  have h3 := Int.emod_lt_of_pos x hq
  unfold nearE
  split <;> omega

theorem quo_bounds {x q : Int} (hq : 0 < q) (h0 : -1000000000000 ≤ x) (h1 : x ≤ 1000000000000) : -1000000000001 ≤ x / q ∧ x / q ≤ 1000000000000 := by
  have h := ediv_bounds (a := x) hq
  constructor
  · rcases ilt_or_ge (x / q) (-1000000000001) with h3 | h3
    · have := mul_le_l (q) (a := x / q) (b := -1000000000002) (by omega) (by omega)
      omega
    · exact h3
  · rcases ilt_or_ge 1000000000000 (x / q) with h3 | h3
    · have := mul_le_l (q) (a := 1000000000001) (b := x / q) (by omega) (by omega)
      omega
    · exact h3

theorem quo_rest (x q : Int) : x - x / q * q = x % q := by
  have h1 := Int.emod_add_mul_ediv x q
  rw [Int.mul_comm]
  omega

theorem spec_l10Near_eq (k : Nat) (x q : Int) (r : Int → Int → Option α) (hq : 0 < q) (hq1 : q ≤ 1000000) (h0 : -1000000000000 ≤ x) (h1 : x ≤ 1000000000000) : spec_l10Near k x q r = r (nearP x q) (nearE x q) := by
  have hb := quo_bounds hq h0 h1
  have hr := quo_rest x q
  have h2 := Int.emod_nonneg x (b := q) (by omega)
  have h3 := Int.emod_lt_of_pos x hq
  simp only [spec_l10Near]
  rw [spec_l01Floor_eq _ _ _ _ hq (by omega) (by omega)]
  have e1 : w64 (x / q * q) = x / q * q := w64_of (by omega) (by omega)
  have e2 : w64 (x - x / q * q) = x % q := by rw [w64_of (by omega) (by omega), hr]
  have e3 : w64 (q - x % q) = q - x % q := w64_of (by omega) (by omega)
  have e4 : w64 (x / q + 1) = x / q + 1 := w64_of (by omega) (by omega)
  simp only [e1, e2, e3, e4]
  unfold nearP nearE
  by_cases hc : q < 2 * (x % q)
  · rw [dec_lt_t (by omega), if_pos hc, if_pos hc]
    rfl
  · rw [dec_lt_f (by omega), if_neg hc, if_neg hc]
    rfl

/-- A step of the program's records, for what divides a distance. -/
def RecStep (by_ : Int → Int) (L : Nat → Int → Int → Int → Int → Int → Int → (List (Int × Int)) → (Int → Int → Int → Int → Int → Int → (List (Int × Int)) → Option α) → ((List (Int × Int)) → Option α) → Option α) : Prop :=
  ∀ (k : Nat) (p q n best bestBy k_ : Int) (out : List (Int × Int)) b0 r0, 0 < q → q ≤ 1000000 → -1000000 ≤ p → p ≤ 1000000 → 1 ≤ k_ → n ≤ 100000 → 0 ≤ best → best ≤ 1000000 → 0 ≤ bestBy → bestBy ≤ 100000 → out.length ≤ 1000000 →
    (n < k_ → L (k + 1) p q n best bestBy k_ out b0 r0 = b0 p q n best bestBy k_ out) ∧
    (k_ ≤ n → L (k + 1) p q n best bestBy k_ out b0 r0 = if bestBy = 0 ∨ nearE (k_ * p) q * bestBy < best * by_ k_ then L k p q n (nearE (k_ * p) q) (by_ k_) (k_ + 1) (out ++ [(nearP (k_ * p) q, k_)]) b0 r0 else L k p q n best bestBy (k_ + 1) out b0 r0)

theorem rec_first : RecStep (α := α) (fun k => k) impl_records_3F_impl_bestOfFirst_1_l3 := by
  intro k p q n best bestBy k_ out b0 r0 hq hq1 hp hp1 hk hn hb hb1 hy hy1 hl
  constructor
  · intro h
    rw [impl_records_3F_impl_bestOfFirst_1_l3, dec_le_f h]
    rfl
  · intro h
    have hx := mul_bound (a := k_) (b := p) (A := 100000) (B := 1000000) (by omega) (by omega) hp hp1
    have hbk := mul_bound (a := best) (b := k_) (A := 1000000) (B := 100000) (by omega) (by omega) (by omega) (by omega)
    rw [impl_records_3F_impl_bestOfFirst_1_l3, dec_le_t h, cond_true, w64_of (n := k_ * p) (by omega) (by omega)]
    generalize hX : k_ * p = x at hx ⊢
    have hqb := quo_bounds hq (x := x) (by omega) (by omega)
    have hr := quo_rest x q
    have h2 := Int.emod_nonneg x (b := q) (by omega)
    have h3 := Int.emod_lt_of_pos x hq
    have hne := near_bounds (x := x) hq
    have hmE := mul_bound (a := nearE x q) (b := bestBy) (A := 1000000) (B := 100000) (by omega) (by omega) (by omega) (by omega)
    rw [impl_floor_eq _ _ _ _ hq (by omega) (by omega)]
    have e1 : w64 (x / q * q) = x / q * q := w64_of (by omega) (by omega)
    have e2 : w64 (x - x / q * q) = x % q := by rw [w64_of (by omega) (by omega), hr]
    have e3 : w64 (2 * (x % q)) = 2 * (x % q) := w64_of (by omega) (by omega)
    have e4 : w64 (x / q + 1) = x / q + 1 := w64_of (by omega) (by omega)
    have e5 : w64 ((x / q + 1) * q) = x / q * q + q := by rw [Int.add_mul, Int.one_mul, w64_of (by omega) (by omega)]
    have e6 : w64 (x - (x / q * q + q)) = x % q - q := by rw [w64_of (by omega) (by omega)]; omega
    have e7 : w64 (k_ + 1) = k_ + 1 := w64_of (by omega) (by omega)
    have e8 : w64 (best * k_) = best * k_ := w64_of (by omega) (by omega)
    have e9 : w64 (nearE x q * bestBy) = nearE x q * bestBy := w64_of (by omega) (by omega)
    have hlen : decide (out.length + 1 ≤ big) = true := decide_eq_true (by rw [big_val]; omega)
    simp only [e1, e2, e3, e4, e5, e6, e7, hlen, cond_true, impl_bestOfFirst_1, e8]
    unfold nearP nearE at *
    by_cases hc : q < 2 * (x % q)
    · simp only [dec_lt_t hc, if_pos hc, cond_true] at e9 ⊢
      rw [impl_size_eq _ _ _ (by omega) (by omega)]
      have ef : max (x % q - q) (-(x % q - q)) = q - x % q := by omega
      simp only [ef, e9]
      by_cases h0 : bestBy = 0
      · simp [h0]
      · by_cases h9 : (q - x % q) * bestBy < best * k_ <;> simp [h0, h9]
    · simp only [dec_lt_f (show 2 * (x % q) ≤ q by omega), if_neg hc, cond_false] at e9 ⊢
      rw [impl_size_eq _ _ _ (by omega) (by omega)]
      have ef : max (x % q) (-(x % q)) = x % q := by omega
      simp only [ef, e9]
      by_cases h0 : bestBy = 0
      · simp [h0]
      · by_cases h9 : x % q * bestBy < best * k_ <;> simp [h0, h9]

/-- Is a distance less than the last one, told with what divides it? -/
def lessQ (second : Bool) (e last under k_ : Int) : Bool := bif second then decide (e < last) else decide (e * under < last * k_)

theorem spec_best_step (k : Nat) (p q n last under k_ : Int) (second : Bool) (out : List (Int × Int)) (b0 : Int → Int → Int → Bool → Int → Int → Int → (List (Int × Int)) → Option α) r0 (hq : 0 < q) (hq1 : q ≤ 1000000) (hp : -1000000 ≤ p) (hp1 : p ≤ 1000000) (hk : 1 ≤ k_) (hn : n ≤ 100000)
    (hb : 0 ≤ last) (hb1 : last ≤ 1000000) (hy : 0 ≤ under) (hy1 : under ≤ 100000) (hl : out.length ≤ 1000000) :
    (n < k_ → spec_l10Best_l3 (k + 1) p q n second last under k_ out b0 r0 = b0 p q n second last under k_ out) ∧
    (k_ ≤ n → spec_l10Best_l3 (k + 1) p q n second last under k_ out b0 r0 =
      bif decide (out = []) || lessQ second (nearE (k_ * p) q) last under k_ then
        if nearE (k_ * p) q = 0 then b0 p q n second (nearE (k_ * p) q) k_ k_ (out ++ [(nearP (k_ * p) q, k_)]) else spec_l10Best_l3 k p q n second (nearE (k_ * p) q) k_ (k_ + 1) (out ++ [(nearP (k_ * p) q, k_)]) b0 r0
      else if nearE (k_ * p) q = 0 then b0 p q n second last under k_ out else spec_l10Best_l3 k p q n second last under (k_ + 1) out b0 r0) := by
  constructor
  · intro h
    rw [spec_l10Best_l3, dec_le_f h]
    rfl
  · intro h
    have hx := mul_bound (a := k_) (b := p) (A := 100000) (B := 1000000) (by omega) (by omega) hp hp1
    have hbk := mul_bound (a := last) (b := k_) (A := 1000000) (B := 100000) (by omega) (by omega) (by omega) (by omega)
    rw [spec_l10Best_l3, dec_le_t h, cond_true, w64_of (n := k_ * p) (by omega) (by omega)]
    rw [spec_l10Near_eq _ _ _ _ hq hq1 (by omega) (by omega)]
    have hne := near_bounds (x := k_ * p) hq
    generalize nearE (k_ * p) q = e at hne ⊢
    generalize nearP (k_ * p) q = a
    have hmE := mul_bound (a := e) (b := under) (A := 1000000) (B := 100000) (by omega) (by omega) (by omega) (by omega)
    have e7 : w64 (k_ + 1) = k_ + 1 := w64_of (by omega) (by omega)
    have e8 : w64 (last * k_) = last * k_ := w64_of (by omega) (by omega)
    have e9 : w64 (e * under) = e * under := w64_of (by omega) (by omega)
    have hlen : decide (out.length + 1 ≤ big) = true := decide_eq_true (by rw [big_val]; omega)
    have h0 : decide ((out.length : Int) = 0) = decide (out = []) := by
      cases out <;> simp
      omega
    simp only [h0, hlen, e7, e8, e9, cond_true, lessQ]
    cases hd : decide (out = []) with
    | true => by_cases he : e = 0 <;> simp [he]
    | false =>
      cases second with
      | true =>
        by_cases he : e = 0
        · by_cases h1 : e < last <;> simp [he, h1] <;> simp [he] at h1 <;> simp [h1]
        · by_cases h1 : e < last <;> simp [he, h1]
      | false =>
        by_cases he : e = 0
        · by_cases h1 : e * under < last * k_ <;> simp [he, h1] <;> simp [he] at h1 <;> simp [h1]
        · by_cases h1 : e * under < last * k_ <;> simp [he, h1]

/-- What is found is kept, once the distance is 0. -/
theorem rec_tail {by_ : Int → Int} {L : Nat → Int → Int → Int → Int → Int → Int → (List (Int × Int)) → (Int → Int → Int → Int → Int → Int → (List (Int × Int)) → Option α) → ((List (Int × Int)) → Option α) → Option α} (hL : RecStep by_ L) :
    ∀ (m : Nat) (p q n bestBy k_ : Int) (out : List (Int × Int)), 0 < q → q ≤ 1000000 → -1000000 ≤ p → p ≤ 1000000 → 1 ≤ k_ → n ≤ 100000 → 1 ≤ bestBy → bestBy ≤ 100000 → out.length ≤ 1000000 → n + 1 - k_ ≤ m →
      ∀ k, m < k → ∀ b0 r0, ∃ k', L k p q n 0 bestBy k_ out b0 r0 = b0 p q n 0 bestBy k' out
  | m, p, q, n, bestBy, k_, out, hq, hq1, hp, hp1, hk, hn, hy, hy1, hl, hm, k + 1, hkm, b0, r0 => by
    obtain ⟨h1, h2⟩ := hL k p q n 0 bestBy k_ out b0 r0 hq hq1 hp hp1 hk hn (by omega) (by omega) (by omega) hy1 hl
    rcases ilt_or_ge n k_ with h | h
    · exact ⟨k_, h1 h⟩
    · rw [h2 h, if_neg]
      · cases m with
        | zero => omega
        | succ m => exact rec_tail hL m p q n bestBy (k_ + 1) out hq hq1 hp hp1 (by omega) hn hy hy1 hl (by omega) k (by omega) b0 r0
      · have hne := near_bounds (x := k_ * p) hq
        have := Int.mul_nonneg hne.1 (show 0 ≤ bestBy by omega)
        omega
  | _, _, _, _, _, _, _, _, _, _, _, _, _, _, _, _, _, 0, hkm, _, _ => by omega

/-- Both lists of best approximations. -/
theorem best_both {by_ : Int → Int} {second : Bool} {L : Nat → Int → Int → Int → Int → Int → Int → (List (Int × Int)) → (Int → Int → Int → Int → Int → Int → (List (Int × Int)) → Option α) → ((List (Int × Int)) → Option α) → Option α} (hL : RecStep by_ L)
    (hby : ∀ k_, 1 ≤ k_ → k_ ≤ 100000 → 1 ≤ by_ k_ ∧ by_ k_ ≤ 100000) (hsame : ∀ e last under k_ : Int, lessQ second e last under k_ = decide (e * by_ under < last * by_ k_)) :
    ∀ (m : Nat) (p q n last under best bestBy k_ : Int) (out : List (Int × Int)), 0 < q → q ≤ 1000000 → -1000000 ≤ p → p ≤ 1000000 → 1 ≤ k_ → k_ ≤ 100001 → n ≤ 100000 → 0 ≤ last → last ≤ 1000000 → 0 ≤ under → under ≤ 100000 → (out.length : Int) < k_ → n + 1 - k_ ≤ m →
      ((out = [] ∧ bestBy = 0 ∧ best = 0) ∨ (out ≠ [] ∧ 1 ≤ under ∧ bestBy = by_ under ∧ best = last)) →
      ∃ res, (out ≠ [] ∨ k_ ≤ n → res ≠ []) ∧ res.length ≤ 100001 ∧ (∀ k, m < k → ∀ b0 r0, ∃ l u k', spec_l10Best_l3 (α := α) k p q n second last under k_ out b0 r0 = b0 p q n second l u k' res) ∧ (∀ k, m < k → ∀ b0 r0, ∃ l u k', L k p q n best bestBy k_ out b0 r0 = b0 p q n l u k' res)
  | m, p, q, n, last, under, best, bestBy, k_, out, hq, hq1, hp, hp1, hk, hk2, hn, hb, hb1, hy, hy1, hl, hm, hR => by
    have hbest : 0 ≤ best ∧ best ≤ 1000000 ∧ 0 ≤ bestBy ∧ bestBy ≤ 100000 := by
      rcases hR with ⟨_, h1, h2⟩ | ⟨_, h1, h2, h3⟩
      · omega
      · have := hby under h1 hy1
        omega
    obtain ⟨g1, g2, g3, g4⟩ := hbest
    have hl2 : out.length ≤ 1000000 := by omega
    rcases ilt_or_ge n k_ with h | h
    · refine ⟨out, fun h1 => ?_, by omega, fun k hkm b0 r0 => ?_, fun k hkm b0 r0 => ?_⟩
      · rcases h1 with h1 | h1
        · exact h1
        · omega
      · cases k with
        | zero => omega
        | succ k => exact ⟨last, under, k_, (spec_best_step k p q n last under k_ second out b0 r0 hq hq1 hp hp1 hk hn hb hb1 hy hy1 hl2).1 h⟩
      · cases k with
        | zero => omega
        | succ k => exact ⟨best, bestBy, k_, (hL k p q n best bestBy k_ out b0 r0 hq hq1 hp hp1 hk hn g1 g2 g3 g4 hl2).1 h⟩
    · cases m with
      | zero => omega
      | succ m =>
        have S := fun k b0 r0 => (spec_best_step (α := α) k p q n last under k_ second out b0 r0 hq hq1 hp hp1 hk hn hb hb1 hy hy1 hl2).2 h
        have I := fun k b0 r0 => (hL k p q n best bestBy k_ out b0 r0 hq hq1 hp hp1 hk hn g1 g2 g3 g4 hl2).2 h
        have hne := near_bounds (x := k_ * p) hq
        generalize nearE (k_ * p) q = e at S I hne
        generalize nearP (k_ * p) q = a at S I
        have hbk := hby k_ hk (by omega)
        have hcond : (decide (out = []) || lessQ second e last under k_) = decide (bestBy = 0 ∨ e * bestBy < best * by_ k_) := by
          rcases hR with ⟨r1, r2, r3⟩ | ⟨r1, r2, r3, r4⟩
          · simp [r1, r2]
          · have := hby under r2 hy1
            rw [hsame, r3, r4]
            have h0 : by_ under ≠ 0 := by omega
            simp [r1, h0]
        rw [hcond] at S
        by_cases hc : bestBy = 0 ∨ e * bestBy < best * by_ k_
        · simp only [hc, decide_true, cond_true, if_true] at S I
          by_cases he : e = 0
          · simp only [he, if_true] at S I
            refine ⟨out ++ [(a, k_)], fun _ => by simp, by simp; omega, fun k hkm b0 r0 => ?_, fun k hkm b0 r0 => ?_⟩
            · cases k with
              | zero => omega
              | succ k => exact ⟨_, _, _, S k b0 r0⟩
            · cases k with
              | zero => omega
              | succ k =>
                rw [I]
                obtain ⟨k', hk'⟩ := rec_tail hL m p q n (by_ k_) (k_ + 1) (out ++ [(a, k_)]) hq hq1 hp hp1 (by omega) hn hbk.1 hbk.2 (by simp; omega) (by omega) k (by omega) b0 r0
                exact ⟨_, _, _, hk'⟩
          · simp only [he, if_false] at S
            obtain ⟨res, q1, q2, q3, q4⟩ := best_both hL hby hsame m p q n e k_ e (by_ k_) (k_ + 1) (out ++ [(a, k_)]) hq hq1 hp hp1 (by omega) (by omega) hn (by omega) (by omega) (by omega) (by omega) (by simp; omega) (by omega) (.inr ⟨by simp, hk, rfl, rfl⟩)
            refine ⟨res, fun _ => q1 (.inl (by simp)), q2, fun k hkm b0 r0 => ?_, fun k hkm b0 r0 => ?_⟩
            · cases k with
              | zero => omega
              | succ k =>
                rw [S]
                exact q3 k (by omega) b0 r0
            · cases k with
              | zero => omega
              | succ k =>
                rw [I]
                exact q4 k (by omega) b0 r0
        · simp only [hc, decide_false, cond_false, if_false] at S I
          rcases hR with ⟨r1, r2, r3⟩ | ⟨r1, r2, r3, r4⟩
          · exact absurd (.inl r2) hc
          · by_cases he : e = 0
            · simp only [he, if_true] at S
              have hlast : best = 0 := by
                rcases ilt_or_ge 0 best with h1 | h1
                · exfalso
                  refine hc (.inr ?_)
                  rw [he, Int.zero_mul]
                  exact Int.mul_pos h1 (by omega)
                · omega
              refine ⟨out, fun _ => r1, by omega, fun k hkm b0 r0 => ?_, fun k hkm b0 r0 => ?_⟩
              · cases k with
                | zero => omega
                | succ k => exact ⟨_, _, _, S k b0 r0⟩
              · cases k with
                | zero => omega
                | succ k =>
                  rw [I, hlast]
                  have hbu := hby under r2 hy1
                  obtain ⟨k', hk'⟩ := rec_tail hL m p q n bestBy (k_ + 1) out hq hq1 hp hp1 (by omega) hn (by omega) (by omega) hl2 (by omega) k (by omega) b0 r0
                  exact ⟨_, _, _, hk'⟩
            · simp only [he, if_false] at S
              obtain ⟨res, q1, q2, q3, q4⟩ := best_both hL hby hsame m p q n last under best bestBy (k_ + 1) out hq hq1 hp hp1 (by omega) (by omega) hn hb hb1 hy hy1 (by omega) (by omega) (.inr ⟨r1, r2, r3, r4⟩)
              refine ⟨res, fun _ => q1 (.inl r1), q2, fun k hkm b0 r0 => ?_, fun k hkm b0 r0 => ?_⟩
              · cases k with
                | zero => omega
                | succ k =>
                  rw [S]
                  exact q3 k (by omega) b0 r0
              · cases k with
                | zero => omega
                | succ k =>
                  rw [I]
                  exact q4 k (by omega) b0 r0

/-- Ratios and a number up to which something is looked for. -/
def bestArgs (p q n : Int) : Bool := crd p && inB q 1 1000000 && inB n 1 100000

theorem bestArgs_iff {p q n : Int} (h : bestArgs p q n = true) : (-1000000 ≤ p ∧ p ≤ 1000000) ∧ (1 ≤ q ∧ q ≤ 1000000) ∧ (1 ≤ n ∧ n ≤ 100000) := by
  simp only [bestArgs, Bool.and_eq_true, crd_iff, inB_iff] at h
  exact ⟨h.1.1, h.1.2, h.2⟩

theorem best_first {p q n : Int} (h : bestArgs p q n = true) : ∃ res, res ≠ [] ∧ res.length ≤ 100001 ∧ (∀ k, 100000 < k → ∀ r : List (Int × Int) → Option α, spec_l10Best k p q n false r = r res) ∧ (∀ k, 100000 < k → ∀ r : List (Int × Int) → Option α, impl_bestOfFirst k p q n r = r res) := by
  obtain ⟨⟨h1, h2⟩, ⟨h3, h4⟩, h5, h6⟩ := bestArgs_iff h
  obtain ⟨res, q1, q2, q3, q4⟩ := best_both (α := α) (second := false) rec_first (fun _ h1 h2 => ⟨h1, h2⟩) (fun e last under k_ => by simp [lessQ]) 100000 p q n 0 1 0 0 1 [] (by omega) h4 h1 h2 (by omega) (by omega) h6 (by omega) (by omega) (by omega) (by omega) (by simp) (by omega) (.inl ⟨rfl, rfl, rfl⟩)
  refine ⟨res, q1 (.inr h5), q2, fun k hk r => ?_, fun k hk r => ?_⟩
  · unfold spec_l10Best
    obtain ⟨_, _, _, e⟩ := q3 k hk (fun _ _ _ _ _ _ _ out => r out) r
    exact e
  · unfold impl_bestOfFirst impl_records_3F_impl_bestOfFirst_1
    obtain ⟨_, _, _, e⟩ := q4 k hk (fun _ _ _ _ _ _ out => r out) r
    exact e

theorem spec_BestOfFirst_eq (k : Nat) (p q n : Int) (r0 : Int → Option α) r1 : spec_BestOfFirst k p q n r0 r1 = bif bestArgs p q n then spec_l10Best k p q n false (fun v => r1 v 0) else r0 2 := by
  simp only [spec_BestOfFirst, spec_l10Ratio_eq, spec_l01In_eq, bestArgs]
  cases (crd p && inB q 1 1000000) <;> cases inB n 1 100000 <;> rfl

theorem impl_BestOfFirst_eq (k : Nat) (p q n : Int) (r0 : Int → Option α) r1 : impl_BestOfFirst k p q n r0 r1 = bif bestArgs p q n then impl_bestOfFirst k p q n (fun v => r1 v 0) else r0 2 := by
  simp only [impl_BestOfFirst, impl_bestOk_eq, bestArgs]
  cases (crd p && inB q 1 1000000 && inB n 1 100000) <;> rfl

theorem law_BestOfFirst (k : Nat) (hk : 200000 < k) (p q n : Int) (r : Bool → Option α) : laws_FnExactBestOfFirst k p q n r = r true := by
  simp only [laws_FnExactBestOfFirst, spec_BestOfFirst_eq, impl_BestOfFirst_eq]
  cases h : bestArgs p q n with
  | false => simp [laws_eqPointS_0N_1N, laws_markPointS_0N, laws_heldPointS_0N]
  | true =>
    obtain ⟨res, h1, h2, h3, h4⟩ := best_first (α := α) h
    simp only [cond_true, h3 k (by omega), h4 k (by omega)]
    have hb : res.length ≤ big := by rw [big_val]; omega
    rw [eqPointS_same k res _ hb (by omega), markPointS_ok k res 1 _ hb (by omega) (by omega) (by omega), heldPointS_ok k res.length 1 _ hb (by omega) (by omega) (by omega), eqPointS_same k res _ hb (by omega), heldPointS_ok k res.length 1 _ hb (by omega) (by omega) (by omega)]
    rw [dec_lt_f (by omega)]
    simp

end Go.Sh
