/- Plain laws: what the readings without memory answer. -/
import Derived.Test.YtnfpidnnmgedfaaShXInnerPoints
namespace Go.Sh
open Go Go.Ev

variable {α : Type}

theorem spec_l01In_eq (k : Nat) (n low high : Int) (r : Bool → Option α) : spec_l01In k n low high r = r (inB n low high) := by
  unfold spec_l01In inB
  cases decide (low ≤ n) <;> rfl

theorem impl_in_eq (k : Nat) (n low high : Int) (r : Bool → Option α) : impl_in k n low high r = r (inB n low high) := by
  unfold impl_in inB
  cases decide (low ≤ n) <;> rfl

theorem impl_size_eq (k : Nat) (n : Int) (r : Int → Option α) (h0 : -1000000000000000000 ≤ n) (h1 : n ≤ 1000000000000000000) : impl_size k n r = r (max n (-n)) := by
  simp only [impl_size]
  rw [w64_of (by omega) (by omega), Int.zero_sub]

theorem set_mid {β : Type} (pre : List β) (x y : β) (rest : List β) : (pre ++ x :: rest).set pre.length y = pre ++ [y] ++ rest := by
  rw [List.set_append_right _ _ (Nat.le_refl _)]
  simp

/-- The same for points. -/
def markedP : Nat → Int → List (Int × Int)
  | 0, _ => []
  | n + 1, m => (m, m + 1) :: markedP n (m + 2)

theorem markedP_length : ∀ (n : Nat) (m : Int), (markedP n m).length = n
  | 0, _ => rfl
  | n + 1, m => by simp [markedP, markedP_length n]

theorem laws_eqPoint_eq (k : Nat) (a b c d : Int) (r : Bool → Option α) : laws_eqPoint k a b c d r = r (decide (a = c) && decide (b = d)) := by
  unfold laws_eqPoint
  cases decide (a = c) <;> cases decide (b = d) <;> rfl

theorem eqPointS_l4_same : ∀ (rest : List (Int × Int)) (k i : Nat) (s : List (Int × Int)) b (r : Bool → Option α), s.drop i = rest → s.length ≤ big → i ≤ s.length → rest.length < k → laws_eqPointS_l4 k i s s b r = b s.length s s
  | [], k + 1, i, s, b, r, hd, hb, hi, _ => by
    have h1 := drop_nil hd
    have h2 : i = s.length := by omega
    subst h2
    rw [laws_eqPointS_l4, dec_lt_f (by omega)]
    rfl
  | e :: rest, k + 1, i, s, b, r, hd, hb, hi, hk => by
    obtain ⟨h1, h2, h3⟩ := drop_cons hd
    rw [big_val] at hb
    rw [laws_eqPointS_l4, dec_lt_t (by omega), dec_le_t (by omega), cond_true, Bool.and_true, cond_true, Int.toNat_natCast, h1, Option.bind_some, cond_true]
    have e1 : w64 ((i : Int) + 1) = ((i + 1 : Nat) : Int) := by rw [w64_of (by omega) (by omega)]; omega
    simp only [Option.bind_some, laws_eqPoint_eq, decide_true, Bool.and_true, Bool.not_true, cond_false, e1]
    exact eqPointS_l4_same rest k (i + 1) s b r h2 (by rw [big_val]; omega) (by omega) (by simp at hk; omega)
  | _, 0, _, _, _, _, _, _, _, hk => by omega

theorem eqPointS_same (k : Nat) (s : List (Int × Int)) (r : Bool → Option α) (hs : s.length ≤ big) (hk : s.length < k) : laws_eqPointS k s s r = r true := by
  unfold laws_eqPointS
  have h := eqPointS_l4_same (α := α) s k 0 s (fun _ _ _ => r true) r (by simp) hs (by omega) hk
  simpa using h

theorem markPointS_l2_ok : ∀ (rest : List (Int × Int)) (k : Nat) (pre : List (Int × Int)) (m : Int) b (r : Int → List (Int × Int) → Option α), pre.length + rest.length ≤ big → 0 ≤ m → m + 2 * rest.length ≤ 1000000000000000 → rest.length < k →
    laws_markPointS_l2 k m pre.length (pre ++ rest) b r = b (m + 2 * rest.length) (pre.length + rest.length : Nat) (pre ++ markedP rest.length m)
  | [], k + 1, pre, m, b, r, hb, h0, hm, _ => by
    rw [laws_markPointS_l2, dec_lt_f (by simp)]
    simp [markedP]
  | e :: rest, k + 1, pre, m, b, r, hb, h0, hm, hk => by
    rw [big_val] at hb
    simp only [List.length_cons] at hb hk hm
    have hl : (pre ++ e :: rest).length = pre.length + (rest.length + 1) := by simp
    have e1 : w64 ((pre.length : Int) + 1) = ((pre ++ [(m, m + 1)]).length : Int) := by rw [w64_of (by omega) (by omega)]; simp
    have e2 : w64 (m + 1) = m + 1 := w64_of (by omega) (by omega)
    have e3 : w64 (m + 1 + 1) = m + 2 := by rw [w64_of (by omega) (by omega)]; omega
    have hg : (pre ++ e :: rest)[pre.length]? = some e := by simp
    have hg2 : ((pre ++ e :: rest).set pre.length (m, e.2))[pre.length]? = some (m, e.2) := by rw [set_mid]; simp
    have hs2 : ((pre ++ e :: rest).set pre.length (m, e.2)).set pre.length (m, m + 1) = (pre ++ [(m, m + 1)]) ++ rest := by
      rw [List.set_set, set_mid]
    rw [laws_markPointS_l2, hl, dec_lt_t (by omega), dec_le_t (by omega), cond_true, Bool.and_true, cond_true, Int.toNat_natCast, hg, Option.bind_some, List.length_set, hl, dec_lt_t (by omega), Bool.and_self, cond_true, hg2, Option.bind_some, e2, hs2, e1, e3]
    rw [markPointS_l2_ok rest k (pre ++ [(m, m + 1)]) (m + 2) b r (by rw [big_val]; simp; omega) (by omega) (by omega) (by omega)]
    simp only [markedP, List.append_assoc, List.singleton_append, List.length_cons, List.length_append, List.length_nil]
    congr 1
    · omega
    · omega
  | _, 0, _, _, _, _, _, _, _, hk => by omega

theorem markPointS_ok (k : Nat) (s : List (Int × Int)) (m : Int) (r : Int → List (Int × Int) → Option α) (hs : s.length ≤ big) (h0 : 0 ≤ m) (hm : m + 2 * s.length ≤ 1000000000000000) (hk : s.length < k) : laws_markPointS k s m r = r (m + 2 * s.length) (markedP s.length m) := by
  unfold laws_markPointS
  have h := markPointS_l2_ok (α := α) s k [] m (fun a _ c => r a c) r (by simpa using hs) h0 hm hk
  simpa using h

theorem heldPointS_l2_ok : ∀ (n : Nat) (k : Nat) (pre : List (Int × Int)) (m : Int) b (r : Int → Option α), pre.length + n ≤ big → 0 ≤ m → m + 2 * n ≤ 1000000000000000 → n < k →
    laws_heldPointS_l2 k m pre.length (pre ++ markedP n m) b r = b (m + 2 * n) (pre.length + n : Nat) (pre ++ markedP n m)
  | 0, k + 1, pre, m, b, r, hb, h0, hm, _ => by
    rw [laws_heldPointS_l2, dec_lt_f (by simp [markedP])]
    simp [markedP]
  | n + 1, k + 1, pre, m, b, r, hb, h0, hm, hk => by
    rw [big_val] at hb
    have hl : (pre ++ markedP (n + 1) m).length = pre.length + (n + 1) := by simp [markedP_length]
    have e1 : w64 ((pre.length : Int) + 1) = ((pre ++ [(m, m + 1)]).length : Int) := by rw [w64_of (by omega) (by omega)]; simp
    have e2 : w64 (m + 1) = m + 1 := w64_of (by omega) (by omega)
    have e3 : w64 (m + 1 + 1) = m + 2 := by rw [w64_of (by omega) (by omega)]; omega
    have hg : (pre ++ markedP (n + 1) m)[pre.length]? = some (m, m + 1) := by simp [markedP]
    have ha : pre ++ markedP (n + 1) m = (pre ++ [(m, m + 1)]) ++ markedP n (m + 2) := by simp [markedP]
    rw [laws_heldPointS_l2, hl, dec_lt_t (by omega), dec_le_t (by omega), cond_true, Bool.and_true, cond_true, Int.toNat_natCast, hg, Option.bind_some]
    simp only [decide_true, Bool.not_true, cond_false, cond_true, Option.bind_some, e2, e3, e1]
    rw [ha, heldPointS_l2_ok n k (pre ++ [(m, m + 1)]) (m + 2) b r (by rw [big_val]; simp; omega) (by omega) (by omega) (by omega)]
    congr 1
    · omega
    · simp; omega
  | _, 0, _, _, _, _, _, _, _, hk => by omega

theorem heldPointS_ok (k n : Nat) (m : Int) (r : Int → Option α) (hs : n ≤ big) (h0 : 0 ≤ m) (hm : m + 2 * n ≤ 1000000000000000) (hk : n < k) : laws_heldPointS k (markedP n m) m r = r (m + 2 * n) := by
  unfold laws_heldPointS
  have h := heldPointS_l2_ok (α := α) n k [] m (fun a _ _ => r a) r (by simpa using hs) h0 hm hk
  simpa using h

def gcdI (a b : Int) : Int := (Int.gcd a b : Int)

theorem gcdI_le {a b B : Int} (ha : -B ≤ a) (ha1 : a ≤ B) (hb : -B ≤ b) (hb1 : b ≤ B) : 0 ≤ gcdI a b ∧ gcdI a b ≤ B := by
  unfold gcdI
  refine ⟨by omega, ?_⟩
  by_cases h : a = 0
  · subst h
    rw [Int.gcd_zero_left]
    omega
  · have := Int.gcd_le_natAbs_left (a := a) b h
    omega

theorem gcd_step (a b : Int) : Int.gcd b (Int.tmod a b) = Int.gcd a b := by
  unfold Int.gcd
  rw [Int.natAbs_tmod, Nat.gcd_comm, ← Nat.gcd_rec, Nat.gcd_comm]

theorem tmod_lt_abs (a : Int) {b : Int} (h : b ≠ 0) : (Int.tmod a b).natAbs < b.natAbs := by
  rw [Int.natAbs_tmod]
  exact Nat.mod_lt _ (by omega)

theorem spec_gcd_l1 : ∀ (n k : Nat) (a b : Int) b0 (r0 : Int → Option α), b.natAbs ≤ n → n < k → ∃ g : Int, g.natAbs = Int.gcd a b ∧ spec_l01Gcd_l1 k a b b0 r0 = b0 g 0
  | n, k + 1, a, b, b0, r0, hn, hk => by
    by_cases h : b = 0
    · subst h
      exact ⟨a, by simp, by simp [spec_l01Gcd_l1]⟩
    · cases n with
      | zero => omega
      | succ n =>
        have := tmod_lt_abs a h
        obtain ⟨g, h1, h2⟩ := spec_gcd_l1 n k b (Int.tmod a b) b0 r0 (by omega) (by omega)
        refine ⟨g, by rw [h1, gcd_step], ?_⟩
        rw [spec_l01Gcd_l1, dec_eq_f h]
        exact h2
  | _, 0, _, _, _, _, _, hk => by omega

theorem impl_gcd_l1_ok : ∀ (n k : Nat) (a b : Int) b0 (r0 : Int → Option α), b.natAbs ≤ n → n < k → ∃ g : Int, g.natAbs = Int.gcd a b ∧ impl_gcd_l1 k a b b0 r0 = b0 g 0
  | n, k + 1, a, b, b0, r0, hn, hk => by
    by_cases h : b = 0
    · subst h
      exact ⟨a, by simp, by simp [impl_gcd_l1]⟩
    · cases n with
      | zero => omega
      | succ n =>
        have := tmod_lt_abs a h
        obtain ⟨g, h1, h2⟩ := impl_gcd_l1_ok n k b (Int.tmod a b) b0 r0 (by omega) (by omega)
        refine ⟨g, by rw [h1, gcd_step], ?_⟩
        rw [impl_gcd_l1, dec_eq_f h]
        exact h2
  | _, 0, _, _, _, _, _, hk => by omega

theorem spec_l01Gcd_eq (k : Nat) (a b : Int) (r : Int → Option α) (ha : -1000000000 ≤ a) (ha1 : a ≤ 1000000000) (hb : -1000000000 ≤ b) (hb1 : b ≤ 1000000000) (hk : 1000000000 < k) : spec_l01Gcd k a b r = r (gcdI a b) := by
  unfold spec_l01Gcd
  obtain ⟨g, h1, h2⟩ := spec_gcd_l1 (α := α) 1000000000 k a b (fun a2 b_2 => r (max a2 (w64 (0 - a2)))) r (by omega) hk
  have hb := gcdI_le ha ha1 hb hb1
  unfold gcdI at hb ⊢
  rw [h2, w64_of (by omega) (by omega)]
  congr 1
  omega

theorem impl_gcd_eq (k : Nat) (a b : Int) (r : Int → Option α) (ha : -1000000000 ≤ a) (ha1 : a ≤ 1000000000) (hb : -1000000000 ≤ b) (hb1 : b ≤ 1000000000) (hk : 1000000000 < k) : impl_gcd k a b r = r (gcdI a b) := by
  unfold impl_gcd
  obtain ⟨g, h1, h2⟩ := impl_gcd_l1_ok (α := α) 1000000000 k a b (fun a2 b_2 => impl_size k a2 fun v => r v) r (by omega) hk
  have hb := gcdI_le ha ha1 hb hb1
  unfold gcdI at hb ⊢
  rw [h2, impl_size_eq _ _ _ (by omega) (by omega)]
  congr 1
  omega

theorem less_w {a b : Int} (ha : -1000000000 ≤ a) (ha1 : a ≤ 1000000000) (hb : -1000000000 ≤ b) (hb1 : b ≤ 1000000000) : w64 (a + w64 (-1 * b)) = a - b := by
  rw [w64_of (n := -1 * b) (by omega) (by omega), w64_of (by omega) (by omega)]
  omega

theorem spec_less_eq (k : Nat) (a b c d : Int) (r : Int → Int → Option α) (ha : -1000000000 ≤ a ∧ a ≤ 1000000000) (hb : -1000000000 ≤ b ∧ b ≤ 1000000000) (hc : -1000000000 ≤ c ∧ c ≤ 1000000000) (hd : -1000000000 ≤ d ∧ d ≤ 1000000000) : spec_l01Plus k a b c d (-1) r = r (a - c) (b - d) := by
  unfold spec_l01Plus
  rw [less_w ha.1 ha.2 hc.1 hc.2, less_w hb.1 hb.2 hd.1 hd.2]

theorem impl_less_eq (k : Nat) (a b c d : Int) (r : Int → Int → Option α) (ha : -1000000000 ≤ a ∧ a ≤ 1000000000) (hb : -1000000000 ≤ b ∧ b ≤ 1000000000) (hc : -1000000000 ≤ c ∧ c ≤ 1000000000) (hd : -1000000000 ≤ d ∧ d ≤ 1000000000) : impl_Point_less k a b c d r = r (a - c) (b - d) := by
  unfold impl_Point_less impl_Point_plus
  rw [less_w ha.1 ha.2 hc.1 hc.2, less_w hb.1 hb.2 hd.1 hd.2]

theorem det_w {a b c d : Int} (ha : -1000000000 ≤ a ∧ a ≤ 1000000000) (hb : -1000000000 ≤ b ∧ b ≤ 1000000000) (hc : -1000000000 ≤ c ∧ c ≤ 1000000000) (hd : -1000000000 ≤ d ∧ d ≤ 1000000000) : w64 (w64 (a * d) - w64 (b * c)) = a * d - b * c ∧ -2000000000000000000 ≤ a * d - b * c ∧ a * d - b * c ≤ 2000000000000000000 := by
  have h1 := mul_bound ha.1 ha.2 hd.1 hd.2
  have h2 := mul_bound hb.1 hb.2 hc.1 hc.2
  rw [w64_of (n := a * d) (by omega) (by omega), w64_of (n := b * c) (by omega) (by omega), w64_of (by omega) (by omega)]
  exact ⟨rfl, by omega, by omega⟩

/-- A number of a triangle's point. -/
def inT (a : Int) : Prop := -1000 ≤ a ∧ a ≤ 1000

theorem inB_T {a : Int} : inB a (-1000) 1000 = true ↔ inT a := inB_iff

/-- A triangle. -/
structure IsT (a b c d e f : Int) : Prop where
  ne : (c - a) * (f - b) - (d - b) * (e - a) ≠ 0
  a : inT a
  b : inT b
  c : inT c
  d : inT d
  e : inT e
  f : inT f

theorem inT.wide {a : Int} (h : inT a) : -1000000000 ≤ a ∧ a ≤ 1000000000 := by
  unfold inT at h
  omega

theorem inT.sub {a b : Int} (h : inT a) (h' : inT b) : -1000000000 ≤ a - b ∧ a - b ≤ 1000000000 := by
  unfold inT at h h'
  omega

theorem inT.sub2 {a b : Int} (h : inT a) (h' : inT b) : -2000 ≤ a - b ∧ a - b ≤ 2000 := by
  unfold inT at h h'
  omega

theorem spec_area_eq (k : Nat) {a b c d e f : Int} (ha : inT a) (hb : inT b) (hc : inT c) (hd : inT d) (he : inT e) (hf : inT f) (r : Int → Option α) : spec_l01Area k a b c d e f r = r (max ((c - a) * (f - b) - (d - b) * (e - a)) (-((c - a) * (f - b) - (d - b) * (e - a)))) := by
  have h1 := det_w (hc.sub ha) (hd.sub hb) (he.sub ha) (hf.sub hb)
  have m1 := mul_bound (hc.sub2 ha).1 (hc.sub2 ha).2 (hf.sub2 hb).1 (hf.sub2 hb).2
  have m2 := mul_bound (hd.sub2 hb).1 (hd.sub2 hb).2 (he.sub2 ha).1 (he.sub2 ha).2
  simp only [spec_l01Area, spec_l01Det]
  rw [spec_less_eq _ _ _ _ _ _ hc.wide hd.wide ha.wide hb.wide, spec_less_eq _ _ _ _ _ _ he.wide hf.wide ha.wide hb.wide, h1.1, w64_of (by omega) (by omega), Int.zero_sub]

theorem impl_area_eq (k : Nat) {a b c d e f : Int} (ha : inT a) (hb : inT b) (hc : inT c) (hd : inT d) (he : inT e) (hf : inT f) (r : Int → Option α) : impl_area k a b c d e f r = r (max ((c - a) * (f - b) - (d - b) * (e - a)) (-((c - a) * (f - b) - (d - b) * (e - a)))) := by
  have h1 := det_w (hc.sub ha) (hd.sub hb) (he.sub ha) (hf.sub hb)
  have m1 := mul_bound (hc.sub2 ha).1 (hc.sub2 ha).2 (hf.sub2 hb).1 (hf.sub2 hb).2
  have m2 := mul_bound (hd.sub2 hb).1 (hd.sub2 hb).2 (he.sub2 ha).1 (he.sub2 ha).2
  simp only [impl_area, impl_det]
  rw [impl_less_eq _ _ _ _ _ _ hc.wide hd.wide ha.wide hb.wide, impl_less_eq _ _ _ _ _ _ he.wide hf.wide ha.wide hb.wide, h1.1, impl_size_eq _ _ _ (by omega) (by omega)]

theorem tri_cases (k : Nat) (a b c d e f : Int) : ((∀ r : Bool → Option α, spec_l04Is k a b c d e f r = r false) ∧ (∀ r : Bool → Option α, impl_IsTriangle k a b c d e f r = r false)) ∨
    (IsT a b c d e f ∧ (∀ r : Bool → Option α, spec_l04Is k a b c d e f r = r true) ∧ (∀ r : Bool → Option α, impl_IsTriangle k a b c d e f r = r true)) := by
  simp only [spec_l04Is, impl_IsTriangle, spec_l01In_eq, impl_small, impl_in_eq]
  cases ha : inB a (-1000) 1000 with
  | false => exact .inl ⟨by simp, by simp⟩
  | true =>
    cases hb : inB b (-1000) 1000 with
    | false => exact .inl ⟨by simp, by simp⟩
    | true =>
      cases hc : inB c (-1000) 1000 with
      | false => exact .inl ⟨by simp, by simp⟩
      | true =>
        cases hd : inB d (-1000) 1000 with
        | false => exact .inl ⟨by simp, by simp⟩
        | true =>
          cases he : inB e (-1000) 1000 with
          | false => exact .inl ⟨by simp, by simp⟩
          | true =>
            cases hf : inB f (-1000) 1000 with
            | false => exact .inl ⟨by simp, by simp⟩
            | true =>
              rw [inB_T] at ha hb hc hd he hf
              simp only [Bool.not_true, cond_false, cond_true, spec_area_eq k ha hb hc hd he hf, impl_area_eq k ha hb hc hd he hf]
              by_cases h : (c - a) * (f - b) - (d - b) * (e - a) = 0
              · exact .inl ⟨by simp [h], by simp [h]⟩
              · have h2 : max ((c - a) * (f - b) - (d - b) * (e - a)) (-((c - a) * (f - b) - (d - b) * (e - a))) ≠ 0 := by omega
                exact .inr ⟨⟨h, ha, hb, hc, hd, he, hf⟩, by simp [h2], by simp [h2]⟩

def dT (a b c d x y : Int) : Int := (c - a) * (y - b) - (d - b) * (x - a)

theorem dT_b {a b c d x y : Int} (ha : inT a) (hb : inT b) (hc : inT c) (hd : inT d) (hx : inT x) (hy : inT y) : -8000000 ≤ dT a b c d x y ∧ dT a b c d x y ≤ 8000000 := by
  have h1 := hc.sub2 ha
  have h2 := hd.sub2 hb
  have h3 := hx.sub2 ha
  have h4 := hy.sub2 hb
  have m1 := mul_bound h1.1 h1.2 h4.1 h4.2
  have m2 := mul_bound h2.1 h2.2 h3.1 h3.2
  unfold dT
  omega

theorem det_dT {a b c d x y : Int} (ha : inT a) (hb : inT b) (hc : inT c) (hd : inT d) (hx : inT x) (hy : inT y) : w64 (w64 ((c - a) * (y - b)) - w64 ((d - b) * (x - a))) = dT a b c d x y :=
  (det_w (hc.sub ha) (hd.sub hb) (hx.sub ha) (hy.sub hb)).1

theorem spec_side0 (k : Nat) (a b c d e f x y : Int) (r : Int → Option α) : spec_l04Side k a b c d e f 0 x y r = spec_l01Plus k c d a b (-1) fun v v1 => spec_l01Plus k x y a b (-1) fun v2 v3 => spec_l01Det k v v1 v2 v3 fun v4 => r v4 := by rfl

theorem spec_side1 (k : Nat) (a b c d e f x y : Int) (r : Int → Option α) : spec_l04Side k a b c d e f 1 x y r = spec_l01Plus k e f c d (-1) fun v v1 => spec_l01Plus k x y c d (-1) fun v2 v3 => spec_l01Det k v v1 v2 v3 fun v4 => r v4 := by rfl

theorem spec_side2 (k : Nat) (a b c d e f x y : Int) (r : Int → Option α) : spec_l04Side k a b c d e f 2 x y r = spec_l01Plus k a b e f (-1) fun v v1 => spec_l01Plus k x y e f (-1) fun v2 v3 => spec_l01Det k v v1 v2 v3 fun v4 => r v4 := by rfl

structure InT6 (a b c d e f : Int) : Prop where
  a : inT a
  b : inT b
  c : inT c
  d : inT d
  e : inT e
  f : inT f

theorem spec_piece (k : Nat) {a b c d x y : Int} (ha : inT a) (hb : inT b) (hc : inT c) (hd : inT d) (hx : inT x) (hy : inT y) (r : Int → Option α) : (spec_l01Plus k c d a b (-1) fun v v1 => spec_l01Plus k x y a b (-1) fun v2 v3 => spec_l01Det k v v1 v2 v3 fun v4 => r v4) = r (dT a b c d x y) := by
  rw [spec_less_eq k _ _ _ _ _ hc.wide hd.wide ha.wide hb.wide, spec_less_eq k _ _ _ _ _ hx.wide hy.wide ha.wide hb.wide]
  simp only [spec_l01Det]
  rw [det_dT ha hb hc hd hx hy]

theorem impl_side01 (k : Nat) (a b c d e f : Int) (r : Int → Int → Option α) : impl_Triangle_side k a b c d e f 0 1 r = impl_Point_less k c d a b fun v v1 => r v v1 := by rfl

theorem impl_side02 (k : Nat) (a b c d e f : Int) (r : Int → Int → Option α) : impl_Triangle_side k a b c d e f 0 2 r = impl_Point_less k e f a b fun v v1 => r v v1 := by rfl

theorem impl_side12 (k : Nat) (a b c d e f : Int) (r : Int → Int → Option α) : impl_Triangle_side k a b c d e f 1 2 r = impl_Point_less k e f c d fun v v1 => r v v1 := by rfl

theorem impl_side20 (k : Nat) (a b c d e f : Int) (r : Int → Int → Option α) : impl_Triangle_side k a b c d e f 2 0 r = impl_Point_less k a b e f fun v v1 => r v v1 := by rfl

def turnT (a b c d e f : Int) : Int := if dT a b c d e f < 0 then -1 else 1

theorem turnT_or (a b c d e f : Int) : turnT a b c d e f = 1 ∨ turnT a b c d e f = -1 := by unfold turnT; split <;> simp

def inTB (a b c d e f x y : Int) : Bool := decide (0 < turnT a b c d e f * dT a b c d x y) && (decide (0 < turnT a b c d e f * dT c d e f x y) && decide (0 < turnT a b c d e f * dT e f a b x y))

theorem turn_w {s v : Int} (hs : s = 1 ∨ s = -1) (h : -8000000 ≤ v ∧ v ≤ 8000000) : w64 (s * v) = s * v := by
  rcases hs with rfl | rfl
  · exact w64_of (by omega) (by omega)
  · exact w64_of (by omega) (by omega)

theorem impl_inside_eq (k : Nat) {a b c d e f x y : Int} (h : InT6 a b c d e f) (hx : inT x) (hy : inT y) (r : Bool → Option α) : impl_Triangle_inside k a b c d e f x y r = r (inTB a b c d e f x y) := by
  have t0 := dT_b h.a h.b h.c h.d hx hy
  have t1 := dT_b h.c h.d h.e h.f hx hy
  have t2 := dT_b h.e h.f h.a h.b hx hy
  have hs := turnT_or a b c d e f
  simp only [impl_Triangle_inside, impl_side01, impl_side02, impl_side12, impl_side20]
  simp only [impl_less_eq k _ _ _ _ _ h.c.wide h.d.wide h.a.wide h.b.wide, impl_less_eq k _ _ _ _ _ h.e.wide h.f.wide h.a.wide h.b.wide, impl_less_eq k _ _ _ _ _ h.e.wide h.f.wide h.c.wide h.d.wide, impl_less_eq k _ _ _ _ _ h.a.wide h.b.wide h.e.wide h.f.wide, impl_less_eq k _ _ _ _ _ hx.wide hy.wide h.a.wide h.b.wide, impl_less_eq k _ _ _ _ _ hx.wide hy.wide h.c.wide h.d.wide, impl_less_eq k _ _ _ _ _ hx.wide hy.wide h.e.wide h.f.wide, impl_det,
    det_dT h.a h.b h.c h.d h.e h.f, det_dT h.a h.b h.c h.d hx hy, det_dT h.c h.d h.e h.f hx hy, det_dT h.e h.f h.a h.b hx hy]
  have es : ∀ q : Int → Option α, impl_sign k (dT a b c d e f) q = q (turnT a b c d e f) := fun q => by
    unfold impl_sign turnT
    rcases ilt_or_ge (dT a b c d e f) 0 with h | h
    · rw [dec_lt_t h, if_pos h]; rfl
    · rw [dec_lt_f h, if_neg (by omega)]; rfl
  rw [es, turn_w hs t0, turn_w hs t1, turn_w hs t2]
  unfold inTB
  rcases ilt_or_ge 0 (turnT a b c d e f * dT a b c d x y) with g | g
  · rw [dec_le_f g, dec_lt_t g, cond_false, Bool.true_and]
    rcases ilt_or_ge 0 (turnT a b c d e f * dT c d e f x y) with g | g
    · rw [dec_le_f g, dec_lt_t g, cond_false, Bool.true_and]
      rcases ilt_or_ge 0 (turnT a b c d e f * dT e f a b x y) with g | g
      · rw [dec_le_f g, dec_lt_t g]; rfl
      · rw [dec_le_t g, dec_lt_f g]; rfl
    · rw [dec_le_t g, dec_lt_f g]; rfl
  · rw [dec_le_t g, dec_lt_f g]; rfl

def rowT (p : Int → Bool) (x : Int) : Nat → Int → List (Int × Int) → List (Int × Int)
  | 0, _, out => out
  | m + 1, y, out => rowT p x m (y + 1) (bif p y then out ++ [(x, y)] else out)

theorem rowT_len (p : Int → Bool) (x : Int) : ∀ (m : Nat) (y : Int) (out : List (Int × Int)), (rowT p x m y out).length ≤ out.length + m
  | 0, _, out => by simp [rowT]
  | m + 1, y, out => by
    rw [rowT]
    have := rowT_len p x m (y + 1) (bif p y then out ++ [(x, y)] else out)
    cases hp : p y <;> rw [hp] at this <;> simp at this ⊢ <;> omega

theorem spec_l15 {a b c d e f : Int} (h : InT6 a b c d e f) {lo hi x : Int} (hx : inT x) (hhi : hi ≤ 1000) (hg : Int) : ∀ (m k : Nat) (y : Int) (out : List (Int × Int)) (b2 : Int → Int → Int → Int → Int → Int → Int → Int → Int → Int → Int → Int → List (Int × Int) → Option α) (r0 : Int → Option α) r1, -1000 ≤ y → y + m = hi + 1 → out.length + m ≤ 8000000 → m < k →
    spec_InnerPoints_l15 k (turnT a b c d e f) hg lo hi x y a b c d e f out b2 r0 r1 = b2 (turnT a b c d e f) hg lo hi x (hi + 1) a b c d e f (rowT (inTB a b c d e f x) x m y out)
  | 0, k + 1, y, out, b2, r0, r1, hy, hm, hl, _ => by
    have : y = hi + 1 := by omega
    subst this
    rw [spec_InnerPoints_l15, dec_le_f (by omega)]
    rfl
  | m + 1, k + 1, y, out, b2, r0, r1, hy, hm, hl, hk => by
    have hyT : inT y := ⟨hy, by omega⟩
    have t0 := dT_b h.a h.b h.c h.d hx hyT
    have t1 := dT_b h.c h.d h.e h.f hx hyT
    have t2 := dT_b h.e h.f h.a h.b hx hyT
    have hs := turnT_or a b c d e f
    have hd : decide (out.length + 1 ≤ big) = true := decide_eq_true (by rw [big_val]; omega)
    have ey : w64 (y + 1) = y + 1 := w64_of (by omega) (by omega)
    have ih1 := spec_l15 h (lo := lo) hx hhi hg m k (y + 1) out b2 r0 r1 (by omega) (by omega) (by omega) (by omega)
    have ih2 := spec_l15 h (lo := lo) hx hhi hg m k (y + 1) (out ++ [(x, y)]) b2 r0 r1 (by omega) (by omega) (by simp; omega) (by omega)
    rw [spec_InnerPoints_l15, dec_le_t (by omega), cond_true]
    simp only [spec_side0, spec_side1, spec_side2, spec_piece k h.a h.b h.c h.d hx hyT, spec_piece k h.c h.d h.e h.f hx hyT, spec_piece k h.e h.f h.a h.b hx hyT, turn_w hs t0, turn_w hs t1, turn_w hs t2, hd, ey, ih1, ih2, cond_true, rowT]
    have hp : inTB a b c d e f x y = (decide (0 < turnT a b c d e f * dT a b c d x y) && (decide (0 < turnT a b c d e f * dT c d e f x y) && decide (0 < turnT a b c d e f * dT e f a b x y))) := rfl
    rw [hp]
    cases decide (0 < turnT a b c d e f * dT a b c d x y) <;> cases decide (0 < turnT a b c d e f * dT c d e f x y) <;> cases decide (0 < turnT a b c d e f * dT e f a b x y) <;> rfl
  | _, 0, _, _, _, _, _, _, _, _, hk => by omega

theorem impl_l11 {a b c d e f : Int} (h : InT6 a b c d e f) {lo hi x : Int} (hx : inT x) (hhi : hi ≤ 1000) : ∀ (m k : Nat) (y : Int) (out : List (Int × Int)) (b2 : Int → Int → Int → Int → Int → Int → Int → Int → Int → Int → List (Int × Int) → Option α) (r0 : Int → Option α) r1, -1000 ≤ y → y + m = hi + 1 → out.length + m ≤ 8000000 → m < k →
    impl_InnerPoints_l11 k lo hi x y a b c d e f out b2 r0 r1 = b2 lo hi x (hi + 1) a b c d e f (rowT (inTB a b c d e f x) x m y out)
  | 0, k + 1, y, out, b2, r0, r1, hy, hm, hl, _ => by
    have : y = hi + 1 := by omega
    subst this
    rw [impl_InnerPoints_l11, dec_le_f (by omega)]
    rfl
  | m + 1, k + 1, y, out, b2, r0, r1, hy, hm, hl, hk => by
    have hyT : inT y := ⟨hy, by omega⟩
    have hd : decide (out.length + 1 ≤ big) = true := decide_eq_true (by rw [big_val]; omega)
    have ey : w64 (y + 1) = y + 1 := w64_of (by omega) (by omega)
    have ih1 := impl_l11 h (lo := lo) hx hhi m k (y + 1) out b2 r0 r1 (by omega) (by omega) (by omega) (by omega)
    have ih2 := impl_l11 h (lo := lo) hx hhi m k (y + 1) (out ++ [(x, y)]) b2 r0 r1 (by omega) (by omega) (by simp; omega) (by omega)
    rw [impl_InnerPoints_l11, dec_le_t (by omega), cond_true, impl_inside_eq k h hx hyT]
    simp only [hd, ey, ih1, ih2, cond_true, rowT]
    cases inTB a b c d e f x y <;> rfl
  | _, 0, _, _, _, _, _, _, _, _, hk => by omega

def gridT (p : Int → Int → Bool) (lo : Int) (M : Nat) : Nat → Int → List (Int × Int) → List (Int × Int)
  | 0, _, out => out
  | n + 1, x, out => gridT p lo M n (x + 1) (rowT (p x) x M lo out)

theorem gridT_len (p : Int → Int → Bool) (lo : Int) (M : Nat) : ∀ (n : Nat) (x : Int) (out : List (Int × Int)), (gridT p lo M n x out).length ≤ out.length + n * M
  | 0, _, out => by simp [gridT]
  | n + 1, x, out => by
    rw [gridT]
    have h1 := gridT_len p lo M n (x + 1) (rowT (p x) x M lo out)
    have h2 := rowT_len (p x) x M lo out
    rw [Nat.succ_mul]
    omega

theorem spec_l12 {a b c d e f : Int} (h : InT6 a b c d e f) {lo hi hg : Int} (hlo : -1000 ≤ lo) (hhi : hi ≤ 1000) (hhg : hg ≤ 1000) (M : Nat) (hM : lo + M = hi + 1) (hM2 : M ≤ 2001) : ∀ (n k : Nat) (x : Int) (out : List (Int × Int)) (b0 : Int → Int → Int → Int → Int → Int → Int → Int → Int → Int → Int → List (Int × Int) → Option α) (r0 : Int → Option α) r1, -1000 ≤ x → x + n = hg + 1 → out.length + n * M ≤ 7000000 → n + 2001 < k →
    spec_InnerPoints_l12 k (turnT a b c d e f) hg lo hi x a b c d e f out b0 r0 r1 = b0 (turnT a b c d e f) hg lo hi (hg + 1) a b c d e f (gridT (inTB a b c d e f) lo M n x out)
  | 0, k + 1, x, out, b0, r0, r1, hx, hn, hl, _ => by
    have : x = hg + 1 := by omega
    subst this
    rw [spec_InnerPoints_l12, dec_le_f (by omega)]
    rfl
  | n + 1, k + 1, x, out, b0, r0, r1, hx, hn, hl, hk => by
    rw [Nat.succ_mul] at hl
    have hxT : inT x := ⟨hx, by omega⟩
    have ex : w64 (x + 1) = x + 1 := w64_of (by omega) (by omega)
    have hlen := rowT_len (inTB a b c d e f x) x M lo out
    rw [spec_InnerPoints_l12, dec_le_t (by omega), cond_true, spec_l15 h hxT hhi hg M k lo out _ r0 r1 hlo hM (by omega) (by omega), ex]
    exact spec_l12 h hlo hhi hhg M hM hM2 n k (x + 1) _ b0 r0 r1 (by omega) (by omega) (by omega) (by omega)
  | _, 0, _, _, _, _, _, _, _, _, hk => by omega

theorem impl_l8 {a b c d e f : Int} (h : InT6 a b c d e f) {lo hi hg : Int} (hmax : max (max a c) e = hg) (hlo : -1000 ≤ lo) (hhi : hi ≤ 1000) (hhg : hg ≤ 1000) (M : Nat) (hM : lo + M = hi + 1) (hM2 : M ≤ 2001) : ∀ (n k : Nat) (x : Int) (out : List (Int × Int)) (b0 : Int → Int → Int → Int → Int → Int → Int → Int → Int → List (Int × Int) → Option α) (r0 : Int → Option α) r1, -1000 ≤ x → x + n = hg + 1 → out.length + n * M ≤ 7000000 → n + 2001 < k →
    impl_InnerPoints_l8 k lo hi x a b c d e f out b0 r0 r1 = b0 lo hi (hg + 1) a b c d e f (gridT (inTB a b c d e f) lo M n x out)
  | 0, k + 1, x, out, b0, r0, r1, hx, hn, hl, _ => by
    have : x = hg + 1 := by omega
    subst this
    rw [impl_InnerPoints_l8, hmax, dec_le_f (by omega)]
    rfl
  | n + 1, k + 1, x, out, b0, r0, r1, hx, hn, hl, hk => by
    rw [Nat.succ_mul] at hl
    have hxT : inT x := ⟨hx, by omega⟩
    have ex : w64 (x + 1) = x + 1 := w64_of (by omega) (by omega)
    have hlen := rowT_len (inTB a b c d e f x) x M lo out
    rw [impl_InnerPoints_l8, hmax, dec_le_t (by omega), cond_true, impl_l11 h hxT hhi M k lo out _ r0 r1 hlo hM (by omega) (by omega), ex]
    exact impl_l8 h hmax hlo hhi hhg M hM hM2 n k (x + 1) _ b0 r0 r1 (by omega) (by omega) (by omega) (by omega)
  | _, 0, _, _, _, _, _, _, _, _, hk => by omega

def areaT (a b c d e f : Int) : Int := max ((c - a) * (f - b) - (d - b) * (e - a)) (-((c - a) * (f - b) - (d - b) * (e - a)))

def innerT (a b c d e f : Int) : Int := w64 (w64 (Int.tdiv (w64 (areaT a b c d e f - w64 (w64 (gcdI (c - a) (d - b) + gcdI (e - c) (f - d)) + gcdI (a - e) (b - f)))) 2) + 1)

theorem spec_length_eq (k : Nat) (hk : 1000000000 < k) {a b c d : Int} (ha : inT a) (hb : inT b) (hc : inT c) (hd : inT d) (r : Int → Option α) : spec_l01Length k a b c d r = r (gcdI (c - a) (d - b)) := by
  have h1 := hc.sub2 ha
  have h2 := hd.sub2 hb
  unfold spec_l01Length
  rw [w64_of (n := c - a) (by omega) (by omega), w64_of (n := d - b) (by omega) (by omega), spec_l01Gcd_eq k _ _ _ (by omega) (by omega) (by omega) (by omega) hk]

theorem impl_length_eq (k : Nat) (hk : 1000000000 < k) {a b : Int} (ha : -2000 ≤ a ∧ a ≤ 2000) (hb : -2000 ≤ b ∧ b ≤ 2000) (r : Int → Option α) : impl_Point_length k a b r = r (gcdI a b) := by
  unfold impl_Point_length
  rw [impl_gcd_eq k _ _ _ (by omega) (by omega) (by omega) (by omega) hk]

theorem spec_inner_eq (k : Nat) (hk : 1000000000 < k) {a b c d e f : Int} (h : InT6 a b c d e f) (r : Int → Option α) : spec_l04Inner k a b c d e f r = r (innerT a b c d e f) := by
  simp only [spec_l04Inner, spec_l04Area, spec_l04Boundary, spec_area_eq k h.a h.b h.c h.d h.e h.f, spec_length_eq k hk h.a h.b h.c h.d, spec_length_eq k hk h.c h.d h.e h.f, spec_length_eq k hk h.e h.f h.a h.b]
  rfl

theorem impl_inner_eq (k : Nat) (hk : 1000000000 < k) {a b c d e f : Int} (h : InT6 a b c d e f) (r : Int → Option α) : impl_Triangle_inner k a b c d e f r = r (innerT a b c d e f) := by
  simp only [impl_Triangle_inner, impl_Triangle_area, impl_Triangle_boundary, impl_area_eq k h.a h.b h.c h.d h.e h.f, impl_side01, impl_side12, impl_side20, impl_less_eq k _ _ _ _ _ h.c.wide h.d.wide h.a.wide h.b.wide, impl_less_eq k _ _ _ _ _ h.e.wide h.f.wide h.c.wide h.d.wide, impl_less_eq k _ _ _ _ _ h.a.wide h.b.wide h.e.wide h.f.wide,
    impl_length_eq k hk (h.c.sub2 h.a) (h.d.sub2 h.b), impl_length_eq k hk (h.e.sub2 h.c) (h.f.sub2 h.d), impl_length_eq k hk (h.a.sub2 h.e) (h.b.sub2 h.f)]
  rfl

/-- Both answer alike: a fault, or the same list. -/
theorem inner_points (k : Nat) (hk : 1000000000 < k) (a b c d e f : Int) :
    (∃ v, ∀ (r0 : Int → Option α) r1, spec_InnerPoints k a b c d e f r0 r1 = r0 v ∧ impl_InnerPoints k a b c d e f r0 r1 = r0 v) ∨
    (∃ l : List (Int × Int), l.length ≤ 7000000 ∧ ∀ (r0 : Int → Option α) r1, spec_InnerPoints k a b c d e f r0 r1 = r1 l 0 ∧ impl_InnerPoints k a b c d e f r0 r1 = r1 l 0) := by
  rcases tri_cases (α := α) k a b c d e f with ⟨h1, h2⟩ | ⟨h, h1, h2⟩
  · exact .inl ⟨1, fun r0 r1 => ⟨by simp [spec_InnerPoints, h1], by simp [impl_InnerPoints, h2]⟩⟩
  · have h6 : InT6 a b c d e f := ⟨h.a, h.b, h.c, h.d, h.e, h.f⟩
    rcases ilt_or_ge 1000 (innerT a b c d e f) with hi | hi
    · exact .inl ⟨3, fun r0 r1 => ⟨by simp only [spec_InnerPoints, h1, spec_inner_eq k hk h6, dec_lt_t hi]; rfl, by simp only [impl_InnerPoints, h2, impl_inner_eq k hk h6, dec_lt_t hi]; rfl⟩⟩
    · have ha := h.a
      have hb := h.b
      have hc := h.c
      have hd := h.d
      have he := h.e
      have hf := h.f
      unfold inT at ha hb hc hd he hf
      have hlo : -1000 ≤ min (min b d) f := by omega
      have hhi : max (max b d) f ≤ 1000 := by omega
      have hhg : max (max a c) e ≤ 1000 := by omega
      have hxl : -1000 ≤ min (min a c) e := by omega
      obtain ⟨M, hM⟩ : ∃ M : Nat, min (min b d) f + M = max (max b d) f + 1 := ⟨(max (max b d) f + 1 - min (min b d) f).toNat, by omega⟩
      obtain ⟨n, hn⟩ : ∃ n : Nat, min (min a c) e + n = max (max a c) e + 1 := ⟨(max (max a c) e + 1 - min (min a c) e).toNat, by omega⟩
      have hM2 : M ≤ 2001 := by omega
      have hn2 : n ≤ 2001 := by omega
      have hnm : n * M ≤ 2001 * 2001 := Nat.mul_le_mul hn2 hM2
      have hlen := gridT_len (inTB a b c d e f) (min (min b d) f) M n (min (min a c) e) []
      simp only [List.length_nil, Nat.zero_add] at hlen
      refine .inr ⟨gridT (inTB a b c d e f) (min (min b d) f) M n (min (min a c) e) [], by omega, fun r0 r1 => ⟨?_, ?_⟩⟩
      · simp only [spec_InnerPoints, h1, spec_inner_eq k hk h6, dec_lt_f hi, Bool.not_true, cond_false, spec_side0, spec_piece k h.a h.b h.c h.d h.e h.f]
        have hl := fun b0 => spec_l12 (α := α) h6 hlo hhi hhg M hM hM2 n k (min (min a c) e) [] b0 r0 r1 hxl hn (by simp; omega) (by omega)
        rcases ilt_or_ge (dT a b c d e f) 0 with hs | hs
        · have et : turnT a b c d e f = -1 := by unfold turnT; rw [if_pos hs]
          rw [et] at hl
          rw [dec_lt_t hs, cond_true, hl]
        · have et : turnT a b c d e f = 1 := by unfold turnT; rw [if_neg (by omega)]
          rw [et] at hl
          rw [dec_lt_f hs, cond_false, hl]
      · simp only [impl_InnerPoints, h2, impl_inner_eq k hk h6, dec_lt_f hi, Bool.not_true, cond_false]
        rw [impl_l8 (α := α) h6 rfl hlo hhi hhg M hM hM2 n k (min (min a c) e) [] _ r0 r1 hxl hn (by simp; omega) (by omega)]

theorem law_InnerPoints (k : Nat) (hk : 1000000000 < k) (a b c d e f : Int) (r : Bool → Option α) : laws_FnExactInnerPoints k a b c d e f r = r true := by
  simp only [laws_FnExactInnerPoints, laws_toTriangle, laws_toPoint]
  rcases inner_points (α := α) k hk a b c d e f with ⟨v, h⟩ | ⟨l, hl, h⟩
  · have h1 := fun r0 r1 => (h r0 r1).1
    have h2 := fun r0 r1 => (h r0 r1).2
    simp [h1, h2, laws_eqPointS_0N_1N, laws_markPointS_0N, laws_heldPointS_0N]
  · have h1 := fun r0 r1 => (h r0 r1).1
    have h2 := fun r0 r1 => (h r0 r1).2
    simp only [h1, h2]
    have hb : l.length ≤ big := by rw [big_val]; omega
    rw [eqPointS_same k l _ hb (by omega), markPointS_ok k l 1 _ hb (by omega) (by omega) (by omega), heldPointS_ok k l.length 1 _ hb (by omega) (by omega) (by omega), eqPointS_same k l _ hb (by omega), heldPointS_ok k l.length 1 _ hb (by omega) (by omega) (by omega)]
    rw [dec_lt_f (by omega)]
    simp

end Go.Sh
