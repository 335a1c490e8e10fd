/- Plain laws: what the readings without memory answer. -/
import Derived.Test.YtmaclfmobhhclaaShXSinesOf
namespace Go.Sh
open Go Go.Ev

variable {α : Type}

theorem spec_l01In_eq (k : Nat) (n low high : Int) (r : Bool → Option α) : spec_l01In k n low high r = r (inB n low high) := by
  unfold spec_l01In inB
  cases decide (low ≤ n) <;> rfl

theorem impl_in_eq (k : Nat) (n low high : Int) (r : Bool → Option α) : impl_in k n low high r = r (inB n low high) := by
  unfold impl_in inB
  cases decide (low ≤ n) <;> rfl

theorem impl_size_eq (k : Nat) (n : Int) (r : Int → Option α) (h0 : -1000000000000000000 ≤ n) (h1 : n ≤ 1000000000000000000) : impl_size k n r = r (max n (-n)) := by
  simp only [impl_size]
  rw [w64_of (by omega) (by omega), Int.zero_sub]

theorem eqInt64S_l4_same : ∀ (rest : List Int) (k i : Nat) (s : List Int) b (r : Bool → Option α), s.drop i = rest → s.length ≤ big → i ≤ s.length → rest.length < k → laws_eqInt64S_l4 k i s s b r = b s.length s s
  | [], k + 1, i, s, b, r, hd, hb, hi, _ => by
    have h1 := drop_nil hd
    have h2 : i = s.length := by omega
    subst h2
    rw [laws_eqInt64S_l4, dec_lt_f (by omega)]
    rfl
  | e :: rest, k + 1, i, s, b, r, hd, hb, hi, hk => by
    obtain ⟨h1, h2, h3⟩ := drop_cons hd
    rw [big_val] at hb
    rw [laws_eqInt64S_l4, dec_lt_t (by omega), dec_le_t (by omega), cond_true, Bool.and_true, cond_true, Int.toNat_natCast, h1, Option.bind_some, cond_true]
    have e1 : w64 ((i : Int) + 1) = ((i + 1 : Nat) : Int) := by rw [w64_of (by omega) (by omega)]; omega
    simp only [Option.bind_some, decide_true, Bool.not_true, cond_false, e1]
    exact eqInt64S_l4_same rest k (i + 1) s b r h2 (by rw [big_val]; omega) (by omega) (by simp at hk; omega)
  | _, 0, _, _, _, _, _, _, _, hk => by omega

theorem eqInt64S_same (k : Nat) (s : List Int) (r : Bool → Option α) (hs : s.length ≤ big) (hk : s.length < k) : laws_eqInt64S k s s r = r true := by
  unfold laws_eqInt64S
  have h := eqInt64S_l4_same (α := α) s k 0 s (fun _ _ _ => r true) r (by simp) hs (by omega) hk
  simpa using h

/-- What is marked. -/
def marked : Nat → Int → List Int
  | 0, _ => []
  | n + 1, m => m :: marked n (m + 1)

theorem marked_length : ∀ (n : Nat) (m : Int), (marked n m).length = n
  | 0, _ => rfl
  | n + 1, m => by simp [marked, marked_length n]

theorem set_mid {β : Type} (pre : List β) (x y : β) (rest : List β) : (pre ++ x :: rest).set pre.length y = pre ++ [y] ++ rest := by
  rw [List.set_append_right _ _ (Nat.le_refl _)]
  simp

theorem markInt64S_l2_ok : ∀ (rest : List Int) (k : Nat) (pre : List Int) (m : Int) b (r : Int → List Int → Option α), pre.length + rest.length ≤ big → 0 ≤ m → m + rest.length ≤ 1000000000000000 → rest.length < k →
    laws_markInt64S_l2 k m pre.length (pre ++ rest) b r = b (m + rest.length) (pre.length + rest.length : Nat) (pre ++ marked rest.length m)
  | [], k + 1, pre, m, b, r, hb, h0, hm, _ => by
    rw [laws_markInt64S_l2, dec_lt_f (by simp)]
    simp [marked]
  | e :: rest, k + 1, pre, m, b, r, hb, h0, hm, hk => by
    rw [big_val] at hb
    simp only [List.length_cons] at hb hk hm
    have hl : (pre ++ e :: rest).length = pre.length + (rest.length + 1) := by simp
    rw [laws_markInt64S_l2, hl, dec_lt_t (by omega), dec_le_t (by omega), cond_true, Bool.and_true, cond_true, Int.toNat_natCast]
    have e1 : w64 ((pre.length : Int) + 1) = ((pre ++ [m]).length : Int) := by rw [w64_of (by omega) (by omega)]; simp
    have e2 : w64 (m + 1) = m + 1 := w64_of (by omega) (by omega)
    have hg : (pre ++ e :: rest)[pre.length]? = some e := by simp
    rw [hg, Option.bind_some, set_mid, e1, e2]
    rw [markInt64S_l2_ok rest k (pre ++ [m]) (m + 1) b r (by rw [big_val]; simp; omega) (by omega) (by omega) (by omega)]
    simp only [marked, List.append_assoc, List.singleton_append, List.length_cons, List.length_append, List.length_nil]
    congr 1
    · omega
    · omega
  | _, 0, _, _, _, _, _, _, _, hk => by omega

theorem markInt64S_ok (k : Nat) (s : List Int) (m : Int) (r : Int → List Int → Option α) (hs : s.length ≤ big) (h0 : 0 ≤ m) (hm : m + s.length ≤ 1000000000000000) (hk : s.length < k) : laws_markInt64S k s m r = r (m + s.length) (marked s.length m) := by
  unfold laws_markInt64S
  have h := markInt64S_l2_ok (α := α) s k [] m (fun a _ c => r a c) r (by simpa using hs) h0 hm hk
  simpa using h

theorem heldInt64S_l2_ok : ∀ (n : Nat) (k : Nat) (pre : List Int) (m : Int) b (r : Int → Option α), pre.length + n ≤ big → 0 ≤ m → m + n ≤ 1000000000000000 → n < k →
    laws_heldInt64S_l2 k m pre.length (pre ++ marked n m) b r = b (m + n) (pre.length + n : Nat) (pre ++ marked n m)
  | 0, k + 1, pre, m, b, r, hb, h0, hm, _ => by
    rw [laws_heldInt64S_l2, dec_lt_f (by simp [marked])]
    simp [marked]
  | n + 1, k + 1, pre, m, b, r, hb, h0, hm, hk => by
    rw [big_val] at hb
    have hl : (pre ++ marked (n + 1) m).length = pre.length + (n + 1) := by simp [marked_length]
    rw [laws_heldInt64S_l2, hl, dec_lt_t (by omega), dec_le_t (by omega), cond_true, Bool.and_true, cond_true, Int.toNat_natCast]
    have e1 : w64 ((pre.length : Int) + 1) = ((pre ++ [m]).length : Int) := by rw [w64_of (by omega) (by omega)]; simp
    have e2 : w64 (m + 1) = m + 1 := w64_of (by omega) (by omega)
    have hg : (pre ++ marked (n + 1) m)[pre.length]? = some m := by simp [marked]
    have ha : pre ++ marked (n + 1) m = (pre ++ [m]) ++ marked n (m + 1) := by simp [marked]
    rw [hg, Option.bind_some, e1, e2, ha]
    simp only [decide_true, Bool.not_true, cond_false]
    rw [heldInt64S_l2_ok n k (pre ++ [m]) (m + 1) b r (by rw [big_val]; simp; omega) (by omega) (by omega) (by omega)]
    congr 1
    · omega
    · simp; omega
  | _, 0, _, _, _, _, _, _, _, hk => by omega

theorem heldInt64S_ok (k n : Nat) (m : Int) (r : Int → Option α) (hs : n ≤ big) (h0 : 0 ≤ m) (hm : m + n ≤ 1000000000000000) (hk : n < k) : laws_heldInt64S k (marked n m) m r = r (m + n) := by
  unfold laws_heldInt64S
  have h := heldInt64S_l2_ok (α := α) n k [] m (fun a _ _ => r a) r (by simpa using hs) h0 hm hk
  simpa using h

def gcdI (a b : Int) : Int := (Int.gcd a b : Int)

theorem gcdI_le {a b B : Int} (ha : -B ≤ a) (ha1 : a ≤ B) (hb : -B ≤ b) (hb1 : b ≤ B) : 0 ≤ gcdI a b ∧ gcdI a b ≤ B := by
  unfold gcdI
  refine ⟨by omega, ?_⟩
  by_cases h : a = 0
  · subst h
    rw [Int.gcd_zero_left]
    omega
  · have := Int.gcd_le_natAbs_left (a := a) b h
    omega

theorem gcdI_pos {a b : Int} (h : a ≠ 0 ∨ b ≠ 0) : 0 < gcdI a b := by
  unfold gcdI
  have : Int.gcd a b ≠ 0 := fun e => by
    rw [Int.gcd_eq_zero_iff] at e
    omega
  omega

theorem gcd_step (a b : Int) : Int.gcd b (Int.tmod a b) = Int.gcd a b := by
  unfold Int.gcd
  rw [Int.natAbs_tmod, Nat.gcd_comm, ← Nat.gcd_rec, Nat.gcd_comm]

theorem tmod_lt_abs (a : Int) {b : Int} (h : b ≠ 0) : (Int.tmod a b).natAbs < b.natAbs := by
  rw [Int.natAbs_tmod]
  exact Nat.mod_lt _ (by omega)

theorem spec_gcd_l1 : ∀ (n k : Nat) (a b : Int) b0 (r0 : Int → Option α), b.natAbs ≤ n → n < k → ∃ g : Int, g.natAbs = Int.gcd a b ∧ spec_l01Gcd_l1 k a b b0 r0 = b0 g 0
  | n, k + 1, a, b, b0, r0, hn, hk => by
    by_cases h : b = 0
    · subst h
      exact ⟨a, by simp, by simp [spec_l01Gcd_l1]⟩
    · cases n with
      | zero => omega
      | succ n =>
        have := tmod_lt_abs a h
        obtain ⟨g, h1, h2⟩ := spec_gcd_l1 n k b (Int.tmod a b) b0 r0 (by omega) (by omega)
        refine ⟨g, by rw [h1, gcd_step], ?_⟩
        rw [spec_l01Gcd_l1, dec_eq_f h]
        exact h2
  | _, 0, _, _, _, _, _, hk => by omega

theorem impl_gcd_l1_ok : ∀ (n k : Nat) (a b : Int) b0 (r0 : Int → Option α), b.natAbs ≤ n → n < k → ∃ g : Int, g.natAbs = Int.gcd a b ∧ impl_gcd_l1 k a b b0 r0 = b0 g 0
  | n, k + 1, a, b, b0, r0, hn, hk => by
    by_cases h : b = 0
    · subst h
      exact ⟨a, by simp, by simp [impl_gcd_l1]⟩
    · cases n with
      | zero => omega
      | succ n =>
        have := tmod_lt_abs a h
        obtain ⟨g, h1, h2⟩ := impl_gcd_l1_ok n k b (Int.tmod a b) b0 r0 (by omega) (by omega)
        refine ⟨g, by rw [h1, gcd_step], ?_⟩
        rw [impl_gcd_l1, dec_eq_f h]
        exact h2
  | _, 0, _, _, _, _, _, hk => by omega

theorem spec_l01Gcd_eq (k : Nat) (a b : Int) (r : Int → Option α) (ha : -1000000000 ≤ a) (ha1 : a ≤ 1000000000) (hb : -1000000000 ≤ b) (hb1 : b ≤ 1000000000) (hk : 1000000000 < k) : spec_l01Gcd k a b r = r (gcdI a b) := by
  unfold spec_l01Gcd
  obtain ⟨g, h1, h2⟩ := spec_gcd_l1 (α := α) 1000000000 k a b (fun a2 b_2 => r (max a2 (w64 (0 - a2)))) r (by omega) hk
  have hb := gcdI_le ha ha1 hb hb1
  unfold gcdI at hb ⊢
  rw [h2, w64_of (by omega) (by omega)]
  congr 1
  omega

theorem impl_gcd_eq (k : Nat) (a b : Int) (r : Int → Option α) (ha : -1000000000 ≤ a) (ha1 : a ≤ 1000000000) (hb : -1000000000 ≤ b) (hb1 : b ≤ 1000000000) (hk : 1000000000 < k) : impl_gcd k a b r = r (gcdI a b) := by
  unfold impl_gcd
  obtain ⟨g, h1, h2⟩ := impl_gcd_l1_ok (α := α) 1000000000 k a b (fun a2 b_2 => impl_size k a2 fun v => r v) r (by omega) hk
  have hb := gcdI_le ha ha1 hb hb1
  unfold gcdI at hb ⊢
  rw [h2, impl_size_eq _ _ _ (by omega) (by omega)]
  congr 1
  omega

/-- A point's primitive one. -/
def prim (a b : Int) : Int × Int := (Int.tdiv a (gcdI a b), Int.tdiv b (gcdI a b))

theorem spec_l01Part_eq (k : Nat) (a b : Int) (r : Int → Int → Option α) (ha : -1000000000 ≤ a) (ha1 : a ≤ 1000000000) (hb : -1000000000 ≤ b) (hb1 : b ≤ 1000000000) (hk : 1000000000 < k) (h : a ≠ 0 ∨ b ≠ 0) : spec_l01Part k a b r = r (prim a b).1 (prim a b).2 := by
  have hp := gcdI_pos h
  have h1 := tdiv_abs a (gcdI a b)
  have h2 := tdiv_abs b (gcdI a b)
  unfold spec_l01Part prim
  rw [spec_l01Gcd_eq k a b _ ha ha1 hb hb1 hk]
  simp only
  rw [dec_eq_f (show gcdI a b ≠ 0 by omega), w64_of (by omega) (by omega), w64_of (by omega) (by omega)]
  rfl

theorem impl_primitive_eq (k : Nat) (a b : Int) (r : Int → Int → Option α) (ha : -1000000000 ≤ a) (ha1 : a ≤ 1000000000) (hb : -1000000000 ≤ b) (hb1 : b ≤ 1000000000) (hk : 1000000000 < k) (h : a ≠ 0 ∨ b ≠ 0) : impl_Point_primitive k a b r = r (prim a b).1 (prim a b).2 := by
  have hp := gcdI_pos h
  have h1 := tdiv_abs a (gcdI a b)
  have h2 := tdiv_abs b (gcdI a b)
  unfold impl_Point_primitive impl_Point_length prim
  rw [impl_gcd_eq k a b _ ha ha1 hb hb1 hk]
  simp only
  rw [dec_eq_f (show gcdI a b ≠ 0 by omega), w64_of (by omega) (by omega), w64_of (by omega) (by omega)]
  rfl

theorem less_w {a b : Int} (ha : -1000000000 ≤ a) (ha1 : a ≤ 1000000000) (hb : -1000000000 ≤ b) (hb1 : b ≤ 1000000000) : w64 (a + w64 (-1 * b)) = a - b := by
  rw [w64_of (n := -1 * b) (by omega) (by omega), w64_of (by omega) (by omega)]
  omega

theorem spec_less_eq (k : Nat) (a b c d : Int) (r : Int → Int → Option α) (ha : -1000000000 ≤ a ∧ a ≤ 1000000000) (hb : -1000000000 ≤ b ∧ b ≤ 1000000000) (hc : -1000000000 ≤ c ∧ c ≤ 1000000000) (hd : -1000000000 ≤ d ∧ d ≤ 1000000000) : spec_l01Plus k a b c d (-1) r = r (a - c) (b - d) := by
  unfold spec_l01Plus
  rw [less_w ha.1 ha.2 hc.1 hc.2, less_w hb.1 hb.2 hd.1 hd.2]

theorem impl_less_eq (k : Nat) (a b c d : Int) (r : Int → Int → Option α) (ha : -1000000000 ≤ a ∧ a ≤ 1000000000) (hb : -1000000000 ≤ b ∧ b ≤ 1000000000) (hc : -1000000000 ≤ c ∧ c ≤ 1000000000) (hd : -1000000000 ≤ d ∧ d ≤ 1000000000) : impl_Point_less k a b c d r = r (a - c) (b - d) := by
  unfold impl_Point_less impl_Point_plus
  rw [less_w ha.1 ha.2 hc.1 hc.2, less_w hb.1 hb.2 hd.1 hd.2]

theorem det_w {a b c d : Int} (ha : -1000000000 ≤ a ∧ a ≤ 1000000000) (hb : -1000000000 ≤ b ∧ b ≤ 1000000000) (hc : -1000000000 ≤ c ∧ c ≤ 1000000000) (hd : -1000000000 ≤ d ∧ d ≤ 1000000000) : w64 (w64 (a * d) - w64 (b * c)) = a * d - b * c ∧ -2000000000000000000 ≤ a * d - b * c ∧ a * d - b * c ≤ 2000000000000000000 := by
  have h1 := mul_bound ha.1 ha.2 hd.1 hd.2
  have h2 := mul_bound hb.1 hb.2 hc.1 hc.2
  rw [w64_of (n := a * d) (by omega) (by omega), w64_of (n := b * c) (by omega) (by omega), w64_of (by omega) (by omega)]
  exact ⟨rfl, by omega, by omega⟩

/-- A number of a triangle's point. -/
def inT (a : Int) : Prop := -1000 ≤ a ∧ a ≤ 1000

theorem inB_T {a : Int} : inB a (-1000) 1000 = true ↔ inT a := inB_iff

/-- A triangle. -/
structure IsT (a b c d e f : Int) : Prop where
  ne : (c - a) * (f - b) - (d - b) * (e - a) ≠ 0
  a : inT a
  b : inT b
  c : inT c
  d : inT d
  e : inT e
  f : inT f

theorem inT.wide {a : Int} (h : inT a) : -1000000000 ≤ a ∧ a ≤ 1000000000 := by
  unfold inT at h
  omega

theorem inT.sub {a b : Int} (h : inT a) (h' : inT b) : -1000000000 ≤ a - b ∧ a - b ≤ 1000000000 := by
  unfold inT at h h'
  omega

theorem inT.sub2 {a b : Int} (h : inT a) (h' : inT b) : -2000 ≤ a - b ∧ a - b ≤ 2000 := by
  unfold inT at h h'
  omega

theorem spec_area_eq (k : Nat) {a b c d e f : Int} (ha : inT a) (hb : inT b) (hc : inT c) (hd : inT d) (he : inT e) (hf : inT f) (r : Int → Option α) : spec_l01Area k a b c d e f r = r (max ((c - a) * (f - b) - (d - b) * (e - a)) (-((c - a) * (f - b) - (d - b) * (e - a)))) := by
  have h1 := det_w (hc.sub ha) (hd.sub hb) (he.sub ha) (hf.sub hb)
  have m1 := mul_bound (hc.sub2 ha).1 (hc.sub2 ha).2 (hf.sub2 hb).1 (hf.sub2 hb).2
  have m2 := mul_bound (hd.sub2 hb).1 (hd.sub2 hb).2 (he.sub2 ha).1 (he.sub2 ha).2
  simp only [spec_l01Area, spec_l01Det]
  rw [spec_less_eq _ _ _ _ _ _ hc.wide hd.wide ha.wide hb.wide, spec_less_eq _ _ _ _ _ _ he.wide hf.wide ha.wide hb.wide, h1.1, w64_of (by omega) (by omega), Int.zero_sub]

theorem impl_area_eq (k : Nat) {a b c d e f : Int} (ha : inT a) (hb : inT b) (hc : inT c) (hd : inT d) (he : inT e) (hf : inT f) (r : Int → Option α) : impl_area k a b c d e f r = r (max ((c - a) * (f - b) - (d - b) * (e - a)) (-((c - a) * (f - b) - (d - b) * (e - a)))) := by
  have h1 := det_w (hc.sub ha) (hd.sub hb) (he.sub ha) (hf.sub hb)
  have m1 := mul_bound (hc.sub2 ha).1 (hc.sub2 ha).2 (hf.sub2 hb).1 (hf.sub2 hb).2
  have m2 := mul_bound (hd.sub2 hb).1 (hd.sub2 hb).2 (he.sub2 ha).1 (he.sub2 ha).2
  simp only [impl_area, impl_det]
  rw [impl_less_eq _ _ _ _ _ _ hc.wide hd.wide ha.wide hb.wide, impl_less_eq _ _ _ _ _ _ he.wide hf.wide ha.wide hb.wide, h1.1, impl_size_eq _ _ _ (by omega) (by omega)]

theorem tri_cases (k : Nat) (a b c d e f : Int) : ((∀ r : Bool → Option α, spec_l04Is k a b c d e f r = r false) ∧ (∀ r : Bool → Option α, impl_IsTriangle k a b c d e f r = r false)) ∨
    (IsT a b c d e f ∧ (∀ r : Bool → Option α, spec_l04Is k a b c d e f r = r true) ∧ (∀ r : Bool → Option α, impl_IsTriangle k a b c d e f r = r true)) := by
  simp only [spec_l04Is, impl_IsTriangle, spec_l01In_eq, impl_small, impl_in_eq]
  cases ha : inB a (-1000) 1000 with
  | false => exact .inl ⟨by simp, by simp⟩
  | true =>
    cases hb : inB b (-1000) 1000 with
    | false => exact .inl ⟨by simp, by simp⟩
    | true =>
      cases hc : inB c (-1000) 1000 with
      | false => exact .inl ⟨by simp, by simp⟩
      | true =>
        cases hd : inB d (-1000) 1000 with
        | false => exact .inl ⟨by simp, by simp⟩
        | true =>
          cases he : inB e (-1000) 1000 with
          | false => exact .inl ⟨by simp, by simp⟩
          | true =>
            cases hf : inB f (-1000) 1000 with
            | false => exact .inl ⟨by simp, by simp⟩
            | true =>
              rw [inB_T] at ha hb hc hd he hf
              simp only [Bool.not_true, cond_false, cond_true, spec_area_eq k ha hb hc hd he hf, impl_area_eq k ha hb hc hd he hf]
              by_cases h : (c - a) * (f - b) - (d - b) * (e - a) = 0
              · exact .inl ⟨by simp [h], by simp [h]⟩
              · have h2 : max ((c - a) * (f - b) - (d - b) * (e - a)) (-((c - a) * (f - b) - (d - b) * (e - a))) ≠ 0 := by omega
                exact .inr ⟨⟨h, ha, hb, hc, hd, he, hf⟩, by simp [h2], by simp [h2]⟩

theorem IsT.rot {a b c d e f : Int} (h : IsT a b c d e f) : IsT c d e f a b := by
  refine ⟨?_, h.c, h.d, h.e, h.f, h.a, h.b⟩
  have := h.ne
  have e1 : (e - c) * (b - d) - (f - d) * (a - c) = (c - a) * (f - b) - (d - b) * (e - a) := by grind
  rw [e1]
  exact this

theorem IsT.side1 {a b c d e f : Int} (h : IsT a b c d e f) : c - a ≠ 0 ∨ d - b ≠ 0 := by
  rcases Classical.em (c - a = 0) with h1 | h1
  · rcases Classical.em (d - b = 0) with h2 | h2
    · exact absurd (by rw [h1, h2]; simp) h.ne
    · exact .inr h2
  · exact .inl h1

theorem IsT.side2 {a b c d e f : Int} (h : IsT a b c d e f) : e - a ≠ 0 ∨ f - b ≠ 0 := by
  have := h.rot.rot.side1
  omega

/-- The corner at the first point. -/
theorem spec_corner_eq (k : Nat) (hk : 1000000000 < k) {a b c d e f : Int} (h : IsT a b c d e f) (r : Int → Int → Int → Int → Option α) :
    spec_l04Corner k a b c d e f 0 r = r (prim (c - a) (d - b)).1 (prim (c - a) (d - b)).2 (prim (e - a) (f - b)).1 (prim (e - a) (f - b)).2 ∧
    spec_l04Corner k e f a b c d 1 r = r (prim (c - a) (d - b)).1 (prim (c - a) (d - b)).2 (prim (e - a) (f - b)).1 (prim (e - a) (f - b)).2 ∧
    spec_l04Corner k c d e f a b 2 r = r (prim (c - a) (d - b)).1 (prim (c - a) (d - b)).2 (prim (e - a) (f - b)).1 (prim (e - a) (f - b)).2 := by
  have s1 := h.side1
  have s2 := h.side2
  have w1 : Int.tmod (w64 (0 + 1)) 3 = 1 := by decide
  have w2 : Int.tmod (w64 (0 + 2)) 3 = 2 := by decide
  have w3 : Int.tmod (w64 (1 + 1)) 3 = 2 := by decide
  have w4 : Int.tmod (w64 (1 + 2)) 3 = 0 := by decide
  have w5 : Int.tmod (w64 (2 + 1)) 3 = 0 := by decide
  have w6 : Int.tmod (w64 (2 + 2)) 3 = 1 := by decide
  have L1 := fun r => spec_less_eq (α := α) k c d a b r h.c.wide h.d.wide h.a.wide h.b.wide
  have L2 := fun r => spec_less_eq (α := α) k e f a b r h.e.wide h.f.wide h.a.wide h.b.wide
  have P1 := fun r => spec_l01Part_eq (α := α) k (c - a) (d - b) r (h.c.sub h.a).1 (h.c.sub h.a).2 (h.d.sub h.b).1 (h.d.sub h.b).2 hk s1
  have P2 := fun r => spec_l01Part_eq (α := α) k (e - a) (f - b) r (h.e.sub h.a).1 (h.e.sub h.a).2 (h.f.sub h.b).1 (h.f.sub h.b).2 hk s2
  refine ⟨?_, ?_, ?_⟩
  · rw [spec_l04Corner, w1, w2]
    simp [L1, L2, P1, P2]
  · rw [spec_l04Corner, w3, w4]
    simp [L1, L2, P1, P2]
  · rw [spec_l04Corner, w5, w6]
    simp [L1, L2, P1, P2]

theorem impl_corner_eq (k : Nat) (hk : 1000000000 < k) {a b c d e f : Int} (h : IsT a b c d e f) (r : Int → Int → Int → Int → Option α) :
    impl_Triangle_corner k a b c d e f 0 r = r (prim (c - a) (d - b)).1 (prim (c - a) (d - b)).2 (prim (e - a) (f - b)).1 (prim (e - a) (f - b)).2 ∧
    impl_Triangle_corner k e f a b c d 1 r = r (prim (c - a) (d - b)).1 (prim (c - a) (d - b)).2 (prim (e - a) (f - b)).1 (prim (e - a) (f - b)).2 ∧
    impl_Triangle_corner k c d e f a b 2 r = r (prim (c - a) (d - b)).1 (prim (c - a) (d - b)).2 (prim (e - a) (f - b)).1 (prim (e - a) (f - b)).2 := by
  have s1 := h.side1
  have s2 := h.side2
  have w1 : Int.tmod (w64 (0 + 1)) 3 = 1 := by decide
  have w2 : Int.tmod (w64 (0 + 2)) 3 = 2 := by decide
  have w3 : Int.tmod (w64 (1 + 1)) 3 = 2 := by decide
  have w4 : Int.tmod (w64 (1 + 2)) 3 = 0 := by decide
  have w5 : Int.tmod (w64 (2 + 1)) 3 = 0 := by decide
  have w6 : Int.tmod (w64 (2 + 2)) 3 = 1 := by decide
  have L1 := fun r => impl_less_eq (α := α) k c d a b r h.c.wide h.d.wide h.a.wide h.b.wide
  have L2 := fun r => impl_less_eq (α := α) k e f a b r h.e.wide h.f.wide h.a.wide h.b.wide
  have P1 := fun r => impl_primitive_eq (α := α) k (c - a) (d - b) r (h.c.sub h.a).1 (h.c.sub h.a).2 (h.d.sub h.b).1 (h.d.sub h.b).2 hk s1
  have P2 := fun r => impl_primitive_eq (α := α) k (e - a) (f - b) r (h.e.sub h.a).1 (h.e.sub h.a).2 (h.f.sub h.b).1 (h.f.sub h.b).2 hk s2
  refine ⟨?_, ?_, ?_⟩
  · rw [impl_Triangle_corner, w1, w2]
    simp [impl_Triangle_side, L1, L2, P1, P2]
  · rw [impl_Triangle_corner, w3, w4]
    simp [impl_Triangle_side, L1, L2, P1, P2]
  · rw [impl_Triangle_corner, w5, w6]
    simp [impl_Triangle_side, L1, L2, P1, P2]

/-- A sine, of a corner's points. -/
def sineW (u v : Int × Int) : Int := max (w64 (w64 (u.1 * v.2) - w64 (u.2 * v.1))) (w64 (0 - w64 (w64 (u.1 * v.2) - w64 (u.2 * v.1))))

theorem sines_eq (k : Nat) (hk : 1000000000 < k) (a b c d e f : Int) : (∀ (r0 : Int → Option α) r1, spec_SinesOf k a b c d e f r0 r1 = r0 1) ∧ (∀ (r0 : Int → Option α) r1, impl_SinesOf k a b c d e f r0 r1 = r0 1) ∨
    ∃ x y z, (∀ (r0 : Int → Option α) r1, spec_SinesOf k a b c d e f r0 r1 = r1 [x, y, z] 0) ∧ (∀ (r0 : Int → Option α) r1, impl_SinesOf k a b c d e f r0 r1 = r1 [x, y, z] 0) := by
  simp only [spec_SinesOf, impl_SinesOf]
  rcases tri_cases (α := α) k a b c d e f with ⟨h1, h2⟩ | ⟨h, h1, h2⟩
  · exact .inl ⟨fun r0 r1 => by simp [h1], fun r0 r1 => by simp [h2]⟩
  · refine .inr ⟨sineW (prim (c - a) (d - b)) (prim (e - a) (f - b)), sineW (prim (e - c) (f - d)) (prim (a - c) (b - d)), sineW (prim (a - e) (b - f)) (prim (c - e) (d - f)), fun r0 r1 => ?_, fun r0 r1 => ?_⟩
    · rw [h1, Bool.not_true, cond_false, (spec_corner_eq k hk h _).1]
      simp only [spec_l02Sine, spec_l01Det]
      rw [(spec_corner_eq k hk h.rot _).2.1]
      rw [(spec_corner_eq k hk h.rot.rot _).2.2]
      rfl
    · rw [h2, Bool.not_true, cond_false, (impl_corner_eq k hk h _).1]
      simp only [impl_Corner_sine, impl_size, impl_det]
      rw [(impl_corner_eq k hk h.rot _).2.1]
      rw [(impl_corner_eq k hk h.rot.rot _).2.2]
      rfl

theorem law_SinesOf (k : Nat) (hk : 1000000000 < k) (a b c d e f : Int) (r : Bool → Option α) : laws_FnExactSinesOf k a b c d e f r = r true := by
  simp only [laws_FnExactSinesOf, laws_toTriangle, laws_toPoint]
  rcases sines_eq (α := α) k hk a b c d e f with ⟨h1, h2⟩ | ⟨x, y, z, h1, h2⟩
  · simp [h1, h2, laws_eqInt64S_0N_1N, laws_markInt64S_0N, laws_heldInt64S_0N]
  · simp only [h1, h2]
    have hb : [x, y, z].length ≤ big := by rw [big_val]; simp
    have hl : [x, y, z].length = 3 := rfl
    rw [eqInt64S_same k [x, y, z] _ hb (by omega), markInt64S_ok k [x, y, z] 1 _ hb (by omega) (by omega) (by omega), heldInt64S_ok k [x, y, z].length 1 _ hb (by omega) (by omega) (by omega), eqInt64S_same k [x, y, z] _ hb (by omega), heldInt64S_ok k [x, y, z].length 1 _ hb (by omega) (by omega) (by omega)]
    rw [dec_lt_f (by omega)]
    simp

end Go.Sh
