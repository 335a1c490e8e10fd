/- Plain laws: what the readings without memory answer. -/
import Derived.Test.YtkfcnpnedibdlaaShLTriangles
namespace Go.Sh
open Go Go.Ev

variable {α : Type}

theorem spec_l01In_eq (k : Nat) (n low high : Int) (r : Bool → Option α) : spec_l01In k n low high r = r (inB n low high) := by
  unfold spec_l01In inB
  cases decide (low ≤ n) <;> rfl

theorem impl_in_eq (k : Nat) (n low high : Int) (r : Bool → Option α) : impl_in k n low high r = r (inB n low high) := by
  unfold impl_in inB
  cases decide (low ≤ n) <;> rfl

theorem impl_size_eq (k : Nat) (n : Int) (r : Int → Option α) (h0 : -1000000000000000000 ≤ n) (h1 : n ≤ 1000000000000000000) : impl_size k n r = r (max n (-n)) := by
  simp only [impl_size]
  rw [w64_of (by omega) (by omega), Int.zero_sub]

def gcdI (a b : Int) : Int := (Int.gcd a b : Int)

theorem gcdI_le {a b B : Int} (ha : -B ≤ a) (ha1 : a ≤ B) (hb : -B ≤ b) (hb1 : b ≤ B) : 0 ≤ gcdI a b ∧ gcdI a b ≤ B := by
  unfold gcdI
  refine ⟨by omega, ?_⟩
  by_cases h : a = 0
  · subst h
    rw [Int.gcd_zero_left]
    omega
  · have := Int.gcd_le_natAbs_left (a := a) b h
    omega

theorem gcdI_pos {a b : Int} (h : a ≠ 0 ∨ b ≠ 0) : 0 < gcdI a b := by
  unfold gcdI
  have : Int.gcd a b ≠ 0 := fun e => by
    rw [Int.gcd_eq_zero_iff] at e
    omega
  omega

theorem gcd_step (a b : Int) : Int.gcd b (Int.tmod a b) = Int.gcd a b := by
  unfold Int.gcd
  rw [Int.natAbs_tmod, Nat.gcd_comm, ← Nat.gcd_rec, Nat.gcd_comm]

theorem tmod_lt_abs (a : Int) {b : Int} (h : b ≠ 0) : (Int.tmod a b).natAbs < b.natAbs := by
  rw [Int.natAbs_tmod]
  exact Nat.mod_lt _ (by omega)

theorem spec_gcd_l1 : ∀ (n k : Nat) (a b : Int) b0 (r0 : Int → Option α), b.natAbs ≤ n → n < k → ∃ g : Int, g.natAbs = Int.gcd a b ∧ spec_l01Gcd_l1 k a b b0 r0 = b0 g 0
  | n, k + 1, a, b, b0, r0, hn, hk => by
    by_cases h : b = 0
    · subst h
      exact ⟨a, by simp, by simp [spec_l01Gcd_l1]⟩
    · cases n with
      | zero => omega
      | succ n =>
        have := tmod_lt_abs a h
        obtain ⟨g, h1, h2⟩ := spec_gcd_l1 n k b (Int.tmod a b) b0 r0 (by omega) (by omega)
        refine ⟨g, by rw [h1, gcd_step], ?_⟩
        rw [spec_l01Gcd_l1, dec_eq_f h]
        exact h2
  | _, 0, _, _, _, _, _, hk => by omega

theorem impl_gcd_l1_ok : ∀ (n k : Nat) (a b : Int) b0 (r0 : Int → Option α), b.natAbs ≤ n → n < k → ∃ g : Int, g.natAbs = Int.gcd a b ∧ impl_gcd_l1 k a b b0 r0 = b0 g 0
  | n, k + 1, a, b, b0, r0, hn, hk => by
    by_cases h : b = 0
    · subst h
      exact ⟨a, by simp, by simp [impl_gcd_l1]⟩
    · cases n with
      | zero => omega
      | succ n =>
        have := tmod_lt_abs a h
        obtain ⟨g, h1, h2⟩ := impl_gcd_l1_ok n k b (Int.tmod a b) b0 r0 (by omega) (by omega)
        refine ⟨g, by rw [h1, gcd_step], ?_⟩
        rw [impl_gcd_l1, dec_eq_f h]
        exact h2
  | _, 0, _, _, _, _, _, hk => by omega

theorem spec_l01Gcd_eq (k : Nat) (a b : Int) (r : Int → Option α) (ha : -1000000000 ≤ a) (ha1 : a ≤ 1000000000) (hb : -1000000000 ≤ b) (hb1 : b ≤ 1000000000) (hk : 1000000000 < k) : spec_l01Gcd k a b r = r (gcdI a b) := by
  unfold spec_l01Gcd
  obtain ⟨g, h1, h2⟩ := spec_gcd_l1 (α := α) 1000000000 k a b (fun a2 b_2 => r (max a2 (w64 (0 - a2)))) r (by omega) hk
  have hb := gcdI_le ha ha1 hb hb1
  unfold gcdI at hb ⊢
  rw [h2, w64_of (by omega) (by omega)]
  congr 1
  omega

theorem impl_gcd_eq (k : Nat) (a b : Int) (r : Int → Option α) (ha : -1000000000 ≤ a) (ha1 : a ≤ 1000000000) (hb : -1000000000 ≤ b) (hb1 : b ≤ 1000000000) (hk : 1000000000 < k) : impl_gcd k a b r = r (gcdI a b) := by
  unfold impl_gcd
  obtain ⟨g, h1, h2⟩ := impl_gcd_l1_ok (α := α) 1000000000 k a b (fun a2 b_2 => impl_size k a2 fun v => r v) r (by omega) hk
  have hb := gcdI_le ha ha1 hb hb1
  unfold gcdI at hb ⊢
  rw [h2, impl_size_eq _ _ _ (by omega) (by omega)]
  congr 1
  omega

/-- A point's primitive one. -/
def prim (a b : Int) : Int × Int := (Int.tdiv a (gcdI a b), Int.tdiv b (gcdI a b))

theorem spec_l01Part_eq (k : Nat) (a b : Int) (r : Int → Int → Option α) (ha : -1000000000 ≤ a) (ha1 : a ≤ 1000000000) (hb : -1000000000 ≤ b) (hb1 : b ≤ 1000000000) (hk : 1000000000 < k) (h : a ≠ 0 ∨ b ≠ 0) : spec_l01Part k a b r = r (prim a b).1 (prim a b).2 := by
  have hp := gcdI_pos h
  have h1 := tdiv_abs a (gcdI a b)
  have h2 := tdiv_abs b (gcdI a b)
  unfold spec_l01Part prim
  rw [spec_l01Gcd_eq k a b _ ha ha1 hb hb1 hk]
  simp only
  rw [dec_eq_f (show gcdI a b ≠ 0 by omega), w64_of (by omega) (by omega), w64_of (by omega) (by omega)]
  rfl

theorem impl_primitive_eq (k : Nat) (a b : Int) (r : Int → Int → Option α) (ha : -1000000000 ≤ a) (ha1 : a ≤ 1000000000) (hb : -1000000000 ≤ b) (hb1 : b ≤ 1000000000) (hk : 1000000000 < k) (h : a ≠ 0 ∨ b ≠ 0) : impl_Point_primitive k a b r = r (prim a b).1 (prim a b).2 := by
  have hp := gcdI_pos h
  have h1 := tdiv_abs a (gcdI a b)
  have h2 := tdiv_abs b (gcdI a b)
  unfold impl_Point_primitive impl_Point_length prim
  rw [impl_gcd_eq k a b _ ha ha1 hb hb1 hk]
  simp only
  rw [dec_eq_f (show gcdI a b ≠ 0 by omega), w64_of (by omega) (by omega), w64_of (by omega) (by omega)]
  rfl

theorem less_w {a b : Int} (ha : -1000000000 ≤ a) (ha1 : a ≤ 1000000000) (hb : -1000000000 ≤ b) (hb1 : b ≤ 1000000000) : w64 (a + w64 (-1 * b)) = a - b := by
  rw [w64_of (n := -1 * b) (by omega) (by omega), w64_of (by omega) (by omega)]
  omega

theorem spec_less_eq (k : Nat) (a b c d : Int) (r : Int → Int → Option α) (ha : -1000000000 ≤ a ∧ a ≤ 1000000000) (hb : -1000000000 ≤ b ∧ b ≤ 1000000000) (hc : -1000000000 ≤ c ∧ c ≤ 1000000000) (hd : -1000000000 ≤ d ∧ d ≤ 1000000000) : spec_l01Plus k a b c d (-1) r = r (a - c) (b - d) := by
  unfold spec_l01Plus
  rw [less_w ha.1 ha.2 hc.1 hc.2, less_w hb.1 hb.2 hd.1 hd.2]

theorem impl_less_eq (k : Nat) (a b c d : Int) (r : Int → Int → Option α) (ha : -1000000000 ≤ a ∧ a ≤ 1000000000) (hb : -1000000000 ≤ b ∧ b ≤ 1000000000) (hc : -1000000000 ≤ c ∧ c ≤ 1000000000) (hd : -1000000000 ≤ d ∧ d ≤ 1000000000) : impl_Point_less k a b c d r = r (a - c) (b - d) := by
  unfold impl_Point_less impl_Point_plus
  rw [less_w ha.1 ha.2 hc.1 hc.2, less_w hb.1 hb.2 hd.1 hd.2]

theorem det_w {a b c d : Int} (ha : -1000000000 ≤ a ∧ a ≤ 1000000000) (hb : -1000000000 ≤ b ∧ b ≤ 1000000000) (hc : -1000000000 ≤ c ∧ c ≤ 1000000000) (hd : -1000000000 ≤ d ∧ d ≤ 1000000000) : w64 (w64 (a * d) - w64 (b * c)) = a * d - b * c ∧ -2000000000000000000 ≤ a * d - b * c ∧ a * d - b * c ≤ 2000000000000000000 := by
  have h1 := mul_bound ha.1 ha.2 hd.1 hd.2
  have h2 := mul_bound hb.1 hb.2 hc.1 hc.2
  rw [w64_of (n := a * d) (by omega) (by omega), w64_of (n := b * c) (by omega) (by omega), w64_of (by omega) (by omega)]
  exact ⟨rfl, by omega, by omega⟩

/-- A number of a triangle's point. -/
def inT (a : Int) : Prop := -1000 ≤ a ∧ a ≤ 1000

theorem inB_T {a : Int} : inB a (-1000) 1000 = true ↔ inT a := inB_iff

/-- A triangle. -/
structure IsT (a b c d e f : Int) : Prop where
  ne : (c - a) * (f - b) - (d - b) * (e - a) ≠ 0
  a : inT a
  b : inT b
  c : inT c
  d : inT d
  e : inT e
  f : inT f

theorem inT.wide {a : Int} (h : inT a) : -1000000000 ≤ a ∧ a ≤ 1000000000 := by
  unfold inT at h
  omega

theorem inT.sub {a b : Int} (h : inT a) (h' : inT b) : -1000000000 ≤ a - b ∧ a - b ≤ 1000000000 := by
  unfold inT at h h'
  omega

theorem inT.sub2 {a b : Int} (h : inT a) (h' : inT b) : -2000 ≤ a - b ∧ a - b ≤ 2000 := by
  unfold inT at h h'
  omega

theorem spec_area_eq (k : Nat) {a b c d e f : Int} (ha : inT a) (hb : inT b) (hc : inT c) (hd : inT d) (he : inT e) (hf : inT f) (r : Int → Option α) : spec_l01Area k a b c d e f r = r (max ((c - a) * (f - b) - (d - b) * (e - a)) (-((c - a) * (f - b) - (d - b) * (e - a)))) := by
  have h1 := det_w (hc.sub ha) (hd.sub hb) (he.sub ha) (hf.sub hb)
  have m1 := mul_bound (hc.sub2 ha).1 (hc.sub2 ha).2 (hf.sub2 hb).1 (hf.sub2 hb).2
  have m2 := mul_bound (hd.sub2 hb).1 (hd.sub2 hb).2 (he.sub2 ha).1 (he.sub2 ha).2
  simp only [spec_l01Area, spec_l01Det]
  rw [spec_less_eq _ _ _ _ _ _ hc.wide hd.wide ha.wide hb.wide, spec_less_eq _ _ _ _ _ _ he.wide hf.wide ha.wide hb.wide, h1.1, w64_of (by omega) (by omega), Int.zero_sub]

theorem impl_area_eq (k : Nat) {a b c d e f : Int} (ha : inT a) (hb : inT b) (hc : inT c) (hd : inT d) (he : inT e) (hf : inT f) (r : Int → Option α) : impl_area k a b c d e f r = r (max ((c - a) * (f - b) - (d - b) * (e - a)) (-((c - a) * (f - b) - (d - b) * (e - a)))) := by
  have h1 := det_w (hc.sub ha) (hd.sub hb) (he.sub ha) (hf.sub hb)
  have m1 := mul_bound (hc.sub2 ha).1 (hc.sub2 ha).2 (hf.sub2 hb).1 (hf.sub2 hb).2
  have m2 := mul_bound (hd.sub2 hb).1 (hd.sub2 hb).2 (he.sub2 ha).1 (he.sub2 ha).2
  simp only [impl_area, impl_det]
  rw [impl_less_eq _ _ _ _ _ _ hc.wide hd.wide ha.wide hb.wide, impl_less_eq _ _ _ _ _ _ he.wide hf.wide ha.wide hb.wide, h1.1, impl_size_eq _ _ _ (by omega) (by omega)]

theorem tri_cases (k : Nat) (a b c d e f : Int) : ((∀ r : Bool → Option α, spec_l04Is k a b c d e f r = r false) ∧ (∀ r : Bool → Option α, impl_IsTriangle k a b c d e f r = r false)) ∨
    (IsT a b c d e f ∧ (∀ r : Bool → Option α, spec_l04Is k a b c d e f r = r true) ∧ (∀ r : Bool → Option α, impl_IsTriangle k a b c d e f r = r true)) := by
  simp only [spec_l04Is, impl_IsTriangle, spec_l01In_eq, impl_small, impl_in_eq]
  cases ha : inB a (-1000) 1000 with
  | false => exact .inl ⟨by simp, by simp⟩
  | true =>
    cases hb : inB b (-1000) 1000 with
    | false => exact .inl ⟨by simp, by simp⟩
    | true =>
      cases hc : inB c (-1000) 1000 with
      | false => exact .inl ⟨by simp, by simp⟩
      | true =>
        cases hd : inB d (-1000) 1000 with
        | false => exact .inl ⟨by simp, by simp⟩
        | true =>
          cases he : inB e (-1000) 1000 with
          | false => exact .inl ⟨by simp, by simp⟩
          | true =>
            cases hf : inB f (-1000) 1000 with
            | false => exact .inl ⟨by simp, by simp⟩
            | true =>
              rw [inB_T] at ha hb hc hd he hf
              simp only [Bool.not_true, cond_false, cond_true, spec_area_eq k ha hb hc hd he hf, impl_area_eq k ha hb hc hd he hf]
              by_cases h : (c - a) * (f - b) - (d - b) * (e - a) = 0
              · exact .inl ⟨by simp [h], by simp [h]⟩
              · have h2 : max ((c - a) * (f - b) - (d - b) * (e - a)) (-((c - a) * (f - b) - (d - b) * (e - a))) ≠ 0 := by omega
                exact .inr ⟨⟨h, ha, hb, hc, hd, he, hf⟩, by simp [h2], by simp [h2]⟩

theorem IsT.rot {a b c d e f : Int} (h : IsT a b c d e f) : IsT c d e f a b := by
  refine ⟨?_, h.c, h.d, h.e, h.f, h.a, h.b⟩
  have := h.ne
  have e1 : (e - c) * (b - d) - (f - d) * (a - c) = (c - a) * (f - b) - (d - b) * (e - a) := by grind
  rw [e1]
  exact this

theorem IsT.side1 {a b c d e f : Int} (h : IsT a b c d e f) : c - a ≠ 0 ∨ d - b ≠ 0 := by
  rcases Classical.em (c - a = 0) with h1 | h1
  · rcases Classical.em (d - b = 0) with h2 | h2
    · exact absurd (by rw [h1, h2]; simp) h.ne
    · exact .inr h2
  · exact .inl h1

theorem IsT.side2 {a b c d e f : Int} (h : IsT a b c d e f) : e - a ≠ 0 ∨ f - b ≠ 0 := by
  have := h.rot.rot.side1
  omega

/-- The corner at the first point. -/
theorem spec_corner_eq (k : Nat) (hk : 1000000000 < k) {a b c d e f : Int} (h : IsT a b c d e f) (r : Int → Int → Int → Int → Option α) :
    spec_l04Corner k a b c d e f 0 r = r (prim (c - a) (d - b)).1 (prim (c - a) (d - b)).2 (prim (e - a) (f - b)).1 (prim (e - a) (f - b)).2 ∧
    spec_l04Corner k e f a b c d 1 r = r (prim (c - a) (d - b)).1 (prim (c - a) (d - b)).2 (prim (e - a) (f - b)).1 (prim (e - a) (f - b)).2 ∧
    spec_l04Corner k c d e f a b 2 r = r (prim (c - a) (d - b)).1 (prim (c - a) (d - b)).2 (prim (e - a) (f - b)).1 (prim (e - a) (f - b)).2 := by
  have s1 := h.side1
  have s2 := h.side2
  have w1 : Int.tmod (w64 (0 + 1)) 3 = 1 := by decide
  have w2 : Int.tmod (w64 (0 + 2)) 3 = 2 := by decide
  have w3 : Int.tmod (w64 (1 + 1)) 3 = 2 := by decide
  have w4 : Int.tmod (w64 (1 + 2)) 3 = 0 := by decide
  have w5 : Int.tmod (w64 (2 + 1)) 3 = 0 := by decide
  have w6 : Int.tmod (w64 (2 + 2)) 3 = 1 := by decide
  have L1 := fun r => spec_less_eq (α := α) k c d a b r h.c.wide h.d.wide h.a.wide h.b.wide
  have L2 := fun r => spec_less_eq (α := α) k e f a b r h.e.wide h.f.wide h.a.wide h.b.wide
  have P1 := fun r => spec_l01Part_eq (α := α) k (c - a) (d - b) r (h.c.sub h.a).1 (h.c.sub h.a).2 (h.d.sub h.b).1 (h.d.sub h.b).2 hk s1
  have P2 := fun r => spec_l01Part_eq (α := α) k (e - a) (f - b) r (h.e.sub h.a).1 (h.e.sub h.a).2 (h.f.sub h.b).1 (h.f.sub h.b).2 hk s2
  refine ⟨?_, ?_, ?_⟩
  · rw [spec_l04Corner, w1, w2]
    simp [L1, L2, P1, P2]
  · rw [spec_l04Corner, w3, w4]
    simp [L1, L2, P1, P2]
  · rw [spec_l04Corner, w5, w6]
    simp [L1, L2, P1, P2]

theorem impl_corner_eq (k : Nat) (hk : 1000000000 < k) {a b c d e f : Int} (h : IsT a b c d e f) (r : Int → Int → Int → Int → Option α) :
    impl_Triangle_corner k a b c d e f 0 r = r (prim (c - a) (d - b)).1 (prim (c - a) (d - b)).2 (prim (e - a) (f - b)).1 (prim (e - a) (f - b)).2 ∧
    impl_Triangle_corner k e f a b c d 1 r = r (prim (c - a) (d - b)).1 (prim (c - a) (d - b)).2 (prim (e - a) (f - b)).1 (prim (e - a) (f - b)).2 ∧
    impl_Triangle_corner k c d e f a b 2 r = r (prim (c - a) (d - b)).1 (prim (c - a) (d - b)).2 (prim (e - a) (f - b)).1 (prim (e - a) (f - b)).2 := by
  have s1 := h.side1
  have s2 := h.side2
  have w1 : Int.tmod (w64 (0 + 1)) 3 = 1 := by decide
  have w2 : Int.tmod (w64 (0 + 2)) 3 = 2 := by decide
  have w3 : Int.tmod (w64 (1 + 1)) 3 = 2 := by decide
  have w4 : Int.tmod (w64 (1 + 2)) 3 = 0 := by decide
  have w5 : Int.tmod (w64 (2 + 1)) 3 = 0 := by decide
  have w6 : Int.tmod (w64 (2 + 2)) 3 = 1 := by decide
  have L1 := fun r => impl_less_eq (α := α) k c d a b r h.c.wide h.d.wide h.a.wide h.b.wide
  have L2 := fun r => impl_less_eq (α := α) k e f a b r h.e.wide h.f.wide h.a.wide h.b.wide
  have P1 := fun r => impl_primitive_eq (α := α) k (c - a) (d - b) r (h.c.sub h.a).1 (h.c.sub h.a).2 (h.d.sub h.b).1 (h.d.sub h.b).2 hk s1
  have P2 := fun r => impl_primitive_eq (α := α) k (e - a) (f - b) r (h.e.sub h.a).1 (h.e.sub h.a).2 (h.f.sub h.b).1 (h.f.sub h.b).2 hk s2
  refine ⟨?_, ?_, ?_⟩
  · rw [impl_Triangle_corner, w1, w2]
    simp [impl_Triangle_side, L1, L2, P1, P2]
  · rw [impl_Triangle_corner, w3, w4]
    simp [impl_Triangle_side, L1, L2, P1, P2]
  · rw [impl_Triangle_corner, w5, w6]
    simp [impl_Triangle_side, L1, L2, P1, P2]

/-- A sine, of a corner's points. -/
def sineW (u v : Int × Int) : Int := max (w64 (w64 (u.1 * v.2) - w64 (u.2 * v.1))) (w64 (0 - w64 (w64 (u.1 * v.2) - w64 (u.2 * v.1))))

theorem sines_eq (k : Nat) (hk : 1000000000 < k) (a b c d e f : Int) : (∀ (r0 : Int → Option α) r1, spec_SinesOf k a b c d e f r0 r1 = r0 1) ∧ (∀ (r0 : Int → Option α) r1, impl_SinesOf k a b c d e f r0 r1 = r0 1) ∨
    ∃ x y z, (∀ (r0 : Int → Option α) r1, spec_SinesOf k a b c d e f r0 r1 = r1 [x, y, z] 0) ∧ (∀ (r0 : Int → Option α) r1, impl_SinesOf k a b c d e f r0 r1 = r1 [x, y, z] 0) := by
  simp only [spec_SinesOf, impl_SinesOf]
  rcases tri_cases (α := α) k a b c d e f with ⟨h1, h2⟩ | ⟨h, h1, h2⟩
  · exact .inl ⟨fun r0 r1 => by simp [h1], fun r0 r1 => by simp [h2]⟩
  · refine .inr ⟨sineW (prim (c - a) (d - b)) (prim (e - a) (f - b)), sineW (prim (e - c) (f - d)) (prim (a - c) (b - d)), sineW (prim (a - e) (b - f)) (prim (c - e) (d - f)), fun r0 r1 => ?_, fun r0 r1 => ?_⟩
    · rw [h1, Bool.not_true, cond_false, (spec_corner_eq k hk h _).1]
      simp only [spec_l02Sine, spec_l01Det]
      rw [(spec_corner_eq k hk h.rot _).2.1]
      rw [(spec_corner_eq k hk h.rot.rot _).2.2]
      rfl
    · rw [h2, Bool.not_true, cond_false, (impl_corner_eq k hk h _).1]
      simp only [impl_Corner_sine, impl_size, impl_det]
      rw [(impl_corner_eq k hk h.rot _).2.1]
      rw [(impl_corner_eq k hk h.rot.rot _).2.2]
      rfl

def dT (a b c d x y : Int) : Int := (c - a) * (y - b) - (d - b) * (x - a)

theorem dT_b {a b c d x y : Int} (ha : inT a) (hb : inT b) (hc : inT c) (hd : inT d) (hx : inT x) (hy : inT y) : -8000000 ≤ dT a b c d x y ∧ dT a b c d x y ≤ 8000000 := by
  have h1 := hc.sub2 ha
  have h2 := hd.sub2 hb
  have h3 := hx.sub2 ha
  have h4 := hy.sub2 hb
  have m1 := mul_bound h1.1 h1.2 h4.1 h4.2
  have m2 := mul_bound h2.1 h2.2 h3.1 h3.2
  unfold dT
  omega

theorem det_dT {a b c d x y : Int} (ha : inT a) (hb : inT b) (hc : inT c) (hd : inT d) (hx : inT x) (hy : inT y) : w64 (w64 ((c - a) * (y - b)) - w64 ((d - b) * (x - a))) = dT a b c d x y :=
  (det_w (hc.sub ha) (hd.sub hb) (hx.sub ha) (hy.sub hb)).1

theorem spec_side0 (k : Nat) (a b c d e f x y : Int) (r : Int → Option α) : spec_l04Side k a b c d e f 0 x y r = spec_l01Plus k c d a b (-1) fun v v1 => spec_l01Plus k x y a b (-1) fun v2 v3 => spec_l01Det k v v1 v2 v3 fun v4 => r v4 := by rfl

theorem spec_side1 (k : Nat) (a b c d e f x y : Int) (r : Int → Option α) : spec_l04Side k a b c d e f 1 x y r = spec_l01Plus k e f c d (-1) fun v v1 => spec_l01Plus k x y c d (-1) fun v2 v3 => spec_l01Det k v v1 v2 v3 fun v4 => r v4 := by rfl

theorem spec_side2 (k : Nat) (a b c d e f x y : Int) (r : Int → Option α) : spec_l04Side k a b c d e f 2 x y r = spec_l01Plus k a b e f (-1) fun v v1 => spec_l01Plus k x y e f (-1) fun v2 v3 => spec_l01Det k v v1 v2 v3 fun v4 => r v4 := by rfl

structure InT6 (a b c d e f : Int) : Prop where
  a : inT a
  b : inT b
  c : inT c
  d : inT d
  e : inT e
  f : inT f

theorem spec_piece (k : Nat) {a b c d x y : Int} (ha : inT a) (hb : inT b) (hc : inT c) (hd : inT d) (hx : inT x) (hy : inT y) (r : Int → Option α) : (spec_l01Plus k c d a b (-1) fun v v1 => spec_l01Plus k x y a b (-1) fun v2 v3 => spec_l01Det k v v1 v2 v3 fun v4 => r v4) = r (dT a b c d x y) := by
  rw [spec_less_eq k _ _ _ _ _ hc.wide hd.wide ha.wide hb.wide, spec_less_eq k _ _ _ _ _ hx.wide hy.wide ha.wide hb.wide]
  simp only [spec_l01Det]
  rw [det_dT ha hb hc hd hx hy]

theorem impl_side01 (k : Nat) (a b c d e f : Int) (r : Int → Int → Option α) : impl_Triangle_side k a b c d e f 0 1 r = impl_Point_less k c d a b fun v v1 => r v v1 := by rfl

theorem impl_side02 (k : Nat) (a b c d e f : Int) (r : Int → Int → Option α) : impl_Triangle_side k a b c d e f 0 2 r = impl_Point_less k e f a b fun v v1 => r v v1 := by rfl

theorem impl_side12 (k : Nat) (a b c d e f : Int) (r : Int → Int → Option α) : impl_Triangle_side k a b c d e f 1 2 r = impl_Point_less k e f c d fun v v1 => r v v1 := by rfl

theorem impl_side20 (k : Nat) (a b c d e f : Int) (r : Int → Int → Option α) : impl_Triangle_side k a b c d e f 2 0 r = impl_Point_less k a b e f fun v v1 => r v v1 := by rfl

def turnT (a b c d e f : Int) : Int := if dT a b c d e f < 0 then -1 else 1

theorem turnT_or (a b c d e f : Int) : turnT a b c d e f = 1 ∨ turnT a b c d e f = -1 := by unfold turnT; split <;> simp

def inTB (a b c d e f x y : Int) : Bool := decide (0 < turnT a b c d e f * dT a b c d x y) && (decide (0 < turnT a b c d e f * dT c d e f x y) && decide (0 < turnT a b c d e f * dT e f a b x y))

theorem turn_w {s v : Int} (hs : s = 1 ∨ s = -1) (h : -8000000 ≤ v ∧ v ≤ 8000000) : w64 (s * v) = s * v := by
  rcases hs with rfl | rfl
  · exact w64_of (by omega) (by omega)
  · exact w64_of (by omega) (by omega)

theorem impl_inside_eq (k : Nat) {a b c d e f x y : Int} (h : InT6 a b c d e f) (hx : inT x) (hy : inT y) (r : Bool → Option α) : impl_Triangle_inside k a b c d e f x y r = r (inTB a b c d e f x y) := by
  have t0 := dT_b h.a h.b h.c h.d hx hy
  have t1 := dT_b h.c h.d h.e h.f hx hy
  have t2 := dT_b h.e h.f h.a h.b hx hy
  have hs := turnT_or a b c d e f
  simp only [impl_Triangle_inside, impl_side01, impl_side02, impl_side12, impl_side20]
  simp only [impl_less_eq k _ _ _ _ _ h.c.wide h.d.wide h.a.wide h.b.wide, impl_less_eq k _ _ _ _ _ h.e.wide h.f.wide h.a.wide h.b.wide, impl_less_eq k _ _ _ _ _ h.e.wide h.f.wide h.c.wide h.d.wide, impl_less_eq k _ _ _ _ _ h.a.wide h.b.wide h.e.wide h.f.wide, impl_less_eq k _ _ _ _ _ hx.wide hy.wide h.a.wide h.b.wide, impl_less_eq k _ _ _ _ _ hx.wide hy.wide h.c.wide h.d.wide, impl_less_eq k _ _ _ _ _ hx.wide hy.wide h.e.wide h.f.wide, impl_det,
    det_dT h.a h.b h.c h.d h.e h.f, det_dT h.a h.b h.c h.d hx hy, det_dT h.c h.d h.e h.f hx hy, det_dT h.e h.f h.a h.b hx hy]
  have es : ∀ q : Int → Option α, impl_sign k (dT a b c d e f) q = q (turnT a b c d e f) := fun q => by
    unfold impl_sign turnT
    rcases ilt_or_ge (dT a b c d e f) 0 with h | h
    · rw [dec_lt_t h, if_pos h]; rfl
    · rw [dec_lt_f h, if_neg (by omega)]; rfl
  rw [es, turn_w hs t0, turn_w hs t1, turn_w hs t2]
  unfold inTB
  rcases ilt_or_ge 0 (turnT a b c d e f * dT a b c d x y) with g | g
  · rw [dec_le_f g, dec_lt_t g, cond_false, Bool.true_and]
    rcases ilt_or_ge 0 (turnT a b c d e f * dT c d e f x y) with g | g
    · rw [dec_le_f g, dec_lt_t g, cond_false, Bool.true_and]
      rcases ilt_or_ge 0 (turnT a b c d e f * dT e f a b x y) with g | g
      · rw [dec_le_f g, dec_lt_t g]; rfl
      · rw [dec_le_t g, dec_lt_f g]; rfl
    · rw [dec_le_t g, dec_lt_f g]; rfl
  · rw [dec_le_t g, dec_lt_f g]; rfl

def rowT (p : Int → Bool) (x : Int) : Nat → Int → List (Int × Int) → List (Int × Int)
  | 0, _, out => out
  | m + 1, y, out => rowT p x m (y + 1) (bif p y then out ++ [(x, y)] else out)

theorem rowT_len (p : Int → Bool) (x : Int) : ∀ (m : Nat) (y : Int) (out : List (Int × Int)), (rowT p x m y out).length ≤ out.length + m
  | 0, _, out => by simp [rowT]
  | m + 1, y, out => by
    rw [rowT]
    have := rowT_len p x m (y + 1) (bif p y then out ++ [(x, y)] else out)
    cases hp : p y <;> rw [hp] at this <;> simp at this ⊢ <;> omega

theorem spec_l15 {a b c d e f : Int} (h : InT6 a b c d e f) {lo hi x : Int} (hx : inT x) (hhi : hi ≤ 1000) (hg : Int) : ∀ (m k : Nat) (y : Int) (out : List (Int × Int)) (b2 : Int → Int → Int → Int → Int → Int → Int → Int → Int → Int → Int → Int → List (Int × Int) → Option α) (r0 : Int → Option α) r1, -1000 ≤ y → y + m = hi + 1 → out.length + m ≤ 8000000 → m < k →
    spec_InnerPoints_l15 k (turnT a b c d e f) hg lo hi x y a b c d e f out b2 r0 r1 = b2 (turnT a b c d e f) hg lo hi x (hi + 1) a b c d e f (rowT (inTB a b c d e f x) x m y out)
  | 0, k + 1, y, out, b2, r0, r1, hy, hm, hl, _ => by
    have : y = hi + 1 := by omega
    subst this
    rw [spec_InnerPoints_l15, dec_le_f (by omega)]
    rfl
  | m + 1, k + 1, y, out, b2, r0, r1, hy, hm, hl, hk => by
    have hyT : inT y := ⟨hy, by omega⟩
    have t0 := dT_b h.a h.b h.c h.d hx hyT
    have t1 := dT_b h.c h.d h.e h.f hx hyT
    have t2 := dT_b h.e h.f h.a h.b hx hyT
    have hs := turnT_or a b c d e f
    have hd : decide (out.length + 1 ≤ big) = true := decide_eq_true (by rw [big_val]; omega)
    have ey : w64 (y + 1) = y + 1 := w64_of (by omega) (by omega)
    have ih1 := spec_l15 h (lo := lo) hx hhi hg m k (y + 1) out b2 r0 r1 (by omega) (by omega) (by omega) (by omega)
    have ih2 := spec_l15 h (lo := lo) hx hhi hg m k (y + 1) (out ++ [(x, y)]) b2 r0 r1 (by omega) (by omega) (by simp; omega) (by omega)
    rw [spec_InnerPoints_l15, dec_le_t (by omega), cond_true]
    simp only [spec_side0, spec_side1, spec_side2, spec_piece k h.a h.b h.c h.d hx hyT, spec_piece k h.c h.d h.e h.f hx hyT, spec_piece k h.e h.f h.a h.b hx hyT, turn_w hs t0, turn_w hs t1, turn_w hs t2, hd, ey, ih1, ih2, cond_true, rowT]
    have hp : inTB a b c d e f x y = (decide (0 < turnT a b c d e f * dT a b c d x y) && (decide (0 < turnT a b c d e f * dT c d e f x y) && decide (0 < turnT a b c d e f * dT e f a b x y))) := rfl
    rw [hp]
    cases decide (0 < turnT a b c d e f * dT a b c d x y) <;> cases decide (0 < turnT a b c d e f * dT c d e f x y) <;> cases decide (0 < turnT a b c d e f * dT e f a b x y) <;> rfl
  | _, 0, _, _, _, _, _, _, _, _, hk => by omega

theorem impl_l11 {a b c d e f : Int} (h : InT6 a b c d e f) {lo hi x : Int} (hx : inT x) (hhi : hi ≤ 1000) : ∀ (m k : Nat) (y : Int) (out : List (Int × Int)) (b2 : Int → Int → Int → Int → Int → Int → Int → Int → Int → Int → List (Int × Int) → Option α) (r0 : Int → Option α) r1, -1000 ≤ y → y + m = hi + 1 → out.length + m ≤ 8000000 → m < k →
    impl_InnerPoints_l11 k lo hi x y a b c d e f out b2 r0 r1 = b2 lo hi x (hi + 1) a b c d e f (rowT (inTB a b c d e f x) x m y out)
  | 0, k + 1, y, out, b2, r0, r1, hy, hm, hl, _ => by
    have : y = hi + 1 := by omega
    subst this
    rw [impl_InnerPoints_l11, dec_le_f (by omega)]
    rfl
  | m + 1, k + 1, y, out, b2, r0, r1, hy, hm, hl, hk => by
    have hyT : inT y := ⟨hy, by omega⟩
    have hd : decide (out.length + 1 ≤ big) = true := decide_eq_true (by rw [big_val]; omega)
    have ey : w64 (y + 1) = y + 1 := w64_of (by omega) (by omega)
    have ih1 := impl_l11 h (lo := lo) hx hhi m k (y + 1) out b2 r0 r1 (by omega) (by omega) (by omega) (by omega)
    have ih2 := impl_l11 h (lo := lo) hx hhi m k (y + 1) (out ++ [(x, y)]) b2 r0 r1 (by omega) (by omega) (by simp; omega) (by omega)
    rw [impl_InnerPoints_l11, dec_le_t (by omega), cond_true, impl_inside_eq k h hx hyT]
    simp only [hd, ey, ih1, ih2, cond_true, rowT]
    cases inTB a b c d e f x y <;> rfl
  | _, 0, _, _, _, _, _, _, _, _, hk => by omega

def gridT (p : Int → Int → Bool) (lo : Int) (M : Nat) : Nat → Int → List (Int × Int) → List (Int × Int)
  | 0, _, out => out
  | n + 1, x, out => gridT p lo M n (x + 1) (rowT (p x) x M lo out)

theorem gridT_len (p : Int → Int → Bool) (lo : Int) (M : Nat) : ∀ (n : Nat) (x : Int) (out : List (Int × Int)), (gridT p lo M n x out).length ≤ out.length + n * M
  | 0, _, out => by simp [gridT]
  | n + 1, x, out => by
    rw [gridT]
    have h1 := gridT_len p lo M n (x + 1) (rowT (p x) x M lo out)
    have h2 := rowT_len (p x) x M lo out
    rw [Nat.succ_mul]
    omega

theorem spec_l12 {a b c d e f : Int} (h : InT6 a b c d e f) {lo hi hg : Int} (hlo : -1000 ≤ lo) (hhi : hi ≤ 1000) (hhg : hg ≤ 1000) (M : Nat) (hM : lo + M = hi + 1) (hM2 : M ≤ 2001) : ∀ (n k : Nat) (x : Int) (out : List (Int × Int)) (b0 : Int → Int → Int → Int → Int → Int → Int → Int → Int → Int → Int → List (Int × Int) → Option α) (r0 : Int → Option α) r1, -1000 ≤ x → x + n = hg + 1 → out.length + n * M ≤ 7000000 → n + 2001 < k →
    spec_InnerPoints_l12 k (turnT a b c d e f) hg lo hi x a b c d e f out b0 r0 r1 = b0 (turnT a b c d e f) hg lo hi (hg + 1) a b c d e f (gridT (inTB a b c d e f) lo M n x out)
  | 0, k + 1, x, out, b0, r0, r1, hx, hn, hl, _ => by
    have : x = hg + 1 := by omega
    subst this
    rw [spec_InnerPoints_l12, dec_le_f (by omega)]
    rfl
  | n + 1, k + 1, x, out, b0, r0, r1, hx, hn, hl, hk => by
    rw [Nat.succ_mul] at hl
    have hxT : inT x := ⟨hx, by omega⟩
    have ex : w64 (x + 1) = x + 1 := w64_of (by omega) (by omega)
    have hlen := rowT_len (inTB a b c d e f x) x M lo out
    rw [spec_InnerPoints_l12, dec_le_t (by omega), cond_true, spec_l15 h hxT hhi hg M k lo out _ r0 r1 hlo hM (by omega) (by omega), ex]
    exact spec_l12 h hlo hhi hhg M hM hM2 n k (x + 1) _ b0 r0 r1 (by omega) (by omega) (by omega) (by omega)
  | _, 0, _, _, _, _, _, _, _, _, hk => by omega

theorem impl_l8 {a b c d e f : Int} (h : InT6 a b c d e f) {lo hi hg : Int} (hmax : max (max a c) e = hg) (hlo : -1000 ≤ lo) (hhi : hi ≤ 1000) (hhg : hg ≤ 1000) (M : Nat) (hM : lo + M = hi + 1) (hM2 : M ≤ 2001) : ∀ (n k : Nat) (x : Int) (out : List (Int × Int)) (b0 : Int → Int → Int → Int → Int → Int → Int → Int → Int → List (Int × Int) → Option α) (r0 : Int → Option α) r1, -1000 ≤ x → x + n = hg + 1 → out.length + n * M ≤ 7000000 → n + 2001 < k →
    impl_InnerPoints_l8 k lo hi x a b c d e f out b0 r0 r1 = b0 lo hi (hg + 1) a b c d e f (gridT (inTB a b c d e f) lo M n x out)
  | 0, k + 1, x, out, b0, r0, r1, hx, hn, hl, _ => by
    have : x = hg + 1 := by omega
    subst this
    rw [impl_InnerPoints_l8, hmax, dec_le_f (by omega)]
    rfl
  | n + 1, k + 1, x, out, b0, r0, r1, hx, hn, hl, hk => by
    rw [Nat.succ_mul] at hl
    have hxT : inT x := ⟨hx, by omega⟩
    have ex : w64 (x + 1) = x + 1 := w64_of (by omega) (by omega)
    have hlen := rowT_len (inTB a b c d e f x) x M lo out
    rw [impl_InnerPoints_l8, hmax, dec_le_t (by omega), cond_true, impl_l11 h hxT hhi M k lo out _ r0 r1 hlo hM (by omega) (by omega), ex]
    exact impl_l8 h hmax hlo hhi hhg M hM hM2 n k (x + 1) _ b0 r0 r1 (by omega) (by omega) (by omega) (by omega)
  | _, 0, _, _, _, _, _, _, _, _, hk => by omega

def areaT (a b c d e f : Int) : Int := max ((c - a) * (f - b) - (d - b) * (e - a)) (-((c - a) * (f - b) - (d - b) * (e - a)))

def innerT (a b c d e f : Int) : Int := w64 (w64 (Int.tdiv (w64 (areaT a b c d e f - w64 (w64 (gcdI (c - a) (d - b) + gcdI (e - c) (f - d)) + gcdI (a - e) (b - f)))) 2) + 1)

theorem spec_length_eq (k : Nat) (hk : 1000000000 < k) {a b c d : Int} (ha : inT a) (hb : inT b) (hc : inT c) (hd : inT d) (r : Int → Option α) : spec_l01Length k a b c d r = r (gcdI (c - a) (d - b)) := by
  have h1 := hc.sub2 ha
  have h2 := hd.sub2 hb
  unfold spec_l01Length
  rw [w64_of (n := c - a) (by omega) (by omega), w64_of (n := d - b) (by omega) (by omega), spec_l01Gcd_eq k _ _ _ (by omega) (by omega) (by omega) (by omega) hk]

theorem impl_length_eq (k : Nat) (hk : 1000000000 < k) {a b : Int} (ha : -2000 ≤ a ∧ a ≤ 2000) (hb : -2000 ≤ b ∧ b ≤ 2000) (r : Int → Option α) : impl_Point_length k a b r = r (gcdI a b) := by
  unfold impl_Point_length
  rw [impl_gcd_eq k _ _ _ (by omega) (by omega) (by omega) (by omega) hk]

theorem spec_inner_eq (k : Nat) (hk : 1000000000 < k) {a b c d e f : Int} (h : InT6 a b c d e f) (r : Int → Option α) : spec_l04Inner k a b c d e f r = r (innerT a b c d e f) := by
  simp only [spec_l04Inner, spec_l04Area, spec_l04Boundary, spec_area_eq k h.a h.b h.c h.d h.e h.f, spec_length_eq k hk h.a h.b h.c h.d, spec_length_eq k hk h.c h.d h.e h.f, spec_length_eq k hk h.e h.f h.a h.b]
  rfl

theorem impl_inner_eq (k : Nat) (hk : 1000000000 < k) {a b c d e f : Int} (h : InT6 a b c d e f) (r : Int → Option α) : impl_Triangle_inner k a b c d e f r = r (innerT a b c d e f) := by
  simp only [impl_Triangle_inner, impl_Triangle_area, impl_Triangle_boundary, impl_area_eq k h.a h.b h.c h.d h.e h.f, impl_side01, impl_side12, impl_side20, impl_less_eq k _ _ _ _ _ h.c.wide h.d.wide h.a.wide h.b.wide, impl_less_eq k _ _ _ _ _ h.e.wide h.f.wide h.c.wide h.d.wide, impl_less_eq k _ _ _ _ _ h.a.wide h.b.wide h.e.wide h.f.wide,
    impl_length_eq k hk (h.c.sub2 h.a) (h.d.sub2 h.b), impl_length_eq k hk (h.e.sub2 h.c) (h.f.sub2 h.d), impl_length_eq k hk (h.a.sub2 h.e) (h.b.sub2 h.f)]
  rfl

/-- A code. -/
structure IsCode (l : List Int) : Prop where
  len : l.length ≤ 4096
  byte : ∀ x ∈ l, 0 ≤ x ∧ x ≤ 255

/-- How far a code is read. -/
def AtC (l : List Int) (a : Int) : Prop := 0 ≤ a ∧ a ≤ l.length

theorem mask_b (h : Int) : 0 ≤ w64 (IntKind.wrap .u64 ((BitVec.ofInt 64 h &&& BitVec.ofInt 64 1073741823).toNat : Nat)) ∧ w64 (IntKind.wrap .u64 ((BitVec.ofInt 64 h &&& BitVec.ofInt 64 1073741823).toNat : Nat)) ≤ 1073741823 := by
  have h1 : (BitVec.ofInt 64 h &&& BitVec.ofInt 64 1073741823).toNat ≤ 1073741823 := by
    rw [BitVec.toNat_and]
    exact Nat.le_trans Nat.and_le_right (by decide)
  rw [IntWalk.u64_in _ (by omega), w64_of (by omega) (by omega)]
  omega

/-- The next hash, and the number that it tells. -/
def lcg (h : Int) : Int := IntKind.wrap .u64 ((IntKind.wrap .u64 (h * 6364136223846793005)) + 1442695040888963407)

def lcgX (h : Int) : Int := w64 (IntKind.wrap .u64 ((BitVec.ofInt 64 (Int.fdiv (lcg h) (2 ^ 31)) &&& BitVec.ofInt 64 1073741823).toNat : Nat))

theorem lcgX_b (h : Int) : 0 ≤ lcgX h ∧ lcgX h ≤ 1073741823 := mask_b _

theorem next_eq (l : List Int) (a : Int) (k : Nat) (h n : Int) (r : Int → Int → Int → Option α) : spec_l01Next k l a h n r = bif decide (n < 1) then r 0 a h else bif decide (a < (l.length : Nat)) then (bif decide (0 ≤ a) && decide (a < (l.length : Nat)) then (l[a.toNat]?).bind fun e => bif decide (n = 0) then none else r (Int.tmod (w64 (lcgX h + w64 e)) n) (w64 (a + 1)) (lcg h) else none) else bif decide (n = 0) then none else r (Int.tmod (lcgX h) n) a (lcg h) := rfl

theorem next_ok {l : List Int} (hl : IsCode l) {a : Int} (ha : AtC l a) (k : Nat) (h n : Int) : ∃ v a' h', AtC l a' ∧ 0 ≤ v ∧ (v < n ∨ (n < 1 ∧ v = 0)) ∧ ∀ r : Int → Int → Int → Option α, spec_l01Next k l a h n r = r v a' h' := by
  have hlen := hl.len
  unfold AtC at ha
  by_cases h1 : n < 1
  · exact ⟨0, a, h, ha, by omega, .inr ⟨h1, rfl⟩, fun r => by rw [next_eq, dec_lt_t h1, cond_true]⟩
  · have hz : decide (n = 0) = false := decide_eq_false (by omega)
    have h1' : decide (n < 1) = false := decide_eq_false h1
    obtain ⟨m1, m2⟩ := lcgX_b h
    by_cases h2 : a < l.length
    · have hlt : a.toNat < l.length := by omega
      have hb := hl.byte l[a.toNat] (List.getElem_mem hlt)
      refine ⟨Int.tmod (lcgX h + l[a.toNat]) n, a + 1, lcg h, by unfold AtC; omega, Int.tmod_nonneg _ (by omega), .inl (Int.tmod_lt_of_pos _ (by omega)), fun r => ?_⟩
      rw [next_eq, h1', cond_false, dec_lt_t h2, cond_true, dec_le_t ha.1, Bool.and_true, cond_true, List.getElem?_eq_getElem hlt, Option.bind_some, hz, cond_false, w64_of (n := a + 1) (by omega) (by omega), w64_of (n := l[a.toNat]) (by omega) (by omega), w64_of (n := lcgX h + l[a.toNat]) (by omega) (by omega)]
    · refine ⟨Int.tmod (lcgX h) n, a, lcg h, ha, Int.tmod_nonneg _ (by omega), .inl (Int.tmod_lt_of_pos _ (by omega)), fun r => ?_⟩
      rw [next_eq, h1', cond_false, dec_lt_f (by omega), cond_false, hz, cond_false]

theorem from_l3 {l : List Int} (hl : IsCode l) : ∀ (m k i : Nat) (s h : Int) (r : Int → Int → Option α), i + m = l.length → m < k → ∃ h', ∀ (r : Int → Int → Option α), spec_l01From_l3 k i l s h (fun _ _ s1 s2 => r s1 s2) r = r s h'
  | 0, k + 1, i, s, h, r, hi, _ => ⟨h, fun r => by
    rw [spec_l01From_l3, dec_lt_f (by omega), cond_false]⟩
  | m + 1, k + 1, i, s, h, r, hi, hk => by
    have hlen := hl.len
    have en : w64 ((i : Int) + 1) = ((i + 1 : Nat) : Int) := by rw [w64_of (by omega) (by omega)]; omega
    have hlt : i < l.length := by omega
    obtain ⟨h', ih⟩ := from_l3 hl m k (i + 1) s (IntKind.wrap .u64 ((IntKind.wrap .u64 ((IntKind.wrap .u64 (h * 1099511628211)) + (IntKind.wrap .u64 l[i]))) + 107)) r (by omega) (by omega)
    refine ⟨h', fun r => ?_⟩
    rw [spec_l01From_l3, dec_lt_t (by omega), cond_true, dec_lt_t (by omega), cond_true, dec_le_t (by omega), Bool.and_true, cond_true, Int.toNat_natCast, List.getElem?_eq_getElem hlt, Option.bind_some, en]
    exact ih r
  | _, 0, _, _, _, _, _, hk => by omega

theorem from_ok {l : List Int} (hl : IsCode l) (k : Nat) (hk : 4096 < k) : ∃ h, AtC l 0 ∧ ∀ r : Int → Int → Option α, spec_l01From k l r = r 0 h := by
  have hlen := hl.len
  obtain ⟨h', e⟩ := from_l3 (α := α) hl l.length k 0 0 (IntKind.wrap .u64 (12971 + (IntKind.wrap .u64 (((List.length l) : Nat) : Int)))) (fun _ _ => none) (by omega) (by omega)
  exact ⟨h', ⟨by omega, by omega⟩, fun r => e r⟩

theorem pick_ok {l : List Int} (hl : IsCode l) {a : Int} (ha : AtC l a) (k : Nat) (h : Int) {list : List Int} (h0 : 0 < list.length) (h1 : list.length ≤ 1000) : ∃ v a' h', AtC l a' ∧ v ∈ list ∧ ∀ r : Int → Int → Int → Option α, spec_l01Pick k l a h list r = r v a' h' := by
  obtain ⟨v, a', h', i1, i2, i3, i4⟩ := next_ok (α := α) hl ha k h (list.length : Int)
  have hv : v < list.length := by omega
  have hlt : v.toNat < list.length := by omega
  refine ⟨list[v.toNat], a', h', i1, List.getElem_mem hlt, fun r => ?_⟩
  unfold spec_l01Pick
  rw [i4, dec_le_t i2, dec_lt_t hv, Bool.and_true, cond_true, List.getElem?_eq_getElem hlt, Option.bind_some]

theorem near_ok {l : List Int} (hl : IsCode l) {a : Int} (ha : AtC l a) (k : Nat) (h : Int) {most : Int} (h0 : 0 ≤ most) (h1 : most ≤ 1000000000) : ∃ v a' h', AtC l a' ∧ -4611686018427387904 ≤ v ∧ v ≤ 1099511627776 ∧ ∀ r : Int → Int → Int → Option α, spec_l01Near k l a h most r = r v a' h' := by
  have w : w64 (most + 1) = most + 1 := w64_of (by omega) (by omega)
  obtain ⟨v, a1, h1', i1, i2, i3, i4⟩ := next_ok (α := α) hl ha k h 14
  by_cases hv : v = 0
  · obtain ⟨u, a2, h2, j1, j2, j3⟩ := pick_ok (α := α) hl i1 k h1' (list := [(-1), (w64 (most + 1)), 1099511627776, (-4611686018427387904)]) (by simp) (by simp)
    refine ⟨u, a2, h2, j1, ?_, ?_, fun r => ?_⟩
    · simp only [List.mem_cons, List.not_mem_nil, or_false] at j2; omega
    · simp only [List.mem_cons, List.not_mem_nil, or_false] at j2; omega
    · unfold spec_l01Near
      rw [i4, decide_eq_true hv, cond_true, j3]
  · obtain ⟨u, a2, h2, j1, j2, j3, j4⟩ := next_ok (α := α) hl i1 k h1' (w64 (most + 1))
    refine ⟨u, a2, h2, j1, by omega, by omega, fun r => ?_⟩
    unfold spec_l01Near
    rw [i4, decide_eq_false hv, cond_false, j4]

theorem point_ok {l : List Int} (hl : IsCode l) {a : Int} (ha : AtC l a) (k : Nat) (h : Int) {most : Int} (h0 : 0 ≤ most) (h1 : most ≤ 1000000000) : ∃ x y a' h', AtC l a' ∧ (-most ≤ x ∧ x ≤ most) ∧ (-most ≤ y ∧ y ≤ most) ∧ ∀ r : Int → Int → Int → Int → Option α, spec_l01DrawPoint k l a h most r = r x y a' h' := by
  have w : w64 ((w64 (2 * most)) + 1) = 2 * most + 1 := by rw [w64_of (n := 2 * most) (by omega) (by omega), w64_of (by omega) (by omega)]
  obtain ⟨v, a1, h1', i1, i2, i3, i4⟩ := next_ok (α := α) hl ha k h (w64 ((w64 (2 * most)) + 1))
  obtain ⟨u, a2, h2', j1, j2, j3, j4⟩ := next_ok (α := α) hl i1 k h1' (w64 ((w64 (2 * most)) + 1))
  refine ⟨v - most, u - most, a2, h2', j1, by omega, by omega, fun r => ?_⟩
  unfold spec_l01DrawPoint
  rw [i4, j4, w64_of (n := v - most) (by omega) (by omega), w64_of (n := u - most) (by omega) (by omega)]

theorem laws_big_eq (k : Nat) (l : List Int) (r : Bool → Option α) : laws_big k l r = r (decide (4096 < (((List.length l) : Nat) : Int))) := rfl

theorem likeInts_l4 : ∀ (rest : List Int) (k i : Nat) (s : List Int) b (r : Bool → Option α), s.drop i = rest → s.length ≤ big → i ≤ s.length → rest.length < k → laws_likeInts_l4 k i s s b r = b s.length s s
  | [], k + 1, i, s, b, r, hd, hb, hi, _ => by
    have := drop_nil hd
    have : i = s.length := by omega
    subst this
    rw [laws_likeInts_l4, dec_lt_f (by omega)]
    rfl
  | e :: rest, k + 1, i, s, b, r, hd, hb, hi, hk => by
    obtain ⟨h1, h2, h3⟩ := drop_cons hd
    rw [big_val] at hb
    have en : w64 ((i : Int) + 1) = ((i + 1 : Nat) : Int) := by rw [w64_of (by omega) (by omega)]; omega
    rw [laws_likeInts_l4, dec_lt_t (by omega), dec_le_t (by omega), cond_true, Bool.and_true, cond_true, Int.toNat_natCast, h1, Option.bind_some, cond_true, Option.bind_some, decide_eq_true rfl, Bool.not_true, cond_false, en]
    exact likeInts_l4 rest k (i + 1) s b r h2 (by rw [big_val]; omega) (by omega) (by simp at hk; omega)
  | _, 0, _, _, _, _, _, _, _, hk => by omega

theorem likeInts_same (k : Nat) (s : List Int) (r : Bool → Option α) (hs : s.length ≤ big) (hk : s.length < k) : laws_likeInts k s s r = r true := by
  unfold laws_likeInts
  rw [decide_eq_true rfl, Bool.not_true, cond_false]
  have := likeInts_l4 s k 0 s (fun _ _ _ => r true) r rfl hs (by omega) hk
  simpa using this

/-- f 0 + .. + f (n - 1). -/
def sumI (f : Nat → Int) : Nat → Int
  | 0 => 0
  | n + 1 => sumI f n + f n

theorem sumI_congr {f g : Nat → Int} : ∀ (n : Nat), (∀ i, i < n → f i = g i) → sumI f n = sumI g n
  | 0, _ => rfl
  | n + 1, h => by rw [sumI, sumI, sumI_congr n fun i hi => h i (by omega), h n (by omega)]

theorem sumI_add (f g : Nat → Int) : ∀ n, sumI (fun i => f i + g i) n = sumI f n + sumI g n
  | 0 => rfl
  | n + 1 => by simp only [sumI, sumI_add f g n]; omega

theorem sumI_const (c : Int) : ∀ n, sumI (fun _ => c) n = n * c
  | 0 => by simp [sumI]
  | n + 1 => by rw [sumI, sumI_const c n]; grind

theorem sumI_zero {f : Nat → Int} (n : Nat) (h : ∀ i, i < n → f i = 0) : sumI f n = 0 := by
  rw [sumI_congr (g := fun _ => 0) n h, sumI_const]; omega

theorem sumI_split (f : Nat → Int) (m : Nat) : ∀ n, sumI f (m + n) = sumI f m + sumI (fun i => f (m + i)) n
  | 0 => by simp [sumI]
  | n + 1 => by rw [← Nat.add_assoc, sumI, sumI, sumI_split f m n]; omega

theorem sumI_front (f : Nat → Int) (n : Nat) : sumI f (n + 1) = f 0 + sumI (fun i => f (i + 1)) n := by
  have := sumI_split f 1 n
  rw [Nat.add_comm] at this
  rw [this]
  simp only [sumI, Nat.add_comm 1]
  omega

theorem sumI_rev : ∀ (n : Nat) (f : Nat → Int), sumI f n = sumI (fun i => f (n - 1 - i)) n
  | 0, _ => rfl
  | n + 1, f => by
    rw [sumI_front fun i => f (n + 1 - 1 - i), sumI, sumI_rev n f]
    have : sumI (fun i => f (n - 1 - i)) n = sumI (fun i => f (n + 1 - 1 - (i + 1))) n := sumI_congr n fun i hi => by rw [show n - 1 - i = n + 1 - 1 - (i + 1) by omega]
    rw [this]
    show _ + f n = f (n + 1 - 1 - 0) + _
    rw [show n + 1 - 1 - 0 = n by omega]
    omega

theorem sumI_mul (c : Int) (f : Nat → Int) : ∀ n, sumI (fun i => c * f i) n = c * sumI f n
  | 0 => by simp [sumI]
  | n + 1 => by simp only [sumI, sumI_mul c f n]; grind

def dv (w : Nat) (h : Int) (i : Nat) : Int := if (w : Int) ∣ h * i then 1 else 0

theorem fl_sym {w i : Nat} {h : Int} (hw : i < w) : (h * i) / w + (h * ((w - i : Nat) : Int)) / w = h - 1 + dv w h i := by
  have hwp : (0 : Int) < w := by omega
  have e1 := Int.mul_ediv_add_emod (h * i) w
  have e2 := Int.mul_ediv_add_emod (h * ((w - i : Nat) : Int)) w
  have r1 := Int.emod_nonneg (h * i) (Int.ne_of_gt hwp)
  have r2 := Int.emod_nonneg (h * ((w - i : Nat) : Int)) (Int.ne_of_gt hwp)
  have s1 := Int.emod_lt_of_pos (h * i) hwp
  have s2 := Int.emod_lt_of_pos (h * ((w - i : Nat) : Int)) hwp
  have ew : ((w - i : Nat) : Int) = w - i := by omega
  have hd : (w : Int) ∣ h * i ↔ (h * i) % w = 0 := ⟨Int.emod_eq_zero_of_dvd, Int.dvd_of_emod_eq_zero⟩
  rw [ew] at e2 r2 s2 ⊢
  generalize hq : h * (i : Int) / (w : Int) = q at *
  generalize hq' : h * ((w : Int) - i) / (w : Int) = q' at *
  generalize hr : h * (i : Int) % (w : Int) = r at *
  generalize hr' : h * ((w : Int) - i) % (w : Int) = r' at *
  have et : (w : Int) * (q + q' - h) = -(r + r') := by grind
  unfold dv
  by_cases hz : (w : Int) ∣ h * i
  · rw [if_pos hz]
    have hz' := hd.1 hz
    have g1 : q + q' - h < 1 := Int.lt_of_mul_lt_mul_left (a := (w : Int)) (by omega) (by omega)
    have g2 : -1 < q + q' - h := Int.lt_of_mul_lt_mul_left (a := (w : Int)) (by omega) (by omega)
    omega
  · rw [if_neg hz]
    have hz' : r ≠ 0 := fun e => hz (hd.2 e)
    have g1 : q + q' - h < 0 := Int.lt_of_mul_lt_mul_left (a := (w : Int)) (by omega) (by omega)
    have g2 : -2 < q + q' - h := Int.lt_of_mul_lt_mul_left (a := (w : Int)) (by omega) (by omega)
    omega

theorem dvd_iff {w : Nat} {h : Int} {i : Nat} (hw : 0 < w) : (w : Int) ∣ h * i ↔ (w / Int.gcd w h) ∣ i := by
  have hg : 0 < Int.gcd w h := Nat.pos_of_ne_zero fun e => by rw [Int.gcd_eq_zero_iff] at e; omega
  have e1 : (w : Int) ∣ h * i ↔ w ∣ h.natAbs * i := by
    rw [← Int.natAbs_dvd_natAbs, Int.natAbs_natCast, Int.natAbs_mul, Int.natAbs_natCast]
  have eg : Int.gcd w h = Nat.gcd w h.natAbs := by rw [Int.gcd, Int.natAbs_natCast]
  rw [e1, eg]
  rw [eg] at hg
  obtain ⟨w', hw'⟩ := Nat.gcd_dvd_left w h.natAbs
  obtain ⟨h', hh'⟩ := Nat.gcd_dvd_right w h.natAbs
  generalize hgg : Nat.gcd w h.natAbs = g at *
  have ew : w / g = w' := by rw [hw', Nat.mul_div_cancel_left _ hg]
  rw [ew, hh', hw', Nat.mul_assoc, Nat.mul_dvd_mul_iff_left hg]
  have hc : Nat.Coprime w' h' := by
    have := Nat.coprime_div_gcd_div_gcd (m := w) (n := h.natAbs) (by rw [hgg]; exact hg)
    rw [hgg, ew, hh', Nat.mul_div_cancel_left _ hg] at this
    exact this
  exact ⟨fun h => hc.dvd_of_dvd_mul_left h, fun h => Nat.dvd_mul_left_of_dvd h _⟩

theorem block_one {v : Nat} (hv : 0 < v) (g : Nat) : sumI (fun i => if v ∣ g * v + i + 1 then 1 else 0) v = 1 := by
  obtain ⟨u, rfl⟩ : ∃ u, v = u + 1 := ⟨v - 1, by omega⟩
  rw [sumI, sumI_zero u fun i hi => ?_]
  · rw [if_pos ⟨g + 1, by rw [Nat.mul_comm (u + 1), Nat.succ_mul]; omega⟩]; rfl
  · rw [if_neg]
    intro h
    have h2 := (Nat.dvd_add_right (Nat.dvd_mul_left (u + 1) g)).1 (show u + 1 ∣ g * (u + 1) + (i + 1) by rw [← Nat.add_assoc]; exact h)
    have := Nat.le_of_dvd (by omega) h2
    omega

theorem blocks {v : Nat} (hv : 0 < v) : ∀ g : Nat, sumI (fun i => if v ∣ i + 1 then 1 else 0) (g * v) = g
  | 0 => by simp [sumI]
  | g + 1 => by
    rw [Nat.succ_mul, sumI_split, blocks hv g, block_one hv g]
    omega

theorem dv_sum {w : Nat} (hw : 0 < w) (h : Int) : sumI (fun i => dv w h (i + 1)) (w - 1) = gcdI w h - 1 := by
  have hg : 0 < Int.gcd w h := Nat.pos_of_ne_zero fun e => by rw [Int.gcd_eq_zero_iff] at e; omega
  have hgd : Int.gcd w h ∣ w := by
    have := Int.gcd_dvd_left (a := (w : Int)) (b := h)
    exact Int.natCast_dvd_natCast.1 this
  have hv : 0 < w / Int.gcd w h := Nat.div_pos (Nat.le_of_dvd hw hgd) hg
  have e := blocks hv (Int.gcd w h)
  have ew : Int.gcd w h * (w / Int.gcd w h) = w := Nat.mul_div_cancel' hgd
  rw [ew] at e
  have e2 : sumI (fun i => if (w / Int.gcd w h) ∣ i + 1 then 1 else 0) w = sumI (fun i => dv w h (i + 1)) w := sumI_congr w fun i _ => by
    unfold dv
    by_cases hd : (w / Int.gcd w h) ∣ i + 1
    · rw [if_pos hd, if_pos ((dvd_iff hw).2 hd)]
    · rw [if_neg hd, if_neg fun h' => hd ((dvd_iff hw).1 h')]
  rw [e2] at e
  obtain ⟨u, rfl⟩ : ∃ u, w = u + 1 := ⟨w - 1, by omega⟩
  rw [sumI] at e
  have el : dv (u + 1) h (u + 1) = 1 := if_pos ⟨h, by rw [Int.mul_comm]⟩
  rw [el] at e
  show sumI _ u = _
  unfold gcdI
  omega

/-- The whole parts on a line from (0, 0) to (w, h), without its ends. -/
def flS (w : Nat) (h : Int) : Int := sumI (fun i => (h * ((i + 1 : Nat) : Int)) / w) (w - 1)

theorem flS_eq {w : Nat} (hw : 0 < w) (h : Int) : 2 * flS w h = ((w : Int) - 1) * (h - 1) + gcdI w h - 1 := by
  have e1 : flS w h = sumI (fun i => (h * ((w - (i + 1) : Nat) : Int)) / w) (w - 1) := by
    unfold flS
    rw [sumI_rev]
    exact sumI_congr _ fun i hi => by rw [show w - 1 - 1 - i + 1 = w - (i + 1) by omega]
  have e2 : 2 * flS w h = sumI (fun i => (h * ((i + 1 : Nat) : Int)) / w + (h * ((w - (i + 1) : Nat) : Int)) / w) (w - 1) := by
    rw [sumI_add, ← e1]
    show _ = flS w h + flS w h
    omega
  rw [e2, sumI_congr (g := fun i => (h - 1) + dv w h (i + 1)) _ fun i hi => fl_sym (by omega), sumI_add, sumI_const, dv_sum hw]
  have : ((w - 1 : Nat) : Int) = w - 1 := by omega
  rw [this]
  omega

/-- The length of a stretch. -/
def b2i (b : Bool) : Int := bif b then 1 else 0

theorem stretch {q : Int → Bool} {y0 al be : Int} {M : Nat} (h1 : y0 ≤ al) (h2 : al ≤ be) (h3 : be ≤ y0 + M) (hq : ∀ y, q y = true ↔ al ≤ y ∧ y < be) : sumI (fun j => b2i (q (y0 + (j : Int)))) M = be - al := by
  obtain ⟨m1, e1⟩ : ∃ m : Nat, al = y0 + m := ⟨(al - y0).toNat, by omega⟩
  obtain ⟨m2, e2⟩ : ∃ m : Nat, be = al + m := ⟨(be - al).toNat, by omega⟩
  obtain ⟨m3, e3⟩ : ∃ m : Nat, M = m1 + m2 + m := ⟨M - (m1 + m2), by omega⟩
  have f : ∀ y, ¬ (al ≤ y ∧ y < be) → b2i (q y) = 0 := fun y h => by
    cases hv : q y with
    | false => rfl
    | true => exact absurd ((hq y).1 hv) h
  have t : ∀ y, al ≤ y ∧ y < be → b2i (q y) = 1 := fun y h => by rw [(hq y).2 h]; rfl
  rw [e3, sumI_split, sumI_split, sumI_zero m1 fun i hi => f _ (by omega), sumI_congr (g := fun _ => 1) m2 fun i hi => t _ (by omega), sumI_const, sumI_zero m3 fun i hi => f _ (by omega)]
  omega

def inP (a b c d e f x y : Int) : Bool := decide (0 < dT a b c d x y) && (decide (0 < dT c d e f x y) && decide (0 < dT e f a b x y))

theorem inP_iff {a b c d e f x y : Int} : inP a b c d e f x y = true ↔ 0 < dT a b c d x y ∧ 0 < dT c d e f x y ∧ 0 < dT e f a b x y := by
  simp [inP]

def cnt2 (p : Int → Int → Bool) (x0 : Int) (n : Nat) (y0 : Int) (M : Nat) : Int := sumI (fun i => sumI (fun j => b2i (p (x0 + (i : Int)) (y0 + (j : Int)))) M) n

theorem fl_ge {w : Int} {h i : Int} (hw : 0 < w) (hi : 0 ≤ i) (hiw : i ≤ w) : (0 ≤ h → 0 ≤ h * i / w) ∧ (h ≤ 0 → h ≤ h * i / w) := by
  refine ⟨fun hh => Int.ediv_nonneg (Int.mul_nonneg hh hi) (by omega), fun hh => ?_⟩
  rw [Int.le_ediv_iff_mul_le hw]
  have := Int.mul_nonneg (show 0 ≤ -h by omega) (show 0 ≤ w - i by omega)
  grind

/-- Left of the middle corner. -/
theorem col_left {a b m h W H i y : Int} (hm : 0 < m) (hmW : m ≤ W) (hD : 0 < m * H - h * W) (him : i < m) : inP a b (a + m) (b + h) (a + W) (b + H) (a + i) y = true ↔ b + h * i / m + 1 ≤ y ∧ y < b + -(-H * i / W) := by
  have hW : 0 < W := by omega
  have e1 : dT a b (a + m) (b + h) (a + i) y = m * (y - b) - h * i := by unfold dT; grind
  have e3 : dT (a + W) (b + H) a b (a + i) y = H * i - W * (y - b) := by unfold dT; grind
  have e2 : m * dT (a + m) (b + h) (a + W) (b + H) (a + i) y = (W - m) * (m * (y - b) - h * i) + (m * H - h * W) * (m - i) := by unfold dT; grind
  have l1 : h * i / m < y - b ↔ h * i < (y - b) * m := Int.ediv_lt_iff_lt_mul hm
  have l3 : -H * i / W < -(y - b) ↔ -H * i < -(y - b) * W := Int.ediv_lt_iff_lt_mul hW
  rw [inP_iff, e1, e3]
  constructor
  · rintro ⟨g1, _, g3⟩
    have := l1.2 (by grind)
    have := l3.2 (by grind)
    omega
  · rintro ⟨g1, g3⟩
    have k1 := l1.1 (by omega)
    have k3 := l3.1 (by omega)
    have k1' : 0 < m * (y - b) - h * i := by grind
    refine ⟨k1', ?_, by grind⟩
    have p1 := Int.mul_nonneg (show 0 ≤ W - m by omega) (Int.le_of_lt k1')
    have p2 := Int.mul_pos hD (show 0 < m - i by omega)
    exact Int.pos_of_mul_pos_right (show 0 < m * _ by rw [e2]; omega) hm

/-- Right of the middle corner. -/
theorem col_right {a b m h W H i y : Int} (hm : 0 ≤ m) (hmW : m < W) (hD : 0 < m * H - h * W) (him : m < i) : inP a b (a + m) (b + h) (a + W) (b + H) (a + i) y = true ↔ b + h + (H - h) * (i - m) / (W - m) + 1 ≤ y ∧ y < b + -(-H * i / W) := by
  have hW : 0 < W := by omega
  have hWm : 0 < W - m := by omega
  have e1 : (W - m) * dT a b (a + m) (b + h) (a + i) y = m * ((W - m) * (y - b - h) - (H - h) * (i - m)) + (m * H - h * W) * (i - m) := by unfold dT; grind
  have e2 : dT (a + m) (b + h) (a + W) (b + H) (a + i) y = (W - m) * (y - b - h) - (H - h) * (i - m) := by unfold dT; grind
  have e3 : dT (a + W) (b + H) a b (a + i) y = H * i - W * (y - b) := by unfold dT; grind
  have l1 : (H - h) * (i - m) / (W - m) < y - b - h ↔ (H - h) * (i - m) < (y - b - h) * (W - m) := Int.ediv_lt_iff_lt_mul hWm
  have l3 : -H * i / W < -(y - b) ↔ -H * i < -(y - b) * W := Int.ediv_lt_iff_lt_mul hW
  rw [inP_iff, e2, e3]
  constructor
  · rintro ⟨_, g2, g3⟩
    have := l1.2 (by grind)
    have := l3.2 (by grind)
    omega
  · rintro ⟨g1, g3⟩
    have k1 := l1.1 (by omega)
    have k3 := l3.1 (by omega)
    have k1' : 0 < (W - m) * (y - b - h) - (H - h) * (i - m) := by grind
    refine ⟨?_, k1', by grind⟩
    have p1 := Int.mul_nonneg hm (Int.le_of_lt k1')
    have p2 := Int.mul_pos hD (show 0 < i - m by omega)
    exact Int.pos_of_mul_pos_right (show 0 < (W - m) * _ by rw [e1]; omega) hWm

/-- At the middle corner. -/
theorem col_mid {a b m h W H y : Int} (hm : 0 < m) (hmW : m < W) : inP a b (a + m) (b + h) (a + W) (b + H) (a + m) y = true ↔ b + h + 1 ≤ y ∧ y < b + -(-H * m / W) := by
  have hW : 0 < W := by omega
  have e1 : dT a b (a + m) (b + h) (a + m) y = m * (y - b - h) := by unfold dT; grind
  have e2 : dT (a + m) (b + h) (a + W) (b + H) (a + m) y = (W - m) * (y - b - h) := by unfold dT; grind
  have e3 : dT (a + W) (b + H) a b (a + m) y = H * m - W * (y - b) := by unfold dT; grind
  have l3 : -H * m / W < -(y - b) ↔ -H * m < -(y - b) * W := Int.ediv_lt_iff_lt_mul hW
  rw [inP_iff, e1, e2, e3]
  constructor
  · rintro ⟨g1, _, g3⟩
    have := Int.pos_of_mul_pos_right g1 hm
    have := l3.2 (by grind)
    omega
  · rintro ⟨g1, g3⟩
    have k3 := l3.1 (by omega)
    exact ⟨Int.mul_pos hm (by omega), Int.mul_pos (by omega) (by omega), by grind⟩

theorem col_first {a b m h W H y : Int} (hm : 0 ≤ m) (hW : 0 < W) : inP a b (a + m) (b + h) (a + W) (b + H) a y = false := by
  have e1 : dT a b (a + m) (b + h) a y = m * (y - b) := by unfold dT; grind
  have e3 : dT (a + W) (b + H) a b a y = W * (b - y) := by unfold dT; grind
  cases hv : inP a b (a + m) (b + h) (a + W) (b + H) a y with
  | false => rfl
  | true =>
    obtain ⟨g1, _, g3⟩ := inP_iff.1 hv
    rw [e1] at g1
    rw [e3] at g3
    have := Int.pos_of_mul_pos_right g3 hW
    have := Int.mul_nonneg hm (show 0 ≤ b - y by omega)
    grind

theorem col_last {a b m h W H y : Int} (hm : m ≤ W) (hW : 0 < W) : inP a b (a + m) (b + h) (a + W) (b + H) (a + W) y = false := by
  have e2 : dT (a + m) (b + h) (a + W) (b + H) (a + W) y = (W - m) * (y - b - H) := by unfold dT; grind
  have e3 : dT (a + W) (b + H) a b (a + W) y = W * (H + b - y) := by unfold dT; grind
  cases hv : inP a b (a + m) (b + h) (a + W) (b + H) (a + W) y with
  | false => rfl
  | true =>
    obtain ⟨_, g2, g3⟩ := inP_iff.1 hv
    rw [e2] at g2
    rw [e3] at g3
    have := Int.pos_of_mul_pos_right g3 hW
    have := Int.mul_nonneg (show 0 ≤ W - m by omega) (show 0 ≤ H + b - y by omega)
    grind

/-- The whole part of the lower side. -/
def lowF (m h W H : Int) (i : Int) : Int := if i < m then h * i / m else if i = m then h else h + (H - h) * (i - m) / (W - m)

theorem lowF_lt {m h W H i : Int} (hm : 0 ≤ m) (hmW : m ≤ W) (hD : 0 < m * H - h * W) (h0 : 0 < i) (hiW : i < W) : lowF m h W H i < -(-H * i / W) := by
  have hW : 0 < W := by omega
  have u := Int.mul_ediv_add_emod (-H * i) W
  have u0 := Int.emod_nonneg (-H * i) (Int.ne_of_gt hW)
  generalize -H * i / W = q at *
  generalize -H * i % W = r at *
  unfold lowF
  split
  · rename_i hi
    have hmp : 0 < m := by omega
    have l := Int.mul_ediv_add_emod (h * i) m
    have l0 := Int.emod_nonneg (h * i) (Int.ne_of_gt hmp)
    generalize h * i / m = p at *
    generalize h * i % m = r1 at *
    have p1 := Int.mul_pos hD h0
    have p2 := Int.mul_nonneg (Int.le_of_lt hW) l0
    have p3 := Int.mul_nonneg hm u0
    have e : (W * m) * (-q - p) = (m * H - h * W) * i + W * r1 + m * r := by grind
    have : 0 < (W * m) * (-q - p) := by omega
    have := Int.pos_of_mul_pos_right this (Int.mul_pos hW hmp)
    omega
  · split
    · rename_i hi
      subst hi
      have p1 : 0 < W * (-q - h) := by grind
      have := Int.pos_of_mul_pos_right p1 hW
      omega
    · have hWm : 0 < W - m := by omega
      have l := Int.mul_ediv_add_emod ((H - h) * (i - m)) (W - m)
      have l0 := Int.emod_nonneg ((H - h) * (i - m)) (Int.ne_of_gt hWm)
      generalize (H - h) * (i - m) / (W - m) = p at *
      generalize (H - h) * (i - m) % (W - m) = r1 at *
      have p1 := Int.mul_pos hD (show 0 < W - i by omega)
      have p2 := Int.mul_nonneg (Int.le_of_lt hW) l0
      have p3 := Int.mul_nonneg (Int.le_of_lt hWm) u0
      have e : (W * (W - m)) * (-q - h - p) = (m * H - h * W) * (W - i) + W * r1 + (W - m) * r := by grind
      have : 0 < (W * (W - m)) * (-q - h - p) := by omega
      have := Int.pos_of_mul_pos_right this (Int.mul_pos hW hWm)
      omega

theorem lowF_ge {m h W H i y0 : Int} (hm : 0 ≤ m) (hmW : m ≤ W) (h0 : 0 < i) (hiW : i < W) (g1 : y0 ≤ 0) (g2 : y0 ≤ h) (g3 : y0 ≤ H) : y0 ≤ lowF m h W H i := by
  unfold lowF
  split
  · have := fl_ge (w := m) (h := h) (i := i) (by omega) (by omega) (by omega)
    rcases Int.le_total 0 h with g | g
    · have := this.1 g; omega
    · have := this.2 g; omega
  · split
    · exact g2
    · have := fl_ge (w := W - m) (h := H - h) (i := i - m) (by omega) (by omega) (by omega)
      rcases Int.le_total 0 (H - h) with g | g
      · have := this.1 g; omega
      · have := this.2 g; omega

theorem col_sum {a b m h W H i y0 : Int} {M : Nat} (hm : 0 ≤ m) (hmW : m ≤ W) (hD : 0 < m * H - h * W) (h0 : 0 < i) (hiW : i < W) (ya : y0 ≤ b) (yb : y0 ≤ b + h) (yc : y0 ≤ b + H) (za : b < y0 + M) (zc : b + H < y0 + M) :
    sumI (fun j => b2i (inP a b (a + m) (b + h) (a + W) (b + H) (a + i) (y0 + (j : Int)))) M = -(-H * i / W) - lowF m h W H i - 1 := by
  have hl := lowF_lt hm hmW hD h0 hiW
  have hg := lowF_ge (y0 := y0 - b) (h := h) (H := H) hm hmW h0 hiW (by omega) (by omega) (by omega)
  have hu : b + -(-H * i / W) ≤ y0 + M := by
    have := fl_ge (w := W) (h := -H) (i := i) (by omega) (by omega) (by omega)
    rcases Int.le_total 0 (-H) with g | g
    · have := this.1 g; omega
    · have := this.2 g; omega
  rw [stretch (q := fun y => inP a b (a + m) (b + h) (a + W) (b + H) (a + i) y) (al := b + lowF m h W H i + 1) (be := b + -(-H * i / W)) (by omega) (by omega) hu fun y => ?_]
  · omega
  · unfold lowF
    split
    · exact col_left (by omega) hmW hD (by omega)
    · split
      · rename_i hi
        subst hi
        rw [col_mid h0 hiW]
      · rw [col_right hm (by omega) hD (by omega)]
        constructor <;> intro hh <;> constructor <;> omega

theorem low_sum {W m : Nat} {h H : Int} (hmW : m ≤ W) (hW : 0 < W) (hD : 0 < m * H - h * W) :
    2 * sumI (fun i => lowF m h W H ((i + 1 : Nat) : Int)) (W - 1) = ((W : Int) - 1) * (H - 1) + gcdI m h + gcdI ((W : Int) - m) (H - h) - (m * H - h * W) - 1 := by
  by_cases h0 : m = 0
  · subst h0
    have e : sumI (fun i => lowF ((0 : Nat) : Int) h W H ((i + 1 : Nat) : Int)) (W - 1) = sumI (fun i => h + ((H - h) * ((i + 1 : Nat) : Int)) / W) (W - 1) := sumI_congr _ fun i hi => by
      unfold lowF
      rw [if_neg (by omega), if_neg (by omega)]
      simp
    rw [e, sumI_add, sumI_const]
    have f : 2 * sumI (fun i => ((H - h) * ((i + 1 : Nat) : Int)) / W) (W - 1) = _ := flS_eq hW (H - h)
    have eW : ((W - 1 : Nat) : Int) = W - 1 := by omega
    have hh : h < 0 := by
      have : 0 < (W : Int) * -h := by grind
      have := Int.pos_of_mul_pos_right this (by omega)
      omega
    have eg : gcdI ((0 : Nat) : Int) h = -h := by unfold gcdI; rw [Int.natCast_zero, Int.gcd_zero_left]; omega
    rw [eW, eg]
    simp only [Int.natCast_zero, Int.sub_zero]
    grind
  · by_cases h1 : m = W
    · subst h1
      have e : sumI (fun i => lowF m h m H ((i + 1 : Nat) : Int)) (m - 1) = flS m h := sumI_congr _ fun i hi => by
        unfold lowF
        rw [if_pos (by omega)]
      have f := flS_eq hW h
      have hh : 0 < H - h := by
        have : 0 < (m : Int) * (H - h) := by grind
        exact Int.pos_of_mul_pos_right this (by omega)
      have eg : gcdI ((m : Int) - m) (H - h) = H - h := by unfold gcdI; rw [Int.sub_self, Int.gcd_zero_left]; omega
      rw [e, eg]
      grind
    · obtain ⟨n, rfl⟩ : ∃ n, W = m + 1 + n := ⟨W - (m + 1), by omega⟩
      have e0 : m + 1 + n - 1 = (m - 1) + (1 + n) := by omega
      have s1 : sumI (fun i => lowF m h ((m + 1 + n : Nat) : Int) H ((i + 1 : Nat) : Int)) (m - 1) = flS m h := sumI_congr _ fun i hi => by
        unfold lowF
        rw [if_pos (by omega)]
      have s3 : sumI (fun i => lowF m h ((m + 1 + n : Nat) : Int) H ((m - 1 + (1 + i) + 1 : Nat) : Int)) n = sumI (fun i => h + ((H - h) * ((i + 1 : Nat) : Int)) / ((n + 1 : Nat) : Int)) n := sumI_congr _ fun i hi => by
        unfold lowF
        rw [if_neg (by omega), if_neg (by omega)]
        rw [show ((m - 1 + (1 + i) + 1 : Nat) : Int) - m = ((i + 1 : Nat) : Int) by omega, show ((m + 1 + n : Nat) : Int) - m = ((n + 1 : Nat) : Int) by omega]
      have s2 : lowF m h ((m + 1 + n : Nat) : Int) H ((m - 1 + 0 + 1 : Nat) : Int) = h := by
        unfold lowF
        rw [if_neg (by omega), if_pos (by omega)]
      have f1 := flS_eq (w := m) (by omega) h
      have f2 : 2 * sumI (fun i => ((H - h) * ((i + 1 : Nat) : Int)) / ((n + 1 : Nat) : Int)) n = _ := flS_eq (w := n + 1) (by omega) (H - h)
      rw [e0, sumI_split, sumI_split, s1]
      simp only [sumI, s2, s3]
      rw [sumI_add, sumI_const]
      rw [show ((m + 1 + n : Nat) : Int) - m = ((n + 1 : Nat) : Int) by omega]
      have e5 : ((m + 1 + n : Nat) : Int) = m + 1 + n := by omega
      have e6 : ((n + 1 : Nat) : Int) = n + 1 := by omega
      rw [e6] at f2 ⊢
      rw [e5]
      grind

theorem gcdI_neg2 (a b : Int) : gcdI (-a) (-b) = gcdI a b := by unfold gcdI; rw [Int.gcd_neg, Int.neg_gcd]

theorem gcdI_negr (a b : Int) : gcdI a (-b) = gcdI a b := by unfold gcdI; rw [Int.gcd_neg]

theorem cnt2_congr {p q : Int → Int → Bool} (h : ∀ x y, p x y = q x y) (x0 : Int) (n : Nat) (y0 : Int) (M : Nat) : cnt2 p x0 n y0 M = cnt2 q x0 n y0 M := by
  rw [show p = q from funext fun x => funext fun y => h x y]

theorem cnt2_rev (p : Int → Int → Bool) (x0 : Int) (n : Nat) (y0 : Int) (M : Nat) : cnt2 p x0 n y0 M = cnt2 (fun x y => p (-x) (-y)) (-(x0 + n - 1)) n (-(y0 + M - 1)) M := by
  unfold cnt2
  rw [sumI_rev n]
  refine sumI_congr n fun i hi => ?_
  rw [sumI_rev M]
  refine sumI_congr M fun j hj => ?_
  rw [show x0 + ((n - 1 - i : Nat) : Int) = -(-(x0 + n - 1) + i) by omega, show y0 + ((M - 1 - j : Nat) : Int) = -(-(y0 + M - 1) + j) by omega]

theorem pick_ord {a b c d e f y0 : Int} {n M : Nat} (hD : 0 < dT a b c d e f) (h1 : a ≤ c) (h2 : c ≤ e) (hn : a + n = e + 1) (y1 : y0 ≤ b) (y2 : y0 ≤ d) (y3 : y0 ≤ f) (z1 : b < y0 + M) (z2 : f < y0 + M) :
    2 * cnt2 (inP a b c d e f) a n y0 M = dT a b c d e f - (gcdI (c - a) (d - b) + gcdI (e - c) (f - d) + gcdI (a - e) (b - f)) + 2 := by
  have hne : a ≠ e := by
    intro he
    have hc : c = a := by omega
    subst he
    subst hc
    unfold dT at hD
    grind
  obtain ⟨m, hm⟩ : ∃ m : Nat, c = a + m := ⟨(c - a).toNat, by omega⟩
  obtain ⟨W, hW⟩ : ∃ W : Nat, e = a + W := ⟨(e - a).toNat, by omega⟩
  obtain ⟨h, hh⟩ : ∃ h, d = b + h := ⟨d - b, by omega⟩
  obtain ⟨H, hH⟩ : ∃ H, f = b + H := ⟨f - b, by omega⟩
  subst hm hW hh hH
  have hn' : n = W - 1 + 1 + 1 := by omega
  have hDD : dT a b (a + m) (b + h) (a + W) (b + H) = m * H - h * W := by unfold dT; grind
  rw [hDD] at hD ⊢
  have ls := low_sum (W := W) (m := m) (by omega) (by omega) hD
  have fs := flS_eq (w := W) (by omega) (-H)
  have e0 : sumI (fun j => b2i (inP a b (a + m) (b + h) (a + W) (b + H) (a + ((0 : Nat) : Int)) (y0 + (j : Int)))) M = 0 := sumI_zero M fun j _ => by
    rw [show a + ((0 : Nat) : Int) = a by omega, col_first (by omega) (by omega)]
    rfl
  have eW : sumI (fun j => b2i (inP a b (a + m) (b + h) (a + W) (b + H) (a + ((W - 1 + 1 : Nat) : Int)) (y0 + (j : Int)))) M = 0 := sumI_zero M fun j _ => by
    rw [show a + ((W - 1 + 1 : Nat) : Int) = a + W by omega, col_last (by omega) (by omega)]
    rfl
  have em : sumI (fun i => sumI (fun j => b2i (inP a b (a + m) (b + h) (a + W) (b + H) (a + ((i + 1 : Nat) : Int)) (y0 + (j : Int)))) M) (W - 1) = sumI (fun i => -1 * ((-H * ((i + 1 : Nat) : Int) / W) + lowF m h W H ((i + 1 : Nat) : Int) + 1)) (W - 1) := sumI_congr _ fun i hi => by
    rw [col_sum (by omega) (by omega) hD (by omega) (by omega) y1 y2 y3 z1 z2]
    omega
  unfold cnt2
  rw [hn', sumI, eW, sumI_front, e0, em, sumI_mul, sumI_add, sumI_add, sumI_const]
  have e1 : sumI (fun i => -H * ((i + 1 : Nat) : Int) / W) (W - 1) = flS W (-H) := rfl
  rw [e1]
  rw [show a + (m : Int) - a = m by omega, show b + h - b = h by omega, show a + (W : Int) - (a + m) = W - m by omega, show b + H - (b + h) = H - h by omega, show a - (a + (W : Int)) = -W by omega, show b - (b + H) = -H by omega, gcdI_neg2]
  rw [gcdI_negr] at fs
  have ew : ((W - 1 : Nat) : Int) = W - 1 := by omega
  rw [ew]
  grind

theorem pick_base {a b c d e f y0 : Int} {n M : Nat} (hD : 0 < dT a b c d e f) (h1 : a ≤ c) (h2 : a ≤ e) (hn : a + n = max c e + 1) (y1 : y0 ≤ b) (y2 : y0 ≤ d) (y3 : y0 ≤ f) (z1 : b < y0 + M) (z2 : d < y0 + M) (z3 : f < y0 + M) :
    2 * cnt2 (inP a b c d e f) a n y0 M = dT a b c d e f - (gcdI (c - a) (d - b) + gcdI (e - c) (f - d) + gcdI (a - e) (b - f)) + 2 := by
  rcases Int.le_total c e with g | g
  · exact pick_ord hD h1 g (by omega) y1 y2 y3 z1 z3
  · have hp : ∀ x y, inP a b c d e f (-x) (-y) = inP (-c) (-d) (-e) (-f) (-a) (-b) x y := fun x y => by
      have e1 : dT a b c d (-x) (-y) = dT (-a) (-b) (-c) (-d) x y := by unfold dT; grind
      have e2 : dT c d e f (-x) (-y) = dT (-c) (-d) (-e) (-f) x y := by unfold dT; grind
      have e3 : dT e f a b (-x) (-y) = dT (-e) (-f) (-a) (-b) x y := by unfold dT; grind
      unfold inP
      rw [e1, e2, e3]
      generalize decide (0 < dT (-a) (-b) (-c) (-d) x y) = u
      generalize decide (0 < dT (-c) (-d) (-e) (-f) x y) = v
      generalize decide (0 < dT (-e) (-f) (-a) (-b) x y) = w
      revert u v w
      decide
    have hd : dT (-c) (-d) (-e) (-f) (-a) (-b) = dT a b c d e f := by unfold dT; grind
    rw [cnt2_rev, cnt2_congr hp, show -(a + (n : Int) - 1) = -c by omega]
    rw [pick_ord (by rw [hd]; exact hD) (by omega) (by omega) (by omega) (by omega) (by omega) (by omega) (by omega) (by omega), hd]
    rw [show -e - -c = -(e - c) by omega, show -f - -d = -(f - d) by omega, show -a - -e = -(a - e) by omega, show -b - -f = -(b - f) by omega, show -c - -a = -(c - a) by omega, show -d - -b = -(d - b) by omega, gcdI_neg2, gcdI_neg2, gcdI_neg2]
    omega

theorem inP_rot (a b c d e f x y : Int) : inP a b c d e f x y = inP c d e f a b x y := by
  unfold inP
  generalize decide (0 < dT a b c d x y) = u
  generalize decide (0 < dT c d e f x y) = v
  generalize decide (0 < dT e f a b x y) = w
  revert u v w
  decide

theorem dT_rot (a b c d e f : Int) : dT c d e f a b = dT a b c d e f := by unfold dT; grind

theorem pick_pos {a b c d e f x0 y0 : Int} {n M : Nat} (hD : 0 < dT a b c d e f) (hx : x0 = min (min a c) e) (hn : x0 + n = max (max a c) e + 1) (y1 : y0 ≤ b) (y2 : y0 ≤ d) (y3 : y0 ≤ f) (z1 : b < y0 + M) (z2 : d < y0 + M) (z3 : f < y0 + M) :
    2 * cnt2 (inP a b c d e f) x0 n y0 M = dT a b c d e f - (gcdI (c - a) (d - b) + gcdI (e - c) (f - d) + gcdI (a - e) (b - f)) + 2 := by
  have hD2 : 0 < dT c d e f a b := by rw [dT_rot]; exact hD
  have hD3 : 0 < dT e f a b c d := by rw [dT_rot]; exact hD2
  by_cases h1 : a ≤ c ∧ a ≤ e
  · have : x0 = a := by omega
    rw [this]
    exact pick_base hD h1.1 h1.2 (by omega) y1 y2 y3 z1 z2 z3
  · by_cases h2 : c ≤ e ∧ c ≤ a
    · have : x0 = c := by omega
      rw [this, cnt2_congr (inP_rot a b c d e f), pick_base hD2 h2.1 h2.2 (by omega) y2 y3 y1 z2 z3 z1, dT_rot]
      omega
    · have : x0 = e := by omega
      rw [this, cnt2_congr (inP_rot a b c d e f), cnt2_congr (inP_rot c d e f a b), pick_base hD3 (by omega) (by omega) (by omega) y3 y1 y2 z3 z1 z2, dT_rot, dT_rot]
      omega

/-- The points of any triangle. -/
theorem pick_tri {a b c d e f x0 y0 : Int} {n M : Nat} (hD : dT a b c d e f ≠ 0) (hx : x0 = min (min a c) e) (hn : x0 + n = max (max a c) e + 1) (y1 : y0 ≤ b) (y2 : y0 ≤ d) (y3 : y0 ≤ f) (z1 : b < y0 + M) (z2 : d < y0 + M) (z3 : f < y0 + M) :
    2 * cnt2 (inTB a b c d e f) x0 n y0 M = areaT a b c d e f - (gcdI (c - a) (d - b) + gcdI (e - c) (f - d) + gcdI (a - e) (b - f)) + 2 := by
  have hA : areaT a b c d e f = max (dT a b c d e f) (-(dT a b c d e f)) := rfl
  by_cases hs : dT a b c d e f < 0
  · have hp : ∀ x y, inTB a b c d e f x y = inP c d a b e f x y := fun x y => by
      have e0 : turnT a b c d e f = -1 := if_pos hs
      have e1 : -1 * dT a b c d x y = dT c d a b x y := by unfold dT; grind
      have e2 : -1 * dT c d e f x y = dT e f c d x y := by unfold dT; grind
      have e3 : -1 * dT e f a b x y = dT a b e f x y := by unfold dT; grind
      unfold inTB inP
      rw [e0, e1, e2, e3]
      generalize decide (0 < dT c d a b x y) = u
      generalize decide (0 < dT e f c d x y) = v
      generalize decide (0 < dT a b e f x y) = w
      revert u v w
      decide
    have ed : dT c d a b e f = -(dT a b c d e f) := by unfold dT; grind
    rw [cnt2_congr hp, pick_pos (by omega) (by omega) (by omega) y2 y1 y3 z2 z1 z3, ed, hA]
    rw [show a - c = -(c - a) by omega, show b - d = -(d - b) by omega, show e - a = -(a - e) by omega, show f - b = -(b - f) by omega, show c - e = -(e - c) by omega, show d - f = -(f - d) by omega, gcdI_neg2, gcdI_neg2, gcdI_neg2]
    omega
  · have hp : ∀ x y, inTB a b c d e f x y = inP a b c d e f x y := fun x y => by
      have e0 : turnT a b c d e f = 1 := if_neg hs
      unfold inTB inP
      rw [e0, Int.one_mul, Int.one_mul, Int.one_mul]
    rw [cnt2_congr hp, pick_pos (by omega) hx hn y1 y2 y3 z1 z2 z3, hA]
    omega

theorem rowT_cnt (p : Int → Bool) (x : Int) : ∀ (m : Nat) (y : Int) (out : List (Int × Int)), ((rowT p x m y out).length : Int) = out.length + sumI (fun j => b2i (p (y + (j : Int)))) m
  | 0, _, out => by simp [rowT, sumI]
  | m + 1, y, out => by
    rw [rowT, rowT_cnt p x m, sumI_front]
    have : sumI (fun i => b2i (p (y + ((i + 1 : Nat) : Int)))) m = sumI (fun j => b2i (p (y + 1 + (j : Int)))) m := sumI_congr m fun i _ => by rw [show y + ((i + 1 : Nat) : Int) = y + 1 + i by omega]
    rw [this, show y + ((0 : Nat) : Int) = y by omega]
    cases p y <;> simp [b2i] <;> omega

theorem gridT_cnt (p : Int → Int → Bool) (lo : Int) (M : Nat) : ∀ (n : Nat) (x : Int) (out : List (Int × Int)), ((gridT p lo M n x out).length : Int) = out.length + cnt2 p x n lo M
  | 0, _, out => by simp [gridT, cnt2, sumI]
  | n + 1, x, out => by
    rw [gridT, gridT_cnt p lo M n, rowT_cnt]
    unfold cnt2
    rw [sumI_front]
    have : sumI (fun i => sumI (fun j => b2i (p (x + ((i + 1 : Nat) : Int)) (lo + (j : Int)))) M) n = sumI (fun i => sumI (fun j => b2i (p (x + 1 + (i : Int)) (lo + (j : Int)))) M) n := sumI_congr n fun i _ => by rw [show x + ((i + 1 : Nat) : Int) = x + 1 + i by omega]
    rw [this, show x + ((0 : Nat) : Int) = x by omega]
    omega

theorem isT_eq (k : Nat) {a b c d e f : Int} (h : IsT a b c d e f) : (∀ r : Bool → Option α, spec_l04Is k a b c d e f r = r true) ∧ ∀ r : Bool → Option α, impl_IsTriangle k a b c d e f r = r true := by
  have hne := h.ne
  have h2 : max ((c - a) * (f - b) - (d - b) * (e - a)) (-((c - a) * (f - b) - (d - b) * (e - a))) ≠ 0 := by omega
  simp only [spec_l04Is, impl_IsTriangle, spec_l01In_eq, impl_small, impl_in_eq, inB_T.2 h.a, inB_T.2 h.b, inB_T.2 h.c, inB_T.2 h.d, inB_T.2 h.e, inB_T.2 h.f, Bool.not_true, cond_false, cond_true, spec_area_eq k h.a h.b h.c h.d h.e h.f, impl_area_eq k h.a h.b h.c h.d h.e h.f]
  exact ⟨fun r => by simp [h2], fun r => by simp [h2]⟩

def bndT (a b c d e f : Int) : Int := gcdI (c - a) (d - b) + gcdI (e - c) (f - d) + gcdI (a - e) (b - f)

theorem IsT.six {a b c d e f : Int} (h : IsT a b c d e f) : InT6 a b c d e f := ⟨h.a, h.b, h.c, h.d, h.e, h.f⟩

theorem areaT_b {a b c d e f : Int} (h : IsT a b c d e f) : 0 < areaT a b c d e f ∧ areaT a b c d e f ≤ 8000000 := by
  have m1 := mul_bound (h.c.sub2 h.a).1 (h.c.sub2 h.a).2 (h.f.sub2 h.b).1 (h.f.sub2 h.b).2
  have m2 := mul_bound (h.d.sub2 h.b).1 (h.d.sub2 h.b).2 (h.e.sub2 h.a).1 (h.e.sub2 h.a).2
  have hne := h.ne
  unfold areaT
  omega

theorem bndT_b {a b c d e f : Int} (h : IsT a b c d e f) : 0 ≤ bndT a b c d e f ∧ bndT a b c d e f ≤ 6000 ∧ w64 (w64 (gcdI (c - a) (d - b) + gcdI (e - c) (f - d)) + gcdI (a - e) (b - f)) = bndT a b c d e f := by
  have g1 := gcdI_le (h.c.sub2 h.a).1 (h.c.sub2 h.a).2 (h.d.sub2 h.b).1 (h.d.sub2 h.b).2
  have g2 := gcdI_le (h.e.sub2 h.c).1 (h.e.sub2 h.c).2 (h.f.sub2 h.d).1 (h.f.sub2 h.d).2
  have g3 := gcdI_le (h.a.sub2 h.e).1 (h.a.sub2 h.e).2 (h.b.sub2 h.f).1 (h.b.sub2 h.f).2
  rw [w64_of (n := gcdI (c - a) (d - b) + gcdI (e - c) (f - d)) (by omega) (by omega), w64_of (by omega) (by omega)]
  unfold bndT
  omega

/-- The box of a triangle's points holds as many inner points as it is told. -/
theorem inner_pick {a b c d e f : Int} (h : IsT a b c d e f) {n M : Nat} (hn : min (min a c) e + n = max (max a c) e + 1) (hM : min (min b d) f + M = max (max b d) f + 1) :
    innerT a b c d e f = cnt2 (inTB a b c d e f) (min (min a c) e) n (min (min b d) f) M ∧ 2 * innerT a b c d e f + bndT a b c d e f - 2 = areaT a b c d e f ∧ 0 ≤ innerT a b c d e f ∧ innerT a b c d e f ≤ 8000000 := by
  have hp := pick_tri (x0 := min (min a c) e) (y0 := min (min b d) f) (M := M) h.ne rfl hn (by omega) (by omega) (by omega) (by omega) (by omega) (by omega)
  have hb := bndT_b h
  have ha := areaT_b h
  have hg := gridT_cnt (inTB a b c d e f) (min (min b d) f) M n (min (min a c) e) []
  change _ = _ - bndT a b c d e f + 2 at hp
  generalize cnt2 (inTB a b c d e f) (min (min a c) e) n (min (min b d) f) M = N at *
  simp only [List.length_nil] at hg
  unfold innerT
  rw [hb.2.2, w64_of (n := areaT a b c d e f - bndT a b c d e f) (by omega) (by omega), show areaT a b c d e f - bndT a b c d e f = 2 * (N - 1) by omega, Int.mul_tdiv_cancel_left _ (by decide), w64_of (n := N - 1) (by omega) (by omega), w64_of (by omega) (by omega)]
  omega

theorem inner_sum {a b c d e f : Int} (h : IsT a b c d e f) : 2 * innerT a b c d e f + bndT a b c d e f - 2 = areaT a b c d e f ∧ 0 ≤ innerT a b c d e f ∧ innerT a b c d e f ≤ 8000000 := by
  obtain ⟨M, hM⟩ : ∃ M : Nat, min (min b d) f + M = max (max b d) f + 1 := ⟨(max (max b d) f + 1 - min (min b d) f).toNat, by omega⟩
  obtain ⟨n, hn⟩ : ∃ n : Nat, min (min a c) e + n = max (max a c) e + 1 := ⟨(max (max a c) e + 1 - min (min a c) e).toNat, by omega⟩
  exact (inner_pick h hn hM).2

/-- Both answer alike, and the list is as long as it is told. -/
theorem inner_points2 (k : Nat) (hk : 1000000000 < k) (a b c d e f : Int) : ∃ z l, (z ≠ 0 → l = []) ∧ (z = 0 → IsT a b c d e f ∧ (l.length : Int) = innerT a b c d e f) ∧ l.length ≤ 7000000 ∧
    (∀ K : Int → List (Int × Int) → Option α, spec_InnerPoints k a b c d e f (fun v => K v []) (fun l v => K v l) = K z l) ∧ ∀ K : Int → List (Int × Int) → Option α, impl_InnerPoints k a b c d e f (fun v => K v []) (fun l v => K v l) = K z l := by
  rcases tri_cases (α := α) k a b c d e f with ⟨h1, h2⟩ | ⟨h, h1, h2⟩
  · exact ⟨1, [], fun _ => rfl, fun h => absurd h (by decide), by simp, fun K => by simp [spec_InnerPoints, h1], fun K => by simp [impl_InnerPoints, h2]⟩
  · have h6 := h.six
    rcases ilt_or_ge 1000 (innerT a b c d e f) with hi | hi
    · exact ⟨3, [], fun _ => rfl, fun h => absurd h (by decide), by simp, fun K => by simp only [spec_InnerPoints, h1, spec_inner_eq k hk h6, dec_lt_t hi]; rfl, fun K => by simp only [impl_InnerPoints, h2, impl_inner_eq k hk h6, dec_lt_t hi]; rfl⟩
    · have ha := h.a
      have hb := h.b
      have hc := h.c
      have hd := h.d
      have he := h.e
      have hf := h.f
      unfold inT at ha hb hc hd he hf
      have hlo : -1000 ≤ min (min b d) f := by omega
      have hhi : max (max b d) f ≤ 1000 := by omega
      have hhg : max (max a c) e ≤ 1000 := by omega
      have hxl : -1000 ≤ min (min a c) e := by omega
      obtain ⟨M, hM⟩ : ∃ M : Nat, min (min b d) f + M = max (max b d) f + 1 := ⟨(max (max b d) f + 1 - min (min b d) f).toNat, by omega⟩
      obtain ⟨n, hn⟩ : ∃ n : Nat, min (min a c) e + n = max (max a c) e + 1 := ⟨(max (max a c) e + 1 - min (min a c) e).toNat, by omega⟩
      have hM2 : M ≤ 2001 := by omega
      have hn2 : n ≤ 2001 := by omega
      have hnm : n * M ≤ 2001 * 2001 := Nat.mul_le_mul hn2 hM2
      have hlen := gridT_len (inTB a b c d e f) (min (min b d) f) M n (min (min a c) e) []
      have hcnt := gridT_cnt (inTB a b c d e f) (min (min b d) f) M n (min (min a c) e) []
      simp only [List.length_nil, Nat.zero_add] at hlen hcnt
      refine ⟨0, gridT (inTB a b c d e f) (min (min b d) f) M n (min (min a c) e) [], fun h => absurd rfl h, fun _ => ⟨h, ?_⟩, by omega, fun K => ?_, fun K => ?_⟩
      · rw [hcnt, (inner_pick h hn hM).1]
        omega
      · simp only [spec_InnerPoints, h1, spec_inner_eq k hk h6, dec_lt_f hi, Bool.not_true, cond_false, spec_side0, spec_piece k h.a h.b h.c h.d h.e h.f]
        have hl := fun b0 => spec_l12 (α := α) h6 hlo hhi hhg M hM hM2 n k (min (min a c) e) [] b0 (fun v => K v []) (fun l v => K v l) hxl hn (by simp; omega) (by omega)
        rcases ilt_or_ge (dT a b c d e f) 0 with hs | hs
        · have et : turnT a b c d e f = -1 := by unfold turnT; rw [if_pos hs]
          rw [et] at hl
          rw [dec_lt_t hs, cond_true, hl]
        · have et : turnT a b c d e f = 1 := by unfold turnT; rw [if_neg (by omega)]
          rw [et] at hl
          rw [dec_lt_f hs, cond_false, hl]
      · simp only [impl_InnerPoints, h2, impl_inner_eq k hk h6, dec_lt_f hi, Bool.not_true, cond_false]
        rw [impl_l8 (α := α) h6 rfl hlo hhi hhg M hM hM2 n k (min (min a c) e) [] _ (fun v => K v []) (fun l v => K v l) hxl hn (by simp; omega) (by omega)]

theorem isTri_both (k : Nat) (a b c d e f : Int) : ∃ t, (∀ r : Bool → Option α, spec_IsTriangle k a b c d e f r = r t) ∧ ∀ r : Bool → Option α, impl_IsTriangle k a b c d e f r = r t := by
  rcases tri_cases (α := α) k a b c d e f with ⟨h1, h2⟩ | ⟨_, h1, h2⟩
  · exact ⟨false, fun r => by simp only [spec_IsTriangle, h1], h2⟩
  · exact ⟨true, fun r => by simp only [spec_IsTriangle, h1], h2⟩

theorem impl_areaTri (k : Nat) {a b c d e f : Int} (h : IsT a b c d e f) (r : Int → Int → Option α) : impl_AreaOfTriangle k a b c d e f r = r (areaT a b c d e f) 0 := by
  simp only [impl_AreaOfTriangle, impl_ofTriangle_1F_impl_Triangle_area, (isT_eq k h).2, Bool.not_true, cond_false, impl_Triangle_area, impl_area_eq k h.a h.b h.c h.d h.e h.f]
  rfl

theorem impl_countInner (k : Nat) (hk : 1000000000 < k) {a b c d e f : Int} (h : IsT a b c d e f) (r : Int → Int → Option α) : impl_CountInner k a b c d e f r = r (innerT a b c d e f) 0 := by
  simp only [impl_CountInner, impl_ofTriangle_1F_impl_Triangle_inner, (isT_eq k h).2, Bool.not_true, cond_false, impl_inner_eq k hk h.six]

/-- The three numbers of a triangle. -/
theorem three_both (k : Nat) (hk : 1000000000 < k) (a b c d e f : Int) : ∃ count area bnd z, (z = 0 → w64 (w64 (w64 (2 * count) + bnd) - 2) = area) ∧
    ((∀ r : Int → Int → Option α, impl_CountInner k a b c d e f r = r count z) ∧ (∀ r : Int → Int → Option α, spec_CountInner k a b c d e f r = r count z)) ∧
    ((∀ r : Int → Int → Option α, impl_AreaOfTriangle k a b c d e f r = r area z) ∧ (∀ r : Int → Int → Option α, spec_AreaOfTriangle k a b c d e f r = r area z)) ∧
    ((∀ r : Int → Int → Option α, impl_BoundaryOf k a b c d e f r = r bnd z) ∧ (∀ r : Int → Int → Option α, spec_BoundaryOf k a b c d e f r = r bnd z)) := by
  rcases tri_cases (α := α) k a b c d e f with ⟨h1, h2⟩ | ⟨h, h1, h2⟩
  · refine ⟨0, 0, 0, 1, fun h => absurd h (by decide), ⟨fun r => ?_, fun r => ?_⟩, ⟨fun r => ?_, fun r => ?_⟩, ⟨fun r => ?_, fun r => ?_⟩⟩
    · simp [impl_CountInner, impl_ofTriangle_1F_impl_Triangle_inner, h2]
    · simp [spec_CountInner, h1]
    · simp [impl_AreaOfTriangle, impl_ofTriangle_1F_impl_Triangle_area, h2]
    · simp [spec_AreaOfTriangle, h1]
    · simp [impl_BoundaryOf, impl_ofTriangle_1F_impl_Triangle_boundary, h2]
    · simp [spec_BoundaryOf, h1]
  · have hs := inner_sum h
    have hb := bndT_b h
    have ha := areaT_b h
    refine ⟨innerT a b c d e f, areaT a b c d e f, bndT a b c d e f, 0, fun _ => ?_, ⟨fun r => impl_countInner k hk h r, fun r => ?_⟩, ⟨fun r => impl_areaTri k h r, fun r => ?_⟩, ⟨fun r => ?_, fun r => ?_⟩⟩
    · rw [w64_of (n := 2 * innerT a b c d e f) (by omega) (by omega), w64_of (n := 2 * innerT a b c d e f + bndT a b c d e f) (by omega) (by omega), w64_of (by omega) (by omega)]
      omega
    · simp only [spec_CountInner, h1, Bool.not_true, cond_false, spec_inner_eq k hk h.six]
    · simp only [spec_AreaOfTriangle, h1, Bool.not_true, cond_false, spec_l04Area, spec_area_eq k h.a h.b h.c h.d h.e h.f]
      rfl
    · simp only [impl_BoundaryOf, impl_ofTriangle_1F_impl_Triangle_boundary, h2, Bool.not_true, cond_false, impl_Triangle_boundary, impl_side01, impl_side12, impl_side20, impl_less_eq k _ _ _ _ _ h.c.wide h.d.wide h.a.wide h.b.wide, impl_less_eq k _ _ _ _ _ h.e.wide h.f.wide h.c.wide h.d.wide, impl_less_eq k _ _ _ _ _ h.a.wide h.b.wide h.e.wide h.f.wide,
        impl_length_eq k hk (h.c.sub2 h.a) (h.d.sub2 h.b), impl_length_eq k hk (h.e.sub2 h.c) (h.f.sub2 h.d), impl_length_eq k hk (h.a.sub2 h.e) (h.b.sub2 h.f), hb.2.2]
    · simp only [spec_BoundaryOf, h1, Bool.not_true, cond_false, spec_l04Boundary, spec_length_eq k hk h.a h.b h.c h.d, spec_length_eq k hk h.c h.d h.e h.f, spec_length_eq k hk h.e h.f h.a h.b, hb.2.2]

theorem in02 {i : Int} (h : inB i 0 2 = true) : i = 0 ∨ i = 1 ∨ i = 2 := by
  have := inB_iff.1 h
  omega

theorem cornerAt_both (k : Nat) (hk : 1000000000 < k) (a b c d e f i : Int) : ∃ p q u v z, (∀ r : Int → Int → Int → Int → Int → Option α, impl_CornerAt k a b c d e f i r = r p q u v z) ∧ ∀ r : Int → Int → Int → Int → Int → Option α, spec_CornerAt k a b c d e f i r = r p q u v z := by
  simp only [impl_CornerAt, spec_CornerAt, impl_in_eq, spec_l01In_eq]
  rcases tri_cases (α := α) k a b c d e f with ⟨h1, h2⟩ | ⟨h, h1, h2⟩
  · exact ⟨0, 0, 0, 0, 1, fun r => by simp [h2], fun r => by simp [h1]⟩
  · cases hi : inB i 0 2 with
    | false => exact ⟨0, 0, 0, 0, 2, fun r => by simp [h2], fun r => by simp [h1]⟩
    | true =>
      simp only [h1, h2, Bool.not_true, cond_false]
      rcases in02 hi with rfl | rfl | rfl
      · exact ⟨_, _, _, _, 0, fun r => (impl_corner_eq k hk h fun p q u v => r p q u v 0).1, fun r => (spec_corner_eq k hk h fun p q u v => r p q u v 0).1⟩
      · exact ⟨_, _, _, _, 0, fun r => (impl_corner_eq k hk h.rot fun p q u v => r p q u v 0).2.1, fun r => (spec_corner_eq k hk h.rot fun p q u v => r p q u v 0).2.1⟩
      · exact ⟨_, _, _, _, 0, fun r => (impl_corner_eq k hk h.rot.rot fun p q u v => r p q u v 0).2.2, fun r => (spec_corner_eq k hk h.rot.rot fun p q u v => r p q u v 0).2.2⟩

theorem areaT_mul (a b c d e f n : Int) : areaT (n * a) (n * b) (n * c) (n * d) (n * e) (n * f) = areaT a b c d e f * n * n := by
  have e1 : (n * c - n * a) * (n * f - n * b) - (n * d - n * b) * (n * e - n * a) = n * n * ((c - a) * (f - b) - (d - b) * (e - a)) := by grind
  unfold areaT
  rw [e1]
  generalize (c - a) * (f - b) - (d - b) * (e - a) = D
  have hn : 0 ≤ n * n := by
    rcases Int.le_total 0 n with h | h
    · exact Int.mul_nonneg h h
    · have := Int.mul_nonneg (show 0 ≤ -n by omega) (show 0 ≤ -n by omega)
      grind
  rcases Int.le_total 0 D with h | h
  · have := Int.mul_nonneg hn h
    rw [Int.max_eq_left (by omega), Int.max_eq_left (by omega)]
    grind
  · have := Int.mul_nonneg hn (show 0 ≤ -D by omega)
    rw [Int.max_eq_right (by grind), Int.max_eq_right (by omega)]
    grind

theorem mul_w {a n : Int} (h : inT a) (hn : 1 ≤ n ∧ n ≤ 1000) : w64 (n * a) = n * a ∧ w64 (0 + n * a) = n * a := by
  have := mul_bound (A := 1000) (B := 1000) (show -1000 ≤ n by omega) hn.2 h.1 h.2
  have e : w64 (n * a) = n * a := w64_of (by omega) (by omega)
  rw [Int.zero_add, e]
  exact ⟨rfl, rfl⟩

theorem multiple_both (k : Nat) (a b c d e f n : Int) : ∃ a' b' c' d' e' f' z, (z = 0 → IsT a b c d e f ∧ IsT a' b' c' d' e' f' ∧ w64 (w64 (areaT a b c d e f * n) * n) = areaT a' b' c' d' e' f') ∧
    (∀ r : Int → Int → Int → Int → Int → Int → Int → Option α, impl_MultipleOf k a b c d e f n r = r a' b' c' d' e' f' z) ∧ ∀ r : Int → Int → Int → Int → Int → Int → Int → Option α, spec_MultipleOf k a b c d e f n r = r a' b' c' d' e' f' z := by
  simp only [impl_MultipleOf, spec_MultipleOf, impl_in_eq, spec_l01In_eq]
  rcases tri_cases (α := α) k a b c d e f with ⟨h1, h2⟩ | ⟨h, h1, h2⟩
  · exact ⟨0, 0, 0, 0, 0, 0, 1, fun h => absurd h (by decide), fun r => by simp [h2], fun r => by simp [h1]⟩
  · cases hi : inB n 1 1000 with
    | false => exact ⟨0, 0, 0, 0, 0, 0, 2, fun h => absurd h (by decide), fun r => by simp [h2], fun r => by simp [h1]⟩
    | true =>
      have hn := inB_iff.1 hi
      simp only [h1, h2, Bool.not_true, cond_false, impl_Point_plus, mul_w h.a hn, mul_w h.b hn, mul_w h.c hn, mul_w h.d hn, mul_w h.e hn, mul_w h.f hn]
      rcases tri_cases (α := α) k (n * a) (n * b) (n * c) (n * d) (n * e) (n * f) with ⟨g1, g2⟩ | ⟨g, g1, g2⟩
      · exact ⟨0, 0, 0, 0, 0, 0, 3, fun h => absurd h (by decide), fun r => by simp [g2], fun r => by simp [g1]⟩
      · refine ⟨n * a, n * b, n * c, n * d, n * e, n * f, 0, fun _ => ⟨h, g, ?_⟩, fun r => by simp [g2], fun r => by simp [g1]⟩
        have ha := areaT_b h
        have hg := areaT_b g
        rw [areaT_mul] at hg ⊢
        have m1 := mul_bound (A := 8000000) (B := 1000) (a := areaT a b c d e f) (b := n) (by omega) (by omega) (by omega) (by omega)
        rw [w64_of (n := areaT a b c d e f * n) (by omega) (by omega), w64_of (by omega) (by omega)]

abbrev Six := Int × Int × Int × Int × Int × Int

def areaS (p : Six) : Int := areaT p.1 p.2.1 p.2.2.1 p.2.2.2.1 p.2.2.2.2.1 p.2.2.2.2.2

def IsS (p : Six) : Prop := IsT p.1 p.2.1 p.2.2.1 p.2.2.2.1 p.2.2.2.2.1 p.2.2.2.2.2

/-- Two halves. -/
def Halves (x : Six) (p q : Six) : Prop := IsS x ∧ IsS p ∧ IsS q ∧ areaS p = areaS q ∧ areaS p + areaS q = areaS x

theorem half_facts {a b c d e f x y : Int} (h : IsT a b c d e f) (hx : 2 * x = c + e) (hy : 2 * y = d + f) : Halves (a, b, c, d, e, f) (a, b, x, y, e, f) (a, b, c, d, x, y) := by
  have hne := h.ne
  have e1 : 2 * ((x - a) * (f - b) - (y - b) * (e - a)) = (c - a) * (f - b) - (d - b) * (e - a) := by grind
  have e2 : 2 * ((c - a) * (y - b) - (d - b) * (x - a)) = (c - a) * (f - b) - (d - b) * (e - a) := by grind
  have hc := h.c
  have hd := h.d
  have he := h.e
  have hf := h.f
  have tx : inT x := by unfold inT at *; omega
  have ty : inT y := by unfold inT at *; omega
  refine ⟨h, ⟨?_, h.a, h.b, tx, ty, h.e, h.f⟩, ⟨?_, h.a, h.b, h.c, h.d, tx, ty⟩, ?_, ?_⟩
  · show (x - a) * (f - b) - (y - b) * (e - a) ≠ 0
    omega
  · show (c - a) * (y - b) - (d - b) * (x - a) ≠ 0
    omega
  · show max ((x - a) * (f - b) - (y - b) * (e - a)) (-((x - a) * (f - b) - (y - b) * (e - a))) = max ((c - a) * (y - b) - (d - b) * (x - a)) (-((c - a) * (y - b) - (d - b) * (x - a)))
    omega
  · show max ((x - a) * (f - b) - (y - b) * (e - a)) (-((x - a) * (f - b) - (y - b) * (e - a))) + max ((c - a) * (y - b) - (d - b) * (x - a)) (-((c - a) * (y - b) - (d - b) * (x - a))) = max ((c - a) * (f - b) - (d - b) * (e - a)) (-((c - a) * (f - b) - (d - b) * (e - a)))
    omega

theorem areaT_rot (a b c d e f : Int) : areaT c d e f a b = areaT a b c d e f := by
  unfold areaT
  rw [show (e - c) * (b - d) - (f - d) * (a - c) = (c - a) * (f - b) - (d - b) * (e - a) by grind]

/-- The corners of all three, turned on. -/
theorem Halves.rot {a b c d e f a' b' c' d' e' f' a2 b2 c2 d2 e2 f2 : Int} (h : Halves (a, b, c, d, e, f) (a', b', c', d', e', f') (a2, b2, c2, d2, e2, f2)) : Halves (c, d, e, f, a, b) (c', d', e', f', a', b') (c2, d2, e2, f2, a2, b2) := by
  obtain ⟨h1, h2, h3, h4, h5⟩ := h
  refine ⟨IsT.rot h1, IsT.rot h2, IsT.rot h3, ?_, ?_⟩
  · show areaT c' d' e' f' a' b' = areaT c2 d2 e2 f2 a2 b2
    rw [areaT_rot a', areaT_rot a2]
    exact h4
  · show areaT c' d' e' f' a' b' + areaT c2 d2 e2 f2 a2 b2 = areaT c d e f a b
    rw [areaT_rot a', areaT_rot a2, areaT_rot a]
    exact h5

theorem plusT_w {a b : Int} (ha : inT a) (hb : inT b) : w64 (a + w64 b) = a + b := by
  unfold inT at ha hb
  rw [w64_of (n := b) (by omega) (by omega), w64_of (by omega) (by omega)]

theorem half_w {a b : Int} (ha : inT a) (hb : inT b) (h : Int.tmod (a + b) 2 = 0) : 2 * w64 (Int.tdiv (a + b) 2) = a + b := by
  have h1 := Int.mul_tdiv_add_tmod (a + b) 2
  unfold inT at ha hb
  rw [w64_of (by omega) (by omega)]
  omega

theorem splitTri_both (k : Nat) (a b c d e f i : Int) : ∃ z l, ((z ≠ 0 ∧ l = []) ∨ (z = 0 ∧ ∃ p q, l = [p, q] ∧ Halves (a, b, c, d, e, f) p q)) ∧
    (∀ K : Int → List Six → Option α, impl_SplitTriangle k a b c d e f i (fun v => K v []) (fun l v => K v l) = K z l) ∧ ∀ K : Int → List Six → Option α, spec_SplitTriangle k a b c d e f i (fun v => K v []) (fun l v => K v l) = K z l := by
  simp only [impl_SplitTriangle, spec_SplitTriangle, impl_in_eq, spec_l01In_eq]
  rcases tri_cases (α := α) k a b c d e f with ⟨h1, h2⟩ | ⟨h, h1, h2⟩
  · exact ⟨1, [], .inl ⟨by decide, rfl⟩, fun K => by simp [h2], fun K => by simp [h1]⟩
  · cases hi : inB i 0 2 with
    | false => exact ⟨2, [], .inl ⟨by decide, rfl⟩, fun K => by simp [h2], fun K => by simp [h1]⟩
    | true =>
      simp only [h1, h2, Bool.not_true, cond_false]
      have w1 : Int.tmod (w64 (0 + 1)) 3 = 1 := by decide
      have w2 : Int.tmod (w64 (0 + 2)) 3 = 2 := by decide
      have w3 : Int.tmod (w64 (1 + 1)) 3 = 2 := by decide
      have w4 : Int.tmod (w64 (1 + 2)) 3 = 0 := by decide
      have w5 : Int.tmod (w64 (2 + 1)) 3 = 0 := by decide
      have w6 : Int.tmod (w64 (2 + 2)) 3 = 1 := by decide
      have m1 : Nat.ble 2 6 = true := rfl
      have m2 : Nat.ble 4 6 = true := rfl
      have m3 : Nat.ble 6 6 = true := rfl
      have m4 : Nat.beq 2 4 = false := rfl
      have m5 : Nat.beq 2 3 = false := rfl
      have m6 : Nat.beq 0 4 = false := rfl
      have m7 : Nat.beq 0 3 = false := rfl
      have m8 : Nat.beq 0 2 = false := rfl
      have m9 : Nat.beq 0 1 = false := rfl
      rcases in02 hi with rfl | rfl | rfl
      · simp only [w1, w2, impl_Point_plus, spec_l01Plus]
        by_cases hx : Int.tmod (c + e) 2 = 0
        · by_cases hy : Int.tmod (d + f) 2 = 0
          · refine ⟨0, _, .inr ⟨rfl, _, _, rfl, half_facts h (half_w h.c h.e hx) (half_w h.d h.f hy)⟩, fun K => ?_, fun K => ?_⟩
            · simp [plusT_w h.c h.e, plusT_w h.d h.f, hx, hy, m1, m2, m3, m4, m5, m6, m7, m8, m9]
            · simp [plusT_w h.c h.e, plusT_w h.d h.f, hx, hy]
          · refine ⟨5, [], .inl ⟨by decide, rfl⟩, fun K => ?_, fun K => ?_⟩
            · simp [plusT_w h.c h.e, plusT_w h.d h.f, hx, hy]
            · simp [plusT_w h.c h.e, plusT_w h.d h.f, hx, hy]
        · refine ⟨5, [], .inl ⟨by decide, rfl⟩, fun K => ?_, fun K => ?_⟩
          · simp [plusT_w h.c h.e, plusT_w h.d h.f, hx]
          · simp [plusT_w h.c h.e, plusT_w h.d h.f, hx]
      · simp only [w3, w4, impl_Point_plus, spec_l01Plus]
        by_cases hx : Int.tmod (e + a) 2 = 0
        · by_cases hy : Int.tmod (f + b) 2 = 0
          · refine ⟨0, _, .inr ⟨rfl, _, _, rfl, (half_facts h.rot (half_w h.e h.a hx) (half_w h.f h.b hy)).rot.rot⟩, fun K => ?_, fun K => ?_⟩
            · simp [plusT_w h.e h.a, plusT_w h.f h.b, hx, hy, m1, m2, m3, m4, m5, m6, m7, m8, m9]
            · simp [plusT_w h.e h.a, plusT_w h.f h.b, hx, hy]
          · refine ⟨5, [], .inl ⟨by decide, rfl⟩, fun K => ?_, fun K => ?_⟩
            · simp [plusT_w h.e h.a, plusT_w h.f h.b, hx, hy]
            · simp [plusT_w h.e h.a, plusT_w h.f h.b, hx, hy]
        · refine ⟨5, [], .inl ⟨by decide, rfl⟩, fun K => ?_, fun K => ?_⟩
          · simp [plusT_w h.e h.a, plusT_w h.f h.b, hx]
          · simp [plusT_w h.e h.a, plusT_w h.f h.b, hx]
      · simp only [w5, w6, impl_Point_plus, spec_l01Plus]
        by_cases hx : Int.tmod (a + c) 2 = 0
        · by_cases hy : Int.tmod (b + d) 2 = 0
          · refine ⟨0, _, .inr ⟨rfl, _, _, rfl, (half_facts h.rot.rot (half_w h.a h.c hx) (half_w h.b h.d hy)).rot⟩, fun K => ?_, fun K => ?_⟩
            · simp [plusT_w h.a h.c, plusT_w h.b h.d, hx, hy, m1, m2, m3, m4, m5, m6, m7, m8, m9]
            · simp [plusT_w h.a h.c, plusT_w h.b h.d, hx, hy]
          · refine ⟨5, [], .inl ⟨by decide, rfl⟩, fun K => ?_, fun K => ?_⟩
            · simp [plusT_w h.a h.c, plusT_w h.b h.d, hx, hy]
            · simp [plusT_w h.a h.c, plusT_w h.b h.d, hx, hy]
        · refine ⟨5, [], .inl ⟨by decide, rfl⟩, fun K => ?_, fun K => ?_⟩
          · simp [plusT_w h.a h.c, plusT_w h.b h.d, hx]
          · simp [plusT_w h.a h.c, plusT_w h.b h.d, hx]

theorem area_some (k : Nat) (a b c d e f : Int) : ∃ v, ∀ r : Int → Option α, spec_l01Area k a b c d e f r = r v := ⟨_, fun _ => rfl⟩

theorem plus_some (k : Nat) (a b c d n : Int) : ∃ x y, ∀ r : Int → Int → Option α, spec_l01Plus k a b c d n r = r x y := ⟨_, _, fun _ => rfl⟩

theorem set6 {i j : Int} (hi : i = 0 ∨ i = 1 ∨ i = 2) (hj : j = 0 ∨ j = 1) (x y z w u v c : Int) : ∃ x' y' z' w' u' v', ∀ K : Int → Int → Int → Int → Int → Int → Option α,
    (([x, y, z, w, u, v][(moved (i.toNat * 2) j.toNat 1)]?).bind fun _ =>
      ((List.set [x, y, z, w, u, v] (moved (i.toNat * 2) j.toNat 1) c)[0]?).bind fun e_ =>
      ((List.set [x, y, z, w, u, v] (moved (i.toNat * 2) j.toNat 1) c)[1]?).bind fun e_1 =>
      ((List.set [x, y, z, w, u, v] (moved (i.toNat * 2) j.toNat 1) c)[2]?).bind fun e_2 =>
      ((List.set [x, y, z, w, u, v] (moved (i.toNat * 2) j.toNat 1) c)[3]?).bind fun e_3 =>
      ((List.set [x, y, z, w, u, v] (moved (i.toNat * 2) j.toNat 1) c)[4]?).bind fun e_4 =>
      ((List.set [x, y, z, w, u, v] (moved (i.toNat * 2) j.toNat 1) c)[5]?).bind fun e_5 => K e_ e_1 e_2 e_3 e_4 e_5) = K x' y' z' w' u' v' := by
  rcases hi with rfl | rfl | rfl <;> rcases hj with rfl | rfl
  · exact ⟨c, y, z, w, u, v, fun K => rfl⟩
  · exact ⟨x, c, z, w, u, v, fun K => rfl⟩
  · exact ⟨x, y, c, w, u, v, fun K => rfl⟩
  · exact ⟨x, y, z, c, u, v, fun K => rfl⟩
  · exact ⟨x, y, z, w, c, v, fun K => rfl⟩
  · exact ⟨x, y, z, w, u, c, fun K => rfl⟩

theorem draw4_ok {l : List Int} (hl : IsCode l) {s : Int} (hs : AtC l s) (k : Nat) (h : Int) : ∃ a b c d e f s' h', AtC l s' ∧ ∀ r : Int → Int → Int → Int → Int → Int → Int → Int → Option α, spec_l04Draw k l s h r = r a b c d e f s' h' := by
  obtain ⟨m, s1, h1, i1, i2, i3⟩ := pick_ok (α := α) hl hs k h (list := [2, 4, 4, 8, 20, 1000]) (by simp) (by simp)
  have hm : 0 ≤ m ∧ m ≤ 1000 := by simp only [List.mem_cons, List.not_mem_nil, or_false] at i2; omega
  obtain ⟨a, b, s2, h2, j1, _, _, j2⟩ := point_ok (α := α) hl i1 k h1 (most := m) hm.1 (by omega)
  obtain ⟨c, d, s3, h3, k1, _, _, k2⟩ := point_ok (α := α) hl j1 k h2 (most := m) hm.1 (by omega)
  obtain ⟨e, f, s4, h4, l1, _, _, l2⟩ := point_ok (α := α) hl k1 k h3 (most := m) hm.1 (by omega)
  obtain ⟨v, hv⟩ := area_some (α := α) k a b c d e f
  by_cases h0 : v = 0
  · obtain ⟨x, s5, h5, m1, _, m2⟩ := pick_ok (α := α) hl l1 k h4 (list := [1, (-1)]) (by simp) (by simp)
    obtain ⟨y, s6, h6, n1, _, n2⟩ := pick_ok (α := α) hl m1 k h5 (list := [1, (-1), 2]) (by simp) (by simp)
    obtain ⟨p, q, e1⟩ := plus_some (α := α) k a b 1 0 x
    obtain ⟨u, w, e2⟩ := plus_some (α := α) k a b 0 1 y
    refine ⟨a, b, p, q, u, w, s6, h6, n1, fun r => ?_⟩
    unfold spec_l04Draw
    rw [i3, j2, k2, l2, hv, decide_eq_true h0, cond_true, m2, e1, n2, e2]
  · refine ⟨a, b, c, d, e, f, s4, h4, l1, fun r => ?_⟩
    unfold spec_l04Draw
    rw [i3, j2, k2, l2, hv, decide_eq_false h0, cond_false]

theorem spoil4_ok {l : List Int} (hl : IsCode l) {s : Int} (hs : AtC l s) (k : Nat) (h : Int) : ∃ a b c d e f s' h', AtC l s' ∧ ∀ r : Int → Int → Int → Int → Int → Int → Int → Int → Option α, spec_l04Spoil k l s h r = r a b c d e f s' h' := by
  obtain ⟨a, b, c, d, e, f, s1, h1, i1, i2⟩ := draw4_ok (α := α) hl hs k h
  obtain ⟨v, s2, h2, j1, j2, j3, j4⟩ := next_ok (α := α) hl i1 k h1 40
  by_cases g0 : v = 0
  · obtain ⟨w, s3, h3, k1, k2, k3, k4⟩ := next_ok (α := α) hl j1 k h2 2
    rcases (show w = 0 ∨ w = 1 by omega) with rfl | rfl
    · refine ⟨a, b, c, d, a, b, s3, h3, k1, fun r => ?_⟩
      unfold spec_l04Spoil
      rw [i2, j4, decide_eq_true g0, cond_true, k4]
      rfl
    · refine ⟨a, b, c, d, c, d, s3, h3, k1, fun r => ?_⟩
      unfold spec_l04Spoil
      rw [i2, j4, decide_eq_true g0, cond_true, k4]
      rfl
  · by_cases g1 : v = 1
    · obtain ⟨x, s3, h3, k1, k2, k3, k4⟩ := next_ok (α := α) hl j1 k h2 3
      obtain ⟨y, s4, h4, l1, l2, l3, l4⟩ := next_ok (α := α) hl k1 k h3 2
      obtain ⟨z, s5, h5, m1, _, m2⟩ := pick_ok (α := α) hl l1 k h4 (list := [1001, (-1001), 1000]) (by simp) (by simp)
      obtain ⟨a', b', c', d', e', f', hset⟩ := set6 (α := α) (i := x) (j := y) (by omega) (by omega) a b c d e f z
      refine ⟨a', b', c', d', e', f', s5, h5, m1, fun r => ?_⟩
      unfold spec_l04Spoil
      rw [i2, j4, decide_eq_false g0, cond_false, decide_eq_true g1, cond_true, k4, dec_le_t k2, dec_lt_t (by omega), Bool.and_self, cond_true, l4, m2, dec_le_t l2, dec_lt_t (by omega), Bool.and_self, cond_true]
      exact hset fun a b c d e f => r a b c d e f s5 h5
    · refine ⟨a, b, c, d, e, f, s2, h2, j1, fun r => ?_⟩
      unfold spec_l04Spoil
      rw [i2, j4, decide_eq_false g0, cond_false, decide_eq_false g1, cond_false]

theorem small4_ok {l : List Int} (hl : IsCode l) {s : Int} (hs : AtC l s) (k : Nat) (h : Int) : ∃ a b c d e f s' h', AtC l s' ∧ ∀ r : Int → Int → Int → Int → Int → Int → Int → Int → Option α, spec_l04Small k l s h r = r a b c d e f s' h' := by
  obtain ⟨a, b, s2, h2, j1, _, _, j2⟩ := point_ok (α := α) hl hs k h (most := 12) (by omega) (by omega)
  obtain ⟨c, d, s3, h3, k1, _, _, k2⟩ := point_ok (α := α) hl j1 k h2 (most := 12) (by omega) (by omega)
  obtain ⟨e, f, s4, h4, l1, _, _, l2⟩ := point_ok (α := α) hl k1 k h3 (most := 12) (by omega) (by omega)
  obtain ⟨v, hv⟩ := area_some (α := α) k a b c d e f
  by_cases h0 : v = 0
  · obtain ⟨a', b', c', d', e', f', s5, h5, m1, m2⟩ := spoil4_ok (α := α) hl l1 k h4
    refine ⟨a', b', c', d', e', f', s5, h5, m1, fun r => ?_⟩
    unfold spec_l04Small
    rw [j2, k2, l2, hv, decide_eq_true h0, cond_true, m2]
  · obtain ⟨w, s5, h5, m1, m2, m3, m4⟩ := next_ok (α := α) hl l1 k h4 12
    by_cases hw : w = 0
    · obtain ⟨a', b', c', d', e', f', s6, h6, n1, n2⟩ := spoil4_ok (α := α) hl m1 k h5
      refine ⟨a', b', c', d', e', f', s6, h6, n1, fun r => ?_⟩
      unfold spec_l04Small
      rw [j2, k2, l2, hv, decide_eq_false h0, cond_false, m4, decide_eq_true hw, cond_true, n2]
    · refine ⟨a, b, c, d, e, f, s5, h5, m1, fun r => ?_⟩
      unfold spec_l04Small
      rw [j2, k2, l2, hv, decide_eq_false h0, cond_false, m4, decide_eq_false hw, cond_false]

theorem dInner_ok {l : List Int} (hl : IsCode l) (k : Nat) (hk : 4096 < k) : ∃ a b c d e f, ∀ r : Int → Int → Int → Int → Int → Int → Option α, spec_DrawInnerPoints k l r = r a b c d e f := by
  obtain ⟨h, i1, i2⟩ := from_ok (α := α) hl k hk
  obtain ⟨a, b, c, d, e, f, s1, h1, j1, j2⟩ := small4_ok (α := α) hl i1 k h
  exact ⟨a, b, c, d, e, f, fun r => by unfold spec_DrawInnerPoints; rw [i2, j2]⟩

theorem dCount_ok {l : List Int} (hl : IsCode l) (k : Nat) (hk : 4096 < k) : ∃ a b c d e f, ∀ r : Int → Int → Int → Int → Int → Int → Option α, spec_DrawCountInner k l r = r a b c d e f := by
  obtain ⟨h, i1, i2⟩ := from_ok (α := α) hl k hk
  obtain ⟨a, b, c, d, e, f, s1, h1, j1, j2⟩ := spoil4_ok (α := α) hl i1 k h
  exact ⟨a, b, c, d, e, f, fun r => by unfold spec_DrawCountInner; rw [i2, j2]⟩

theorem dCornerAt_ok {l : List Int} (hl : IsCode l) (k : Nat) (hk : 4096 < k) : ∃ a b c d e f i, ∀ r : Int → Int → Int → Int → Int → Int → Int → Option α, spec_DrawCornerAt k l r = r a b c d e f i := by
  obtain ⟨h, i1, i2⟩ := from_ok (α := α) hl k hk
  obtain ⟨a, b, c, d, e, f, s1, h1, j1, j2⟩ := spoil4_ok (α := α) hl i1 k h
  obtain ⟨u, s2, h2, k1, _, _, k2⟩ := next_ok (α := α) hl j1 k h1 16
  obtain ⟨v, s3, h3, l1, _, _, l2⟩ := next_ok (α := α) hl k1 k h2 (w64 (3 + (w64 (Int.tdiv u 15))))
  exact ⟨a, b, c, d, e, f, v, fun r => by unfold spec_DrawCornerAt; rw [i2, j2, k2, l2]⟩

theorem dMultipleOf_ok {l : List Int} (hl : IsCode l) (k : Nat) (hk : 4096 < k) : ∃ a b c d e f i, ∀ r : Int → Int → Int → Int → Int → Int → Int → Option α, spec_DrawMultipleOf k l r = r a b c d e f i := by
  obtain ⟨h, i1, i2⟩ := from_ok (α := α) hl k hk
  obtain ⟨a, b, c, d, e, f, s1, h1, j1, j2⟩ := small4_ok (α := α) hl i1 k h
  obtain ⟨u, s2, h2, k1, _, _, k2⟩ := near_ok (α := α) hl j1 k h1 (most := 1000) (by omega) (by omega)
  obtain ⟨v, s3, h3, l1, _, l2⟩ := pick_ok (α := α) hl k1 k h2 (list := [1, 2, 3, u]) (by simp) (by simp)
  exact ⟨a, b, c, d, e, f, v, fun r => by unfold spec_DrawMultipleOf; rw [i2, j2, k2, l2]⟩

theorem dSplit_ok {l : List Int} (hl : IsCode l) (k : Nat) (hk : 4096 < k) : ∃ a b c d e f i, ∀ r : Int → Int → Int → Int → Int → Int → Int → Option α, spec_DrawSplitTriangle k l r = r a b c d e f i := by
  obtain ⟨h, i1, i2⟩ := from_ok (α := α) hl k hk
  obtain ⟨a, b, c, d, e, f, s1, h1, j1, j2⟩ := spoil4_ok (α := α) hl i1 k h
  obtain ⟨u, s2, h2, k1, _, _, k2⟩ := next_ok (α := α) hl j1 k h1 16
  obtain ⟨v, s3, h3, l1, _, _, l2⟩ := next_ok (α := α) hl k1 k h2 (w64 (3 + (w64 (Int.tdiv u 15))))
  obtain ⟨w, s4, h4, m1, _, _, m2⟩ := next_ok (α := α) hl l1 k h3 3
  by_cases hw : 0 < w
  · exact ⟨w64 ((w64 (Int.tdiv a 2)) * 2), w64 ((w64 (Int.tdiv b 2)) * 2), w64 ((w64 (Int.tdiv c 2)) * 2), w64 ((w64 (Int.tdiv d 2)) * 2), w64 ((w64 (Int.tdiv e 2)) * 2), w64 ((w64 (Int.tdiv f 2)) * 2), v, fun r => by unfold spec_DrawSplitTriangle; rw [i2, j2, k2, l2, m2, decide_eq_true hw, cond_true]⟩
  · exact ⟨a, b, c, d, e, f, v, fun r => by unfold spec_DrawSplitTriangle; rw [i2, j2, k2, l2, m2, decide_eq_false hw, cond_false]⟩

theorem points9T_l4 : ∀ (rest : List (Int × Int)) (k i : Nat) (s : List (Int × Int)) b (r : Bool → Option α), s.drop i = rest → s.length ≤ big → i ≤ s.length → rest.length < k → laws_points9_l4 k i s s b r = b s.length s s
  | [], k + 1, i, s, b, r, hd, hb, hi, _ => by
    have := drop_nil hd
    have : i = s.length := by omega
    subst this
    rw [laws_points9_l4, dec_lt_f (by omega)]
    rfl
  | e :: rest, k + 1, i, s, b, r, hd, hb, hi, hk => by
    obtain ⟨h1, h2, h3⟩ := drop_cons hd
    rw [big_val] at hb
    have en : w64 ((i : Int) + 1) = ((i + 1 : Nat) : Int) := by rw [w64_of (by omega) (by omega)]; omega
    rw [laws_points9_l4, dec_lt_t (by omega), dec_le_t (by omega), cond_true, Bool.and_true, cond_true, Int.toNat_natCast, h1, Option.bind_some, cond_true, Option.bind_some, decide_eq_true rfl, decide_eq_true rfl, Bool.and_self, Bool.not_true, cond_false, en]
    exact points9T_l4 rest k (i + 1) s b r h2 (by rw [big_val]; omega) (by omega) (by simp at hk; omega)
  | _, 0, _, _, _, _, _, _, _, hk => by omega

theorem points9T_same (k : Nat) (s : List (Int × Int)) (r : Bool → Option α) (hs : s.length ≤ big) (hk : s.length < k) : laws_points9 k s s r = r true := by
  unfold laws_points9
  rw [decide_eq_true rfl, Bool.not_true, cond_false]
  have := points9T_l4 s k 0 s (fun _ _ _ => r true) r rfl hs (by omega) hk
  simpa using this

theorem ft28 (k : Nat) (hk : 1000000000 < k) {z a b c d e f : Int} {l : List (Int × Int)} (h0 : z ≠ 0 → l = []) (h1 : z = 0 → IsT a b c d e f ∧ (l.length : Int) = innerT a b c d e f) (r : Bool → Option α) : laws_FnTriangles_B28 k z a b c d e f l r = r true := by
  simp only [laws_FnTriangles_B28, laws_FnTriangles_b28]
  by_cases hz : z = 0
  · obtain ⟨g1, g2⟩ := h1 hz
    rw [impl_countInner k hk g1, g2]
    simp [hz]
  · rw [h0 hz]
    simp [hz]

theorem ft26 (k : Nat) (hk : 1000000000 < k) {z a b c d e f : Int} {l : List (Int × Int)} (h0 : z ≠ 0 → l = []) (h1 : z = 0 → IsT a b c d e f ∧ (l.length : Int) = innerT a b c d e f) (r : Bool → Option α)
    {z8 x x1 x2 x3 x4 x5 : Int} {parts : List Six} (hs : (z8 ≠ 0 ∧ parts = []) ∨ (z8 = 0 ∧ ∃ p q, parts = [p, q] ∧ Halves (x, x1, x2, x3, x4, x5) p q)) : laws_FnTriangles_B26 k z z8 a b c d e f l x x1 x2 x3 x4 x5 parts r = r true := by
  simp only [laws_FnTriangles_B26, laws_FnTriangles_b26]
  rcases hs with ⟨hz, _⟩ | ⟨hz, p, q, rfl, g0, g1, g2, g3, g4⟩
  · rw [decide_eq_false hz, cond_false, ft28 k hk h0 h1]
  · rw [decide_eq_true hz, cond_true, impl_areaTri k (show IsT x x1 x2 x3 x4 x5 from g0)]
    have l0 : [p, q][0]? = some p := rfl
    have l1 : [p, q][1]? = some q := rfl
    have d0 : decide ((0 : Int) < (([p, q].length : Nat) : Int)) = true := by simp
    have d1 : decide ((1 : Int) < (([p, q].length : Nat) : Int)) = true := by simp
    have b0 := areaT_b g0
    have b1 := areaT_b g1
    have b2 := areaT_b g2
    have hw : w64 (areaS p + areaS q) = areaT x x1 x2 x3 x4 x5 := by
      rw [w64_of (by unfold areaS; omega) (by unfold areaS; omega), g4]
      rfl
    simp only [d0, d1, Bool.and_self, cond_true, l0, l1, Option.bind_some]
    rw [impl_areaTri k g1, impl_areaTri k g2]
    change (bif !decide ((0 : Int) = 0) then _ else bif !decide ((0 : Int) = 0) then _ else bif !decide ((0 : Int) = 0) then _ else bif !decide (areaS p = areaS q) then _ else bif !decide (w64 (areaS p + areaS q) = areaT x x1 x2 x3 x4 x5) then _ else _) = _
    rw [hw, decide_eq_true g3, decide_eq_true rfl, decide_eq_true rfl]
    exact ft28 k hk h0 h1 r

theorem ft24 (k : Nat) (hk : 1000000000 < k) {z a b c d e f : Int} {l : List (Int × Int)} (h0 : z ≠ 0 → l = []) (h1 : z = 0 → IsT a b c d e f ∧ (l.length : Int) = innerT a b c d e f) (r : Bool → Option α)
    {z8 x x1 x2 x3 x4 x5 : Int} {parts : List Six} (hs : (z8 ≠ 0 ∧ parts = []) ∨ (z8 = 0 ∧ ∃ p q, parts = [p, q] ∧ Halves (x, x1, x2, x3, x4, x5) p q))
    {n z7 w w1 w2 w3 w4 w5 m m1 m2 m3 m4 m5 : Int} (hm : z7 = 0 → IsT w w1 w2 w3 w4 w5 ∧ IsT m m1 m2 m3 m4 m5 ∧ w64 (w64 (areaT w w1 w2 w3 w4 w5 * n) * n) = areaT m m1 m2 m3 m4 m5) :
    laws_FnTriangles_B24 k z n z7 z8 a b c d e f l w w1 w2 w3 w4 w5 m m1 m2 m3 m4 m5 x x1 x2 x3 x4 x5 parts r = r true := by
  simp only [laws_FnTriangles_B24, laws_FnTriangles_b24, ft26 k hk h0 h1 r hs]
  by_cases hz : z7 = 0
  · obtain ⟨g1, g2, g3⟩ := hm hz
    rw [decide_eq_true hz, cond_true, impl_areaTri k g1, impl_areaTri k g2, g3, decide_eq_true rfl, decide_eq_true rfl]
    rfl
  · rw [decide_eq_false hz, cond_false]

theorem ft20 (k : Nat) (hk : 1000000000 < k) {z a b c d e f : Int} {l : List (Int × Int)} (h0 : z ≠ 0 → l = []) (h1 : z = 0 → IsT a b c d e f ∧ (l.length : Int) = innerT a b c d e f) (r : Bool → Option α)
    {z8 x x1 x2 x3 x4 x5 : Int} {parts : List Six} (hs : (z8 ≠ 0 ∧ parts = []) ∨ (z8 = 0 ∧ ∃ p q, parts = [p, q] ∧ Halves (x, x1, x2, x3, x4, x5) p q))
    {n z7 w w1 w2 w3 w4 w5 m m1 m2 m3 m4 m5 : Int} (hm : z7 = 0 → IsT w w1 w2 w3 w4 w5 ∧ IsT m m1 m2 m3 m4 m5 ∧ w64 (w64 (areaT w w1 w2 w3 w4 w5 * n) * n) = areaT m m1 m2 m3 m4 m5)
    {count z2 area bnd : Int} (hc : z2 = 0 → w64 (w64 (w64 (2 * count) + bnd) - 2) = area) :
    laws_FnTriangles_B20 k z count z2 area bnd n z7 z8 z8 a b c d e f l w w1 w2 w3 w4 w5 m m1 m2 m3 m4 m5 x x1 x2 x3 x4 x5 parts parts r = r true := by
  have h24 := ft24 (α := α) k hk h0 h1 r hs hm
  have h23 : laws_FnTriangles_B23 k z count z2 area bnd n z7 z8 a b c d e f l w w1 w2 w3 w4 w5 m m1 m2 m3 m4 m5 x x1 x2 x3 x4 x5 parts r = r true := by
    simp only [laws_FnTriangles_B23, laws_FnTriangles_b23, h24]
    by_cases hz : z2 = 0
    · rw [hc hz, decide_eq_true hz, decide_eq_true rfl]
      rfl
    · rw [decide_eq_false hz, cond_false]
  simp only [laws_FnTriangles_B20, laws_FnTriangles_b20, decide_true, Bool.not_true, cond_false, laws_FnTriangles_B22, laws_FnTriangles_b22]
  obtain ⟨k, rfl⟩ : ∃ j, k = j + 1 + 1 + 1 := ⟨k - 3, by omega⟩
  rcases hs with ⟨_, rfl⟩ | ⟨_, p, q, rfl, _⟩
  · rw [laws_FnTriangles_l41]
    exact h23
  · have l0 : [p, q][0]? = some p := rfl
    have l1 : [p, q][1]? = some q := rfl
    rw [laws_FnTriangles_l41]
    simp only [show decide ((0 : Int) < (([p, q].length : Nat) : Int)) = true from by simp, cond_true, show decide ((0 : Int) ≤ 0) = true from rfl, Bool.and_self, show (0 : Int).toNat = 0 from rfl, l0, Option.bind_some, decide_true, Bool.not_true, cond_false, show w64 (0 + 1) = 1 from rfl]
    rw [laws_FnTriangles_l41]
    simp only [show decide ((1 : Int) < (([p, q].length : Nat) : Int)) = true from by simp, cond_true, show decide ((0 : Int) ≤ 1) = true from rfl, Bool.and_self, show (1 : Int).toNat = 1 from rfl, l1, Option.bind_some, decide_true, Bool.not_true, cond_false, show w64 (1 + 1) = 2 from rfl]
    rw [laws_FnTriangles_l41]
    simp only [show decide ((2 : Int) < (([p, q].length : Nat) : Int)) = false from by simp, cond_false]
    exact h23

theorem sines_K (k : Nat) (hk : 1000000000 < k) (a b c d e f : Int) : ∃ z l, l.length ≤ 3 ∧ (∀ K : Int → List Int → Option α, spec_SinesOf k a b c d e f (fun v => K v []) (fun l v => K v l) = K z l) ∧ ∀ K : Int → List Int → Option α, impl_SinesOf k a b c d e f (fun v => K v []) (fun l v => K v l) = K z l := by
  rcases sines_eq (α := α) k hk a b c d e f with ⟨h1, h2⟩ | ⟨x, y, z, h1, h2⟩
  · exact ⟨1, [], by simp, fun K => h1 _ _, fun K => h2 _ _⟩
  · exact ⟨0, [x, y, z], by simp, fun K => h1 _ _, fun K => h2 _ _⟩

theorem law_FnTriangles (k : Nat) (hk : 1000000500 < k) (l : List Int) (r : Bool → Option α) (hb : ∀ x ∈ l, 0 ≤ x ∧ x ≤ 255) : laws_FnTriangles k l r = r true := by
  unfold laws_FnTriangles
  cases hbig : decide (4096 < (((List.length l) : Nat) : Int)) with
  | true => simp only [laws_FnTriangles_B0, laws_FnTriangles_b0, laws_big_eq, hbig, cond_true]
  | false =>
    have hl : IsCode l := ⟨by have := of_decide_eq_false hbig; omega, hb⟩
    have hk' : 1000000000 < k := by omega
    obtain ⟨a, b, c, d, e, f, e0⟩ := dInner_ok (α := α) hl k (by omega)
    obtain ⟨z, inner, p0, p1, pl, e1, e2⟩ := inner_points2 (α := α) k hk' a b c d e f
    obtain ⟨t, e3, e4⟩ := isTri_both (α := α) k a b c d e f
    obtain ⟨u, u1, u2, u3, u4, u5, e5⟩ := dCount_ok (α := α) hl k (by omega)
    obtain ⟨count, area, bnd, z2, hc, ⟨e6, e7⟩, ⟨e8, e9⟩, ⟨e10, e11⟩⟩ := three_both (α := α) k hk' u u1 u2 u3 u4 u5
    obtain ⟨zs, sines, sl, e12, e13⟩ := sines_K (α := α) k hk' u u1 u2 u3 u4 u5
    obtain ⟨v, v1, v2, v3, v4, v5, i, e14⟩ := dCornerAt_ok (α := α) hl k (by omega)
    obtain ⟨c1, c2, c3, c4, c5, e15, e16⟩ := cornerAt_both (α := α) k hk' v v1 v2 v3 v4 v5 i
    obtain ⟨w, w1, w2, w3, w4, w5, n, e17⟩ := dMultipleOf_ok (α := α) hl k (by omega)
    obtain ⟨m, m1, m2, m3, m4, m5, z7, hm, e18, e19⟩ := multiple_both (α := α) k w w1 w2 w3 w4 w5 n
    obtain ⟨x, x1, x2, x3, x4, x5, j, e20⟩ := dSplit_ok (α := α) hl k (by omega)
    obtain ⟨z8, parts, hs, e21, e22⟩ := splitTri_both (α := α) k x x1 x2 x3 x4 x5 j
    simp only [laws_FnTriangles_B0, laws_FnTriangles_b0, laws_big_eq, hbig, cond_false, e0]
    rw [e2 fun z l1 => laws_FnTriangles_B1 k z l a b c d e f l1 r]
    simp only [laws_FnTriangles_B1, laws_FnTriangles_b1]
    rw [e1 fun v l1 => laws_FnTriangles_B2 k z v l a b c d e f inner l1 r]
    simp only [laws_FnTriangles_B2, laws_FnTriangles_b2, decide_true, Bool.not_true, cond_false, points9T_same k inner _ (by rw [big_val]; omega) (by omega), e3, e4, beq_self_eq_true,
      laws_FnTriangles_B4, laws_FnTriangles_b4, e5, e6, e7, laws_FnTriangles_B6, laws_FnTriangles_b6, e8, e9, laws_FnTriangles_B8, laws_FnTriangles_b8, e10, e11, laws_FnTriangles_B10, laws_FnTriangles_b10]
    rw [e13 fun v36 v35 => laws_FnTriangles_B11 k z count z2 area bnd v36 l a b c d e f inner u u1 u2 u3 u4 u5 v35 r]
    simp only [laws_FnTriangles_B11, laws_FnTriangles_b11]
    rw [e12 fun v39 v38 => laws_FnTriangles_B12 k z count z2 area bnd zs v39 l a b c d e f inner sines v38 r]
    simp only [laws_FnTriangles_B12, laws_FnTriangles_b12, decide_true, Bool.not_true, cond_false, likeInts_same k sines _ (by rw [big_val]; omega) (by omega),
      laws_FnTriangles_B14, laws_FnTriangles_b14, e14, e15, e16, Bool.and_self, laws_FnTriangles_B16, laws_FnTriangles_b16, e17, e18, e19, laws_FnTriangles_B18, laws_FnTriangles_b18, e20]
    rw [e21 fun v88 v87 => laws_FnTriangles_B19 k z count z2 area bnd n z7 j v88 a b c d e f inner w w1 w2 w3 w4 w5 m m1 m2 m3 m4 m5 x x1 x2 x3 x4 x5 v87 r]
    simp only [laws_FnTriangles_B19, laws_FnTriangles_b19]
    rw [e22 fun v91 v90 => laws_FnTriangles_B20 k z count z2 area bnd n z7 z8 v91 a b c d e f inner w w1 w2 w3 w4 w5 m m1 m2 m3 m4 m5 x x1 x2 x3 x4 x5 parts v90 r]
    exact ft20 k hk' p0 p1 r hs hm hc

end Go.Sh
