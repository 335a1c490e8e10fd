/- Plain laws: what the readings without memory answer. -/
import Derived.Test.YthihpeofphdfmaaGreatDoorShLFareyPaths
namespace Go.Sh
open Go Go.Ev
variable {α : Type}
def cfE : Nat → Int → Int → List Int
 | 0, _, _ => []
 | n + 1, p, q => if q = 0 then [] else p / q :: cfE n q (p % q)
theorem agp : ∀ (n : Nat) (p q : Int), (cfE n p q).length ≤ n
 | 0, _, _ => by simp [cfE]
 | n + 1, p, q => by
   unfold cfE
   split
   ·simp
   ·have := agp n q (p % q)
    simp
    omega
theorem ahN (k : Nat) (n low high : Int) (r : Bool → Option α) : zk k n low high r = r (inB n low high) := by
 unfold zk NJ inB
 cases decide (low ≤ n) <;> rfl
theorem agj (k : Nat) (n : Int) (r : Bool → Option α) : Sz k n r = r (crd n) := by
 simp only [Sz, aau, ahN]; rfl
theorem Pv (k : Nat) (a b : Int) (r : Bool → Option α) : qQ k a b r = r (crd a && crd b) := by
 simp only [qQ, abL, agj]
 cases crd a <;> rfl
theorem afY (k : Nat) (n low high : Int) (r : Bool → Option α) : DX k n low high r = r (inB n low high) := by
 unfold DX XK inB
 cases decide (low ≤ n) <;> rfl
theorem acg (k : Nat) (n : Int) (r : Bool → Option α) : Hy k n r = r (crd n) := by
 simp only [Hy, Zj, afY]; rfl
theorem Rw (k : Nat) (a b : Int) (r : Bool → Option α) : uQ k a b r = r (crd a && crd b) := by
 simp only [uQ, aab, acg]
 cases crd a <;> rfl
theorem ab6 (k : Nat) (s : List (Int × Int)) (hs : s.length ≤ big) (hk : s.length < k) (r : Bool → Option α) : Fv k s r = r (s.all fun e => crd e.1 && crd e.2) := by
 unfold Fv aaV jq lV kJ lq
 have h := adV (α := α) (p := fun e : Int × Int => !(crd e.1 && crd e.2)) (L := iQ)
  (fun k x i s b r => by simp only [iQ, lY, QX, Xy, Rw]) s k 0 s
 have h0 : ((0 : Nat) : Int) = 0 := rfl
 rw [h0] at h
 rw [h _ _ (by simp) hs (by omega) hk]
 cases hf : s.findIdx? (fun e : Int × Int => !(crd e.1 && crd e.2)) with
 | none =>
   rw [List.findIdx?_eq_none_iff] at hf
   have : (s.all fun e => crd e.1 && crd e.2) = true := List.all_eq_true.2 fun e he => by simpa using hf e he
   simp [this]
 | some j =>
   rw [List.findIdx?_eq_some_iff_getElem] at hf
   obtain ⟨hj, hp, _⟩ := hf
   have : (s.all fun e => crd e.1 && crd e.2) = false := by
    rw [List.all_eq_false]
    exact ⟨s[j], List.getElem_mem hj, by cases h1 : crd s[j].1 <;> cases h2 : crd s[j].2 <;> simp_all⟩
   rw [this]
   simp
theorem aiR (k : Nat) (hk : 3 ≤ k) (a b c d : Int) (r : Bool → Option α) : Fv k [(a, b), (c, d)] r = r (crd a && crd b && (crd c && crd d)) := by
 rw [ab6 _ _ (by rw [nZ]; simp) (by simp; omega)]
 simp
theorem afC (k : Nat) (p q : Int) (r : Bool → Option α) : SV k p q r = r (crd p && inB q 1 1000000) := by
 simp only [SV, aap, acg, afY]
 cases crd p <;> rfl
theorem RQ (k : Nat) (n x : Int) (r : Int → Option α) (hn : 0 < n) (hn2 : n ≤ 1000000000000000000) : MW k n x r = r (x % n) := by
 have h1 : -n < Int.tmod x n := Int.lt_tmod_of_pos x hn
 have h2 : Int.tmod x n < n := Int.tmod_lt_of_pos x hn
 simp only [MW, Zz, aan (show n ≠ 0 by omega), cond_false]
 rw [eQ (by omega) (by omega), apN hn]
theorem adH (k : Nat) (a b : Int) (r : Int → Option α) (hb : 0 < b) (ha : -1000000000000000000 ≤ a) (ha2 : a ≤ 1000000000000000000) : JX k a b r = r (a / b) := by
 have hq := afs a b
 simp only [JX, ab2, aan (show b ≠ 0 by omega), cond_false, eQ (n := Int.tdiv a b) (by omega) (by omega), eQ (n := Int.tdiv a b - 1) (by omega) (by omega)]
 rw [← akK a b hb]
 cases (!decide (Int.tmod a b = 0)) <;> cases (!(decide (a < 0) == decide (b < 0))) <;> rfl
theorem ae4 (k : Nat) (a b : Int) (r : Int → Option α) (hb : 0 < b) (hb2 : b ≤ 1000000000000000000) (ha : -1000000000000000000 ≤ a) (ha2 : a ≤ 1000000000000000000) : Zv k a b r = r (a % b) := by
 simp only [Zv, ado, adH k a b _ hb ha ha2]
 have h1 := Int.emod_add_mul_ediv a b
 have h2 := Int.emod_nonneg a (b := b) (by omega)
 have h3 := Int.emod_lt_of_pos a hb
 rw [eQ (n := b * (a / b)) (by omega) (by omega), eQ (by omega) (by omega)]
 congr 1
 omega
theorem aeg (k : Nat) (n : Int) (r : Int → Option α) (h0 : -1000000000000000000 ≤ n) (h1 : n ≤ 1000000000000000000) : Jz k n r = r (max n (-n)) := by
 simp only [Jz, acu]
 rw [eQ (by omega) (by omega), Int.zero_sub]
def gcdI (a b : Int) : Int := (Int.gcd a b : Int)
theorem aka {a b B : Int} (ha : -B ≤ a) (ha1 : a ≤ B) (hb : -B ≤ b) (hb1 : b ≤ B) : 0 ≤ gcdI a b ∧ gcdI a b ≤ B := by
 unfold gcdI
 refine ⟨by omega, ?_⟩
 by_cases h : a = 0
 ·subst h
  rw [Int.gcd_zero_left]
  omega
 ·have := Int.gcd_le_natAbs_left (a := a) b h
  omega
theorem aoO {a b : Int} (h : a ≠ 0 ∨ b ≠ 0) : 0 < gcdI a b := by
 unfold gcdI
 have : Int.gcd a b ≠ 0 := fun e => by
  rw [Int.gcd_eq_zero_iff] at e
  omega
 omega
theorem aiz (a b : Int) : Int.gcd b (Int.tmod a b) = Int.gcd a b := by
 unfold Int.gcd
 rw [Int.natAbs_tmod, Nat.gcd_comm, ← Nat.gcd_rec, Nat.gcd_comm]
theorem aeZ (a : Int) {b : Int} (h : b ≠ 0) : (Int.tmod a b).natAbs < b.natAbs := by
 rw [Int.natAbs_tmod]
 exact Nat.mod_lt _ (by omega)
theorem aeS : ∀ (n k : Nat) (a b : Int) b0 (r0 : Int → Option α), b.natAbs ≤ n → n < k → ∃ g : Int, g.natAbs = Int.gcd a b ∧ ww k a b b0 r0 = b0 g 0
 | n, k + 1, a, b, b0, r0, hn, hk => by
   by_cases h : b = 0
   ·subst h
    exact ⟨a, by simp, by simp [ww, Rz]⟩
   ·cases n with
    | zero => omega
    | succ n =>
      have := aeZ a h
      obtain ⟨g, h1, h2⟩ := aeS n k b (Int.tmod a b) b0 r0 (by omega) (by omega)
      refine ⟨g, by rw [h1, aiz], ?_⟩
      rw [ww, Rz, aan h]
      exact h2
 | _, 0, _, _, _, _, _, hk => by omega
theorem acK : ∀ (n k : Nat) (a b : Int) b0 (r0 : Int → Option α), b.natAbs ≤ n → n < k → ∃ g : Int, g.natAbs = Int.gcd a b ∧ GX k a b b0 r0 = b0 g 0
 | n, k + 1, a, b, b0, r0, hn, hk => by
   by_cases h : b = 0
   ·subst h
    exact ⟨a, by simp, by simp [GX, ZW]⟩
   ·cases n with
    | zero => omega
    | succ n =>
      have := aeZ a h
      obtain ⟨g, h1, h2⟩ := acK n k b (Int.tmod a b) b0 r0 (by omega) (by omega)
      refine ⟨g, by rw [h1, aiz], ?_⟩
      rw [GX, ZW, aan h]
      exact h2
 | _, 0, _, _, _, _, _, hk => by omega
theorem aav (k : Nat) (a b : Int) (r : Int → Option α) (ha : -1000000000 ≤ a) (ha1 : a ≤ 1000000000) (hb : -1000000000 ≤ b) (hb1 : b ≤ 1000000000) (hk : 1000000000 < k) : CV k a b r = r (gcdI a b) := by
 unfold CV aa3
 obtain ⟨g, h1, h2⟩ := aeS (α := α) 1000000000 k a b (fun a2 b_2 => r (max a2 (w64 (0 - a2)))) r (by omega) hk
 have hb := aka ha ha1 hb hb1
 unfold gcdI at hb ⊢
 rw [h2, eQ (by omega) (by omega)]
 congr 1
 omega
theorem acm (k : Nat) (a b : Int) (r : Int → Option α) (ha : -1000000000 ≤ a) (ha1 : a ≤ 1000000000) (hb : -1000000000 ≤ b) (hb1 : b ≤ 1000000000) (hk : 1000000000 < k) : Pj k a b r = r (gcdI a b) := by
 unfold Pj adu
 obtain ⟨g, h1, h2⟩ := acK (α := α) 1000000000 k a b (fun a2 b_2 => Jz k a2 fun v => r v) r (by omega) hk
 have hb := aka ha ha1 hb hb1
 unfold gcdI at hb ⊢
 rw [h2, aeg _ _ _ (by omega) (by omega)]
 congr 1
 omega
def prim (a b : Int) : Int × Int := (Int.tdiv a (gcdI a b), Int.tdiv b (gcdI a b))
theorem afN (k : Nat) (a b : Int) (r : Int → Int → Option α) (ha : -1000000000 ≤ a) (ha1 : a ≤ 1000000000) (hb : -1000000000 ≤ b) (hb1 : b ≤ 1000000000) (hk : 1000000000 < k) (h : a ≠ 0 ∨ b ≠ 0) : Tj k a b r = r (prim a b).1 (prim a b).2 := by
 have hp := aoO h
 have h1 := afs a (gcdI a b)
 have h2 := afs b (gcdI a b)
 unfold Tj aaf prim
 rw [aav k a b _ ha ha1 hb hb1 hk]
 simp only
 rw [aan (show gcdI a b ≠ 0 by omega), eQ (by omega) (by omega), eQ (by omega) (by omega)]
 rfl
theorem aqZ {p q : Int} (hq : 0 < q) (hq1 : q ≤ 1000000) (hp : -1000000 ≤ p) (hp1 : p ≤ 1000000) : w64 (p - w64 (p / q * q)) = p % q := by
 have h1 := Int.emod_add_mul_ediv p q
 have h2 := Int.emod_nonneg p (b := q) (by omega)
 have h3 := Int.emod_lt_of_pos p hq
 have e : p / q * q = q * (p / q) := Int.mul_comm _ _
 rw [e, eQ (n := q * (p / q)) (by omega) (by omega), eQ (by omega) (by omega)]
 omega
theorem aba : ∀ (n k : Nat) (p q : Int) (out : List Int) b0 (r0 : List Int → Option α), -1000000 ≤ p → p ≤ 1000000 → 0 ≤ q → q ≤ 1000000 → q < n → n ≤ k → out.length + n ≤ 1000000000 → ∃ p', xW k p q out b0 r0 = b0 p' 0 (out ++ cfE n p q)
 | 0, k, p, q, out, b0, r0, hp, hp1, hq, hq1, hn, hk, hl => by omega
 | n + 1, 0, p, q, out, b0, r0, hp, hp1, hq, hq1, hn, hk, hl => by omega
 | n + 1, k + 1, p, q, out, b0, r0, hp, hp1, hq, hq1, hn, hk, hl => by
   by_cases h0 : q = 0
   ·subst h0
    exact ⟨p, by simp [xW, Qx, cfE]⟩
   ·have h2 := Int.emod_nonneg p (b := q) (by omega)
    have h3 := Int.emod_lt_of_pos p (b := q) (by omega)
    obtain ⟨p', e⟩ := aba n k q (p % q) (out ++ [p / q]) b0 r0 (by omega) hq1 h2 (by omega) (by omega) (by omega) (by simp; omega)
    refine ⟨p', ?_⟩
    rw [xW, Qx, aan h0, Bool.not_false, cond_true, adH _ _ _ _ (by omega) (by omega) (by omega), DW (by rw [nZ]; omega), cond_true, aqZ (by omega) hq1 hp hp1, e]
    simp [cfE, h0]
def cfX (p q : Int) : List Int := cfE 1000002 p q
theorem agS (k : Nat) (hk : 1000002 ≤ k) (p q : Int) (r : List Int → Option α) (hp : -1000000 ≤ p) (hp1 : p ≤ 1000000) (hq : 0 ≤ q) (hq1 : q ≤ 1000000) : WQ k p q r = r (cfX p q) := by
 unfold WQ aaY cfX
 obtain ⟨p', e⟩ := aba (α := α) 1000002 k p q [] (fun _ _ out => r out) r hp hp1 hq hq1 (by omega) hk (by simp)
 simpa using e
theorem ak7 (p q : Int) : (cfX p q).length ≤ 1000002 := agp _ _ _
theorem acs : ∀ (m : Nat) (n β s u v rest next : Int), (s = 1 ∨ s = -1) → 0 ≤ u → u ≤ n → 0 ≤ v → v ≤ n → 0 ≤ rest → rest ≤ n → 0 ≤ next → next ≤ n → n ≤ 1000000000 → u * next + v * rest = n → n ∣ s * u * β - rest → n ∣ -s * v * β - next → next ≤ m →
 ∃ X g bef : Int, -n ≤ X ∧ X ≤ n ∧ n ∣ X * β - g ∧ g = gcdI rest next ∧ (∀ k, m < k → ∀ a2 a3 p q b0 (r0 : Int → Int → Option α), vJ k n (s * u) (-s * v) rest next a2 a3 p q b0 r0 = b0 n X bef g 0 a2 a3 p q) ∧
   (∀ k, m < k → ∀ b0 (r0 : Int → Option α), xK k n rest next (s * u) (-s * v) b0 r0 = b0 n g 0 X bef)
 | m, n, β, s, u, v, rest, next, hs, hu, hu2, hv, hv2, hr, hr2, hn, hn2, hb, he, d1, d2, hm => by
   by_cases hz : next = 0
   ·subst hz
    refine ⟨s * u, rest, -s * v, ?_, ?_, d1, ?_, fun k hk a2 a3 p q b0 r0 => ?_, fun k hk b0 r0 => ?_⟩
    ·rcases hs with rfl | rfl <;> omega
    ·rcases hs with rfl | rfl <;> omega
    ·unfold gcdI; rw [Int.gcd_zero_right]; omega
    ·obtain ⟨k, rfl⟩ : ∃ k', k = k' + 1 := ⟨k - 1, by omega⟩
     rw [vJ, PW]; rfl
    ·obtain ⟨k, rfl⟩ : ∃ k', k = k' + 1 := ⟨k - 1, by omega⟩
     rw [xK, Qk]; rfl
   ·have hpos : 0 < next := by omega
    have hq : Int.tdiv rest next = rest / next := Int.tdiv_eq_ediv_of_nonneg hr
    have hq0 : 0 ≤ rest / next := Int.ediv_nonneg hr (by omega)
    have hd := ajA (a := rest) hpos
    generalize rest / next = t at hq hq0 hd
    have c1 : next * t = t * next := Int.mul_comm _ _
    have tv : 0 ≤ t * v := Int.mul_nonneg hq0 hv
    have e2 : v * (rest - t * next) + (u + t * v) * next = n := by rw [← he]; grind
    have p1 : 0 ≤ v * (rest - t * next) := Int.mul_nonneg hv (by omega)
    have p2 : (u + t * v) * 1 ≤ (u + t * v) * next := Int.mul_le_mul_of_nonneg_left (by omega) (by omega)
    have tn : 0 ≤ t * next := Int.mul_nonneg hq0 hn
    have d2' : n ∣ -s * v * β - next := d2
    have d3 : n ∣ - -s * (u + t * v) * β - (rest - t * next) := by
     have e : - -s * (u + t * v) * β - (rest - t * next) = (s * u * β - rest) - t * (-s * v * β - next) := by grind
     rw [e]
     exact Int.dvd_sub d1 (Int.dvd_trans d2 (Int.dvd_mul_left _ _))
    obtain ⟨X, g, bef, x1, x2, x3, x4, f1, f2⟩ := acs (m - 1) n β (-s) v (u + t * v) next (rest - t * next) (by omega) hv hv2 (by omega) (by omega) hn hn2 (by omega) (by omega) hb e2 d2' d3 (by omega)
    have eb : -s * (-s * v) = -s * -s * v := by grind
    have ex : s * u - t * (-s * v) = - -s * (u + t * v) := by grind
    have w1 : w64 (t * (-s * v)) = t * (-s * v) := by
     have : t * (-s * v) = -s * (t * v) := by grind
     rw [this]
     rcases hs with rfl | rfl
     ·exact eQ (by omega) (by omega)
     ·exact eQ (by omega) (by omega)
    have w2 : w64 (s * u - t * (-s * v)) = - -s * (u + t * v) := by
     rw [ex]
     rcases hs with rfl | rfl
     ·exact eQ (by omega) (by omega)
     ·exact eQ (by omega) (by omega)
    have w3 : w64 (t * next) = t * next := eQ (by omega) (by omega)
    have w4 : w64 (rest - t * next) = rest - t * next := eQ (by omega) (by omega)
    have w5 : w64 t = t := by
     have : t * 1 ≤ t * next := Int.mul_le_mul_of_nonneg_left (by omega) hq0
     exact eQ (by omega) (by omega)
    refine ⟨X, g, bef, x1, x2, x3, ?_, fun k hk a2 a3 p q b0 r0 => ?_, fun k hk b0 r0 => ?_⟩
    ·rw [x4]; unfold gcdI
     rw [Int.gcd_sub_mul_right_right, Int.gcd_comm]
    ·obtain ⟨k, rfl⟩ : ∃ k', k = k' + 1 := ⟨k - 1, by omega⟩
     rw [vJ, PW, decide_eq_false hz, Bool.not_false, cond_true, cond_false, hq, w5, w1, w2, w3, w4]
     exact f1 k (by omega) a2 a3 p q b0 r0
    ·obtain ⟨k, rfl⟩ : ∃ k', k = k' + 1 := ⟨k - 1, by omega⟩
     rw [xK, Qk, decide_eq_false hz, Bool.not_false, cond_true, cond_false, hq, w5, w1, w2, w3, w4]
     exact f2 k (by omega) b0 r0
 termination_by m => m
 decreasing_by omega
def bef (x y : Int × Int × Int) : Bool := bif !decide (x.1 = y.1) then decide (x.1 < y.1) else bif !decide (x.2.1 = y.2.1) then decide (x.2.1 < y.2.1) else decide (x.2.2 < y.2.2)
structure oW (l : List Int) : Prop where
 len : l.length ≤ 4096
 byte : ∀ x ∈ l, 0 ≤ x ∧ x ≤ 255
def AtC (l : List Int) (a : Int) : Prop := 0 ≤ a ∧ a ≤ l.length
theorem aqi (h : Int) : 0 ≤ w64 (IntKind.wrap .u64 ((BitVec.ofInt 64 h &&& BitVec.ofInt 64 1073741823).toNat : Nat)) ∧ w64 (IntKind.wrap .u64 ((BitVec.ofInt 64 h &&& BitVec.ofInt 64 1073741823).toNat : Nat)) ≤ 1073741823 := by
 have h1 : (BitVec.ofInt 64 h &&& BitVec.ofInt 64 1073741823).toNat ≤ 1073741823 := by
  rw [BitVec.toNat_and]
  exact Nat.le_trans Nat.and_le_right (by decide)
 rw [IntWalk.u64_in _ (by omega), eQ (by omega) (by omega)]
 omega
def lcg (h : Int) : Int := IntKind.wrap .u64 ((IntKind.wrap .u64 (h * 6364136223846793005)) + 1442695040888963407)
def lcgX (h : Int) : Int := w64 (IntKind.wrap .u64 ((BitVec.ofInt 64 (Int.fdiv (lcg h) (2 ^ 31)) &&& BitVec.ofInt 64 1073741823).toNat : Nat))
theorem aqM (h : Int) : 0 ≤ lcgX h ∧ lcgX h ≤ 1073741823 := aqi _
theorem agR (l : List Int) (a : Int) (k : Nat) (h n : Int) (r : Int → Int → Int → Option α) : iy k l a h n r = bif decide (n < 1) then r 0 a h else bif decide (a < (l.length : Nat)) then (bif decide (0 ≤ a) && decide (a < (l.length : Nat)) then (l[a.toNat]?).bind fun e => bif decide (n = 0) then none else r (Int.tmod (w64 (lcgX h + w64 e)) n) (w64 (a + 1)) (lcg h) else none) else bif decide (n = 0) then none else r (Int.tmod (lcgX h) n) a (lcg h) := rfl
theorem tY {l : List Int} (hl : oW l) {a : Int} (ha : AtC l a) (k : Nat) (h n : Int) : ∃ v a' h', AtC l a' ∧ 0 ≤ v ∧ (v < n ∨ (n < 1 ∧ v = 0)) ∧ ∀ r : Int → Int → Int → Option α, iy k l a h n r = r v a' h' := by
 have hlen := hl.len
 unfold AtC at ha
 by_cases h1 : n < 1
 ·exact ⟨0, a, h, ha, by omega, .inr ⟨h1, rfl⟩, fun r => by rw [agR, nz h1, cond_true]⟩
 ·have hz : decide (n = 0) = false := decide_eq_false (by omega)
  have h1' : decide (n < 1) = false := decide_eq_false h1
  obtain ⟨m1, m2⟩ := aqM h
  by_cases h2 : a < l.length
  ·have hlt : a.toNat < l.length := by omega
   have hb := hl.byte l[a.toNat] (List.getElem_mem hlt)
   refine ⟨Int.tmod (lcgX h + l[a.toNat]) n, a + 1, lcg h, by unfold AtC; omega, Int.tmod_nonneg _ (by omega), .inl (Int.tmod_lt_of_pos _ (by omega)), fun r => ?_⟩
   rw [agR, h1', cond_false, nz h2, cond_true, jJ ha.1, Bool.and_true, cond_true, List.getElem?_eq_getElem hlt, Option.bind_some, hz, cond_false, eQ (n := a + 1) (by omega) (by omega), eQ (n := l[a.toNat]) (by omega) (by omega), eQ (n := lcgX h + l[a.toNat]) (by omega) (by omega)]
  ·refine ⟨Int.tmod (lcgX h) n, a, lcg h, ha, Int.tmod_nonneg _ (by omega), .inl (Int.tmod_lt_of_pos _ (by omega)), fun r => ?_⟩
   rw [agR, h1', cond_false, zX (by omega), cond_false, hz, cond_false]
theorem ajT {l : List Int} (hl : oW l) : ∀ (m k i : Nat) (s h : Int) (r : Int → Int → Option α), i + m = l.length → m < k → ∃ h', ∀ (r : Int → Int → Option α), vY k i l s h (fun _ _ s1 s2 => r s1 s2) r = r s h'
 | 0, k + 1, i, s, h, r, hi, _ => ⟨h, fun r => by
   rw [vY, Nw, zX (by omega), cond_false]⟩
 | m + 1, k + 1, i, s, h, r, hi, hk => by
   have hlen := hl.len
   have en : w64 ((i : Int) + 1) = ((i + 1 : Nat) : Int) := by rw [eQ (by omega) (by omega)]; omega
   have hlt : i < l.length := by omega
   obtain ⟨h', ih⟩ := ajT hl m k (i + 1) s (IntKind.wrap .u64 ((IntKind.wrap .u64 ((IntKind.wrap .u64 (h * 1099511628211)) + (IntKind.wrap .u64 l[i]))) + 107)) r (by omega) (by omega)
   refine ⟨h', fun r => ?_⟩
   rw [vY, Nw, nz (by omega), cond_true, nz (by omega), cond_true, jJ (by omega), Bool.and_true, cond_true, Int.toNat_natCast, List.getElem?_eq_getElem hlt, Option.bind_some, en]
   exact ih r
 | _, 0, _, _, _, _, _, hk => by omega
theorem Zq {l : List Int} (hl : oW l) (k : Nat) (hk : 4096 < k) : ∃ h, AtC l 0 ∧ ∀ r : Int → Int → Option α, lJ k l r = r 0 h := by
 have hlen := hl.len
 obtain ⟨h', e⟩ := ajT (α := α) hl l.length k 0 0 (IntKind.wrap .u64 (12971 + (IntKind.wrap .u64 (l.length : Int)))) (fun _ _ => none) (by omega) (by omega)
 exact ⟨h', ⟨by omega, by omega⟩, fun r => e r⟩
theorem aai {l : List Int} (hl : oW l) {a : Int} (ha : AtC l a) (k : Nat) (h : Int) {list : List Int} (h0 : 0 < list.length) (h1 : list.length ≤ 1000) : ∃ v a' h', AtC l a' ∧ v ∈ list ∧ ∀ r : Int → Int → Int → Option α, oz k l a h list r = r v a' h' := by
 obtain ⟨v, a', h', i1, i2, i3, i4⟩ := tY (α := α) hl ha k h (list.length : Int)
 have hv : v < list.length := by omega
 have hlt : v.toNat < list.length := by omega
 refine ⟨list[v.toNat], a', h', i1, List.getElem_mem hlt, fun r => ?_⟩
 unfold oz Zw
 rw [i4, jJ i2, nz hv, Bool.and_true, cond_true, List.getElem?_eq_getElem hlt, Option.bind_some]
theorem apC {l : List Int} (hl : oW l) {a : Int} (ha : AtC l a) (k : Nat) (h : Int) {most : Int} (h0 : 0 ≤ most) (h1 : most ≤ 1000000000) : ∃ v a' h', AtC l a' ∧ -4611686018427387904 ≤ v ∧ v ≤ 1099511627776 ∧ ∀ r : Int → Int → Int → Option α, NW k l a h most r = r v a' h' := by
 have w : w64 (most + 1) = most + 1 := eQ (by omega) (by omega)
 obtain ⟨v, a1, h1', i1, i2, i3, i4⟩ := tY (α := α) hl ha k h 14
 by_cases hv : v = 0
 ·obtain ⟨u, a2, h2, j1, j2, j3⟩ := aai (α := α) hl i1 k h1' (list := [(-1), (w64 (most + 1)), 1099511627776, (-4611686018427387904)]) (by simp) (by simp)
  refine ⟨u, a2, h2, j1, ?_, ?_, fun r => ?_⟩
  ·simp only [List.mem_cons, List.not_mem_nil, or_false] at j2; omega
  ·simp only [List.mem_cons, List.not_mem_nil, or_false] at j2; omega
  ·unfold NW Uk
   rw [i4, decide_eq_true hv, cond_true, j3]
 ·obtain ⟨u, a2, h2, j1, j2, j3, j4⟩ := tY (α := α) hl i1 k h1' (w64 (most + 1))
  refine ⟨u, a2, h2, j1, by omega, by omega, fun r => ?_⟩
  unfold NW Uk
  rw [i4, decide_eq_false hv, cond_false, j4]
theorem ah6 {l : List Int} (hl : oW l) {a : Int} (ha : AtC l a) (k : Nat) (h : Int) {most : Int} (h0 : 0 ≤ most) (h1 : most ≤ 1000000000) : ∃ x y a' h', AtC l a' ∧ (-most ≤ x ∧ x ≤ most) ∧ (-most ≤ y ∧ y ≤ most) ∧ ∀ r : Int → Int → Int → Int → Option α, uy k l a h most r = r x y a' h' := by
 have w : w64 ((w64 (2 * most)) + 1) = 2 * most + 1 := by rw [eQ (n := 2 * most) (by omega) (by omega), eQ (by omega) (by omega)]
 obtain ⟨v, a1, h1', i1, i2, i3, i4⟩ := tY (α := α) hl ha k h (w64 ((w64 (2 * most)) + 1))
 obtain ⟨u, a2, h2', j1, j2, j3, j4⟩ := tY (α := α) hl i1 k h1' (w64 ((w64 (2 * most)) + 1))
 refine ⟨v - most, u - most, a2, h2', j1, by omega, by omega, fun r => ?_⟩
 unfold uy Qy
 rw [i4, j4, eQ (n := v - most) (by omega) (by omega), eQ (n := u - most) (by omega) (by omega)]
theorem akb {l : List Int} (hl : oW l) {a : Int} (ha : AtC l a) (k : Nat) (h : Int) : ∃ v a' h', AtC l a' ∧ 3 ≤ v ∧ v ≤ 1000000 ∧ ∀ r : Int → Int → Int → Option α, Gy k l a h r = r v a' h' := by
 obtain ⟨u, a2, h2, j1, j2, j3⟩ := aai (α := α) hl ha k h (list := [3, 6, 12, 100, 1000, 1000000]) (by simp) (by simp)
 refine ⟨u, a2, h2, j1, ?_, ?_, fun r => ?_⟩
 ·simp only [List.mem_cons, List.not_mem_nil, or_false] at j2; omega
 ·simp only [List.mem_cons, List.not_mem_nil, or_false] at j2; omega
 ·unfold Gy aaj
  rw [j3]
theorem amP {l : List Int} (hl : oW l) {a : Int} (ha : AtC l a) (k : Nat) (h x y : Int) : ∃ x' y' a' h', AtC l a' ∧ ∀ r : Int → Int → Int → Int → Option α, Bj k l a h x y r = r x' y' a' h' := by
 obtain ⟨v, a1, h1', i1, i2, i3, i4⟩ := tY (α := α) hl ha k h 40
 by_cases hv : v = 0
 ·obtain ⟨u, a2, h2, j1, j2, j3, j4⟩ := tY (α := α) hl i1 k h1' 2
  obtain ⟨z, a3, h3, q1, q2, q3⟩ := aai (α := α) hl j1 k h2 (list := [1000001, (-1000001), 1099511627776]) (by simp) (by simp)
  rcases (show u = 0 ∨ u = 1 by omega) with rfl | rfl
  ·refine ⟨z, y, a3, h3, q1, fun r => ?_⟩
   unfold Bj QZ
   rw [i4, decide_eq_true hv, cond_true, j4, q3]
   simp
  ·refine ⟨x, z, a3, h3, q1, fun r => ?_⟩
   unfold Bj QZ
   rw [i4, decide_eq_true hv, cond_true, j4, q3]
   simp
 ·refine ⟨x, y, a1, h1', i1, fun r => ?_⟩
  unfold Bj QZ
  rw [i4, decide_eq_false hv, cond_false]
theorem aoN {l : List Int} (hl : oW l) {a : Int} (ha : AtC l a) (k : Nat) (h : Int) : ∃ x y a' h', AtC l a' ∧ ∀ r : Int → Int → Int → Int → Option α, Px k l a h r = r x y a' h' := by
 obtain ⟨v, a1, h1, i1, i2, i3, i4⟩ := akb (α := α) hl ha k h
 obtain ⟨x, y, a2, h2, j1, j2, j3, j4⟩ := ah6 (α := α) hl i1 k h1 (most := v) (by omega) (by omega)
 obtain ⟨x', y', a3, h3, q1, q2⟩ := amP (α := α) hl j1 k h2 x y
 refine ⟨x', y', a3, h3, q1, fun r => ?_⟩
 unfold Px YV
 rw [i4, j4, q2]
theorem ad1 {l : List Int} (hl : oW l) {a : Int} (ha : AtC l a) (k : Nat) (hk : 1000000000 < k) (h : Int) {most : Int} (h0 : 0 ≤ most) (h1 : most ≤ 1000000) : ∃ x y a' h', AtC l a' ∧ ∀ r : Int → Int → Int → Int → Option α, oJ k l a h most r = r x y a' h' := by
 obtain ⟨x, y, a1, h1, i1, x1, y1, e1⟩ := ah6 (α := α) hl ha k h (most := most) h0 (by omega)
 by_cases hz : x = 0 ∧ y = 0
 ·exact ⟨1, 0, a1, h1, i1, fun r => by simp [oJ, Aw, e1, hz.1, hz.2]⟩
 ·refine ⟨(prim x y).1, (prim x y).2, a1, h1, i1, fun r => ?_⟩
  have hc : (decide (x = 0) && decide (y = 0)) = false := by
   rw [Bool.and_eq_false_iff, decide_eq_false_iff_not, decide_eq_false_iff_not]
   omega
  unfold oJ Aw
  rw [e1, hc, cond_false, afN k x y _ (by omega) (by omega) (by omega) (by omega) hk (by omega)]
theorem aj7 : ∀ (rest : List (Int × Int)) (k i : Nat) (s : List (Int × Int)) (r : Int → Option α), s.drop i = rest → s.length ≤ big → i ≤ s.length → rest.length < k → vW k i s (fun _ _ => r 0) r = r (if rest.all (fun e => crd e.1 && crd e.2) then 0 else 1)
 | [], k + 1, i, s, r, hd, hb, hi, _ => by
   have := Sv hd
   rw [vW, Nq, zX (by omega)]
   simp
 | e :: rest, k + 1, i, s, r, hd, hb, hi, hk => by
   obtain ⟨h1, h2, h3⟩ := Jj hd
   rw [nZ] at hb
   have en : w64 ((i : Int) + 1) = ((i + 1 : Nat) : Int) := by rw [eQ (by omega) (by omega)]; omega
   simp only [List.length_cons] at hk
   rw [vW, Nq, nz (by omega), jJ (by omega), cond_true, Bool.and_true, cond_true, Int.toNat_natCast, h1, Option.bind_some, Pv]
   cases hc : (crd e.1 && crd e.2) with
   | false => simp [hc]
   | true =>
     rw [Bool.not_true, cond_false, en, aj7 rest k (i + 1) s r h2 (by rw [nZ]; omega) (by omega) (by omega)]
     simp only [List.all_cons, hc, Bool.true_and]
 | _, 0, _, _, _, _, _, _, hk => by omega
theorem apz (k : Nat) (s : List (Int × Int)) (hs : s.length ≤ big) (hk : s.length < k) (r : Int → Option α) : LQ k s r = r (if s.all (fun e => crd e.1 && crd e.2) then 0 else 1) := by
 have := aj7 (α := α) s k 0 s r (by simp) hs (by omega) hk
 unfold LQ aar
 simpa using this
theorem agi : ∀ (rest : List (Int × Int)) (k i : Nat) (s : List (Int × Int)) b (r : Bool → Option α), s.drop i = rest → s.length ≤ big → i ≤ s.length → rest.length < k → vZ k i s s b r = b s.length s s
 | [], k + 1, i, s, b, r, hd, hb, hi, _ => by
   have := Sv hd
   have : i = s.length := by omega
   subst this
   rw [vZ, Ox, zX (by omega)]
   rfl
 | e :: rest, k + 1, i, s, b, r, hd, hb, hi, hk => by
   obtain ⟨h1, h2, h3⟩ := Jj hd
   rw [nZ] at hb
   have en : w64 ((i : Int) + 1) = ((i + 1 : Nat) : Int) := by rw [eQ (by omega) (by omega)]; omega
   rw [vZ, Ox, nz (by omega), jJ (by omega), cond_true, Bool.and_true, cond_true, Int.toNat_natCast, h1, Option.bind_some, cond_true, Option.bind_some, decide_eq_true rfl, decide_eq_true rfl, Bool.and_self, Bool.not_true, cond_false, en]
   exact agi rest k (i + 1) s b r h2 (by rw [nZ]; omega) (by omega) (by simp at hk; omega)
 | _, 0, _, _, _, _, _, _, _, hk => by omega
theorem aek (k : Nat) (s : List (Int × Int)) (r : Bool → Option α) (hs : s.length ≤ big) (hk : s.length < k) : gJ k s s r = r true := by
 unfold gJ aaw
 rw [decide_eq_true rfl, Bool.not_true, cond_false]
 have := agi s k 0 s (fun _ _ _ => r true) r rfl hs (by omega) hk
 simpa using this
def isF (e : Int × Int) : Bool := crd e.1 && crd e.2 && (decide (gcdI e.1 e.2 = 1) && (decide (0 < e.2) || decide (e.2 = 0) && decide (e.1 = 1)))
theorem ahX {a : Int} (h : crd a = true) : -1000000000 ≤ a ∧ a ≤ 1000000000 := by
 simp only [crd, Bool.and_eq_true, decide_eq_true_eq] at h
 omega
theorem Ij (k : Nat) (hk : 1000000000 < k) (a b : Int) (r : Bool → Option α) : Bz k a b r = r (isF (a, b)) := by
 unfold Bz abM isF
 rw [Pv]
 cases h : (crd a && crd b) with
 | false => simp
 | true =>
   simp only [Bool.and_eq_true] at h
   have h1 := ahX h.1
   have h2 := ahX h.2
   rw [cond_true, aav k a b _ h1.1 h1.2 h2.1 h2.2 hk]
   simp only [Bool.true_and]
   cases decide (gcdI a b = 1) <;> cases decide (0 < b) <;> cases decide (b = 0) <;> rfl
theorem aaO (k : Nat) (hk : 1000000000 < k) (a b : Int) (r : Bool → Option α) : dZ k a b r = r (isF (a, b)) := by
 unfold dZ Vq isF pJ yw Ew IW
 rw [Rw]
 cases h : (crd a && crd b) with
 | false => simp
 | true =>
   simp only [Bool.and_eq_true] at h
   have h1 := ahX h.1
   have h2 := ahX h.2
   rw [cond_true, acm k a b _ h1.1 h1.2 h2.1 h2.2 hk]
   simp only [Bool.true_and]
   cases decide (gcdI a b = 1) with
   | false => rfl
   | true =>
     rw [cond_true, Bool.true_and]
     by_cases p : 0 < b
     ·simp [p, Int.le_of_lt p]
     ·by_cases q : b = 0
      ·subst q; simp
      ·have : ¬ 0 ≤ b := by omega
       simp [p, q, this]
def vV (s : List (Int × Int)) : Int := if s.all (fun e => crd e.1 && crd e.2) then (if s.all isF then 0 else 2) else 1
theorem abC (k : Nat) (hk0 : 1000000000 < k) (s : List (Int × Int)) (hs : s.length ≤ big) (hk : s.length + 1000000001 < k) (r : Int → Option α) : jv k s r = r (vV s) := by
 unfold jv MZ vV
 rw [ab6 k s hs (by omega)]
 cases s.all fun e => crd e.1 && crd e.2 with
 | false => rfl
 | true =>
   rw [Bool.not_true, cond_false, if_pos rfl]
   unfold jQ kZ jW kX
   obtain ⟨K, hK⟩ : ∃ K, K = 1000000001 := ⟨_, rfl⟩
   obtain ⟨m, rfl⟩ : ∃ m, k = m + K := ⟨k - K, by omega⟩
   have h := adV (α := α) (p := fun e : Int × Int => !isF e) (L := fun n => gK (n + K))
    (fun k x i s b r => by
      rw [show k + 1 + K = (k + K) + 1 by omega]
      simp only [gK, kW, yV, IK, aaO (k + K) (by omega)]) s m 0 s
   have h0 : ((0 : Nat) : Int) = 0 := rfl
   rw [h0] at h
   rw [h _ _ (by simp) hs (by omega) (by omega)]
   cases hf : s.findIdx? (fun e : Int × Int => !isF e) with
   | none =>
     rw [List.findIdx?_eq_none_iff] at hf
     have : s.all isF = true := List.all_eq_true.2 fun e he => by simpa using hf e he
     simp [this]
   | some j =>
     rw [List.findIdx?_eq_some_iff_getElem] at hf
     obtain ⟨hj, hp, _⟩ := hf
     have : s.all isF = false := by
      rw [List.all_eq_false]
      exact ⟨s[j], List.getElem_mem hj, by simpa using hp⟩
     rw [this]
     simp
theorem alB : ∀ (rest : List (Int × Int)) (k i : Nat) (s : List (Int × Int)) (r : Int → Option α), s.drop i = rest → s.length ≤ big → i ≤ s.length → rest.length + 1000000000 < k → vX k i s (fun _ _ => r 0) r = r (if rest.all isF then 0 else 2)
 | [], k + 1, i, s, r, hd, hb, hi, _ => by
   have := Sv hd
   rw [vX, Ny, zX (by omega)]
   simp
 | e :: rest, k + 1, i, s, r, hd, hb, hi, hk => by
   obtain ⟨h1, h2, h3⟩ := Jj hd
   rw [nZ] at hb
   have en : w64 ((i : Int) + 1) = ((i + 1 : Nat) : Int) := by rw [eQ (by omega) (by omega)]; omega
   simp only [List.length_cons] at hk
   rw [vX, Ny, nz (by omega), jJ (by omega), cond_true, Bool.and_true, cond_true, Int.toNat_natCast, h1, Option.bind_some, Ij k (by omega)]
   cases hc : isF (e.1, e.2) with
   | false =>
     have hc' : isF e = false := hc
     simp [hc']
   | true =>
     have hc' : isF e = true := hc
     rw [Bool.not_true, cond_false, en, alB rest k (i + 1) s r h2 (by rw [nZ]; omega) (by omega) (by omega)]
     simp only [List.all_cons, hc', Bool.true_and]
 | _, 0, _, _, _, _, _, _, hk => by omega
theorem abj (k : Nat) (s : List (Int × Int)) (hs : s.length ≤ big) (hk : s.length + 1000000000 < k) (r : Int → Option α) : rq k s r = r (vV s) := by
 unfold rq aay vV
 rw [apz k s hs (by omega)]
 cases s.all fun e => crd e.1 && crd e.2 with
 | false => rfl
 | true =>
   have := alB (α := α) s k 0 s r (by simp) hs (by omega) hk
   simpa using this
def mid (a : Int) : Prop := -1000000000000 ≤ a ∧ a ≤ 1000000000000
theorem PY {a : Int} (h : crd a = true) : -1000000 ≤ a ∧ a ≤ 1000000 := by
 simp only [crd, Bool.and_eq_true, decide_eq_true_eq] at h
 exact h
def IV (x : Int × Int) : Int × Int := if x.2 < 0 ∨ (x.2 = 0 ∧ x.1 < 0) then (-x.1, -x.2) else x
theorem SX (k : Nat) {a b : Int} (ha : mid a) (hb : mid b) (r : Int → Int → Option α) : lW k a b r = r (IV (a, b)).1 (IV (a, b)).2 := by
 unfold mid at ha hb
 unfold lW LX IV
 rw [eQ (n := 0 - a) (by omega) (by omega), eQ (n := 0 - b) (by omega) (by omega), Int.zero_sub, Int.zero_sub]
 by_cases h1 : b < 0
 ·simp [h1]
 ·by_cases h2 : b = 0
  ·by_cases h3 : a < 0 <;> simp [h2, h3]
  ·simp [h1, h2]
theorem OZ (k : Nat) {a b : Int} (ha : mid a) (hb : mid b) (r : Int → Int → Option α) : oQ k a b r = r (IV (a, b)).1 (IV (a, b)).2 := by
 have ha' := ha
 have hb' := hb
 unfold mid at ha hb
 have e : ∀ r : Int → Int → Option α, nX k 0 0 a b r = r (-a) (-b) := fun r => by
  unfold nX Ez jy sJ
  rw [eQ (n := -1 * a) (by omega) (by omega), eQ (n := -1 * b) (by omega) (by omega), eQ (by omega) (by omega), eQ (by omega) (by omega)]
  congr 1 <;> omega
 rw [← SX k ha' hb' r]
 unfold oQ NZ lW LX
 rw [e, eQ (n := 0 - a) (by omega) (by omega), eQ (n := 0 - b) (by omega) (by omega), Int.zero_sub, Int.zero_sub]
def dtFa (a b : Int × Int) : Int := a.1 * b.2 - a.2 * b.1
def YQ (a b : Int × Int) : Bool := decide (dtFa a b = 1) || decide (dtFa a b = -1)
theorem aeC {a b : Int} (ha : crd a = true) (hb : crd b = true) : mid (a * b) := by
 have h1 := PY ha
 have h2 := PY hb
 have e1 : a * b ≤ (a * b).natAbs := Int.le_natAbs
 have e2 : -(a * b) ≤ (a * b).natAbs := by rw [← Int.natAbs_neg]; exact Int.le_natAbs
 have e3 : (a * b).natAbs ≤ 1000000 * 1000000 := by
  rw [Int.natAbs_mul]
  exact Nat.mul_le_mul (by omega) (by omega)
 constructor <;> omega
theorem afg (k : Nat) {a b c d : Int} (ha : crd a = true) (hb : crd b = true) (hc : crd c = true) (hd : crd d = true) (r : Int → Option α) : Vx k a b c d r = r (dtFa (a, b) (c, d)) ∧ KJ k a b c d r = r (dtFa (a, b) (c, d)) := by
 have h1 := aeC ha hd
 have h2 := aeC hb hc
 unfold mid at h1 h2
 constructor
 ·unfold Vx aa0 dtFa
  rw [eQ (n := a * d) (by omega) (by omega), eQ (n := b * c) (by omega) (by omega), eQ (by omega) (by omega)]
 ·unfold KJ abg dtFa
  rw [eQ (n := a * d) (by omega) (by omega), eQ (n := b * c) (by omega) (by omega), eQ (by omega) (by omega)]
theorem aaN (k : Nat) {a b c d : Int} (ha : crd a = true) (hb : crd b = true) (hc : crd c = true) (hd : crd d = true) (r : Bool → Option α) : Hw k a b c d r = r (YQ (a, b) (c, d)) ∧ tJ k a b c d r = r (YQ (a, b) (c, d)) := by
 have h1 := aeC ha hd
 have h2 := aeC hb hc
 unfold mid at h1 h2
 constructor
 ·unfold Hw aak YQ
  rw [(afg k ha hb hc hd _).1]
  cases decide (dtFa (a, b) (c, d) = 1) <;> rfl
 ·unfold tJ VW YQ
  rw [(afg k ha hb hc hd _).2, aeg _ _ _ (by unfold dtFa; simp only; omega) (by unfold dtFa; simp only; omega)]
  congr 1
  rw [Bool.eq_iff_iff]
  simp only [Bool.or_eq_true, decide_eq_true_eq]
  omega
def Kw (x : Int × Int) : Int × Int × Int := if crd x.1 && crd x.2 then (x.1, x.2, 0) else (0, 0, 3)
theorem NY (k : Nat) (x : Int × Int) (r : Int → Int → Int → Option α) : tK k x.1 x.2 r = r (Kw x).1 (Kw x).2.1 (Kw x).2.2 ∧ qw k x.1 x.2 r = r (Kw x).1 (Kw x).2.1 (Kw x).2.2 := by
 unfold tK aaq qw VX Kw
 rw [Pv, Rw]
 cases crd x.1 && crd x.2 <;> exact ⟨rfl, rfl⟩
theorem adP {s : List (Int × Int)} (h : vV s = 0) : ∀ e ∈ s, crd e.1 = true ∧ crd e.2 = true := by
 unfold vV at h
 split at h
 ·rename_i ha
  intro e he
  have := List.all_eq_true.1 ha e he
  simpa using this
 ·cases h
theorem ahD (k : Nat) {a b c d n : Int} (ha : crd a = true) (hb : crd b = true) (hc : crd c = true) (hd : crd d = true) (hn : n = 1 ∨ n = -1) (r : Int → Int → Option α) : iW k a b c d n r = r (a + n * c) (b + n * d) ∧ jy k a b c d n r = r (a + n * c) (b + n * d) ∧ mid (a + n * c) ∧ mid (b + n * d) := by
 have h1 := PY ha
 have h2 := PY hb
 have h3 := PY hc
 have h4 := PY hd
 unfold mid
 rcases hn with rfl | rfl
 ·refine ⟨?_, ?_, by omega, by omega⟩
  ·unfold iW oK
   rw [eQ (n := 1 * c) (by omega) (by omega), eQ (n := 1 * d) (by omega) (by omega), eQ (by omega) (by omega), eQ (by omega) (by omega)]
  ·unfold jy sJ
   rw [eQ (n := 1 * c) (by omega) (by omega), eQ (n := 1 * d) (by omega) (by omega), eQ (by omega) (by omega), eQ (by omega) (by omega)]
 ·refine ⟨?_, ?_, by omega, by omega⟩
  ·unfold iW oK
   rw [eQ (n := -1 * c) (by omega) (by omega), eQ (n := -1 * d) (by omega) (by omega), eQ (by omega) (by omega), eQ (by omega) (by omega)]
  ·unfold jy sJ
   rw [eQ (n := -1 * c) (by omega) (by omega), eQ (n := -1 * d) (by omega) (by omega), eQ (by omega) (by omega), eQ (by omega) (by omega)]
def tZ (a b : Int × Int) (n : Int) : Int × Int × Int := if vV [a, b] = 0 then (if YQ a b then Kw (IV (a.1 + n * b.1, a.2 + n * b.2)) else (0, 0, 5)) else (0, 0, vV [a, b])
theorem Qz (k : Nat) (hk : 1000000100 < k) (a b c d : Int) {n : Int} (hn : n = 1 ∨ n = -1) (r : Int → Int → Int → Option α) :
 IZ k a b c d n r = r (tZ (a, b) (c, d) n).1 (tZ (a, b) (c, d) n).2.1 (tZ (a, b) (c, d) n).2.2 ∧ EX k a b c d n r = r (tZ (a, b) (c, d) n).1 (tZ (a, b) (c, d) n).2.1 (tZ (a, b) (c, d) n).2.2 := by
 unfold IZ aax EX Yj tZ
 rw [abj k _ (by rw [nZ]; simp) (by simp; omega), abC k (by omega) _ (by rw [nZ]; simp) (by simp; omega)]
 by_cases h : vV [(a, b), (c, d)] = 0
 ·have hc := adP h
  obtain ⟨ha, hb⟩ := hc (a, b) (by simp)
  obtain ⟨hc, hd⟩ := hc (c, d) (by simp)
  rw [if_pos h, h]
  rw [(aaN k ha hb hc hd _).1, (aaN k ha hb hc hd _).2]
  cases YQ (a, b) (c, d) with
  | false => exact ⟨rfl, rfl⟩
  | true =>
    have hp := fun r => ahD (α := α) k ha hb hc hd hn r
    simp only [decide_true, cond_true, Bool.not_true, cond_false, if_true]
    rw [(hp _).1, (hp _).2.1, SX k (hp fun _ _ => none).2.2.1 (hp fun _ _ => none).2.2.2, OZ k (hp fun _ _ => none).2.2.1 (hp fun _ _ => none).2.2.2]
    exact ⟨(NY k _ _).1, (NY k _ _).2⟩
 ·rw [if_neg h]
  simp [h]
def abo (a b c : Int × Int) : Int × Int × Int := if vV [a, b, c] = 0 then (if YQ a b then (if c = IV (a.1 + 1 * b.1, a.2 + 1 * b.2) then Kw (IV (a.1 + -1 * b.1, a.2 + -1 * b.2)) else if c = IV (a.1 + -1 * b.1, a.2 + -1 * b.2) then Kw (IV (a.1 + 1 * b.1, a.2 + 1 * b.2)) else (0, 0, 5)) else (0, 0, 5)) else (0, 0, vV [a, b, c])
theorem alA (c x : Int × Int) : (decide (c.1 = x.1) && decide (c.2 = x.2)) = decide (c = x) := by
 rw [Bool.eq_iff_iff]
 simp [Prod.ext_iff]
theorem adb (k : Nat) (hk : 1000000100 < k) (a b c d e f : Int) (r : Int → Int → Int → Option α) :
 bZ k a b c d e f r = r (abo (a, b) (c, d) (e, f)).1 (abo (a, b) (c, d) (e, f)).2.1 (abo (a, b) (c, d) (e, f)).2.2 ∧ ay k a b c d e f r = r (abo (a, b) (c, d) (e, f)).1 (abo (a, b) (c, d) (e, f)).2.1 (abo (a, b) (c, d) (e, f)).2.2 := by
 unfold bZ KZ ay KX abo
 rw [abj k _ (by rw [nZ]; simp) (by simp; omega), abC k (by omega) _ (by rw [nZ]; simp) (by simp; omega)]
 by_cases h : vV [(a, b), (c, d), (e, f)] = 0
 ·have hcc := adP h
  obtain ⟨ha, hb⟩ := hcc (a, b) (by simp)
  obtain ⟨hc, hd⟩ := hcc (c, d) (by simp)
  rw [if_pos h, h]
  have hp := fun n hn r => ahD (α := α) k ha hb hc hd (n := n) hn r
  have m1 := (hp 1 (.inl rfl) fun _ _ => none).2.2
  have m2 := (hp (-1) (.inr rfl) fun _ _ => none).2.2
  simp only [decide_true, Bool.not_true, cond_false]
  simp only [(hp 1 (.inl rfl) _).1, (hp (-1) (.inr rfl) _).1, (hp 1 (.inl rfl) _).2.1, SX k m1.1 m1.2, SX k m2.1 m2.2, OZ k m1.1 m1.2]
  have hl : ∀ r : Int → Int → Option α, nX k a b c d r = r (a + -1 * c) (b + -1 * d) := fun r => by
   unfold nX Ez
   exact (hp (-1) (.inr rfl) _).2.1
  simp only [hl, OZ k m2.1 m2.2, (aaN k ha hb hc hd _).1, (aaN k ha hb hc hd _).2]
  have e1 := alA (e, f) (IV (a + 1 * c, b + 1 * d))
  have e2 := alA (e, f) (IV (a + -1 * c, b + -1 * d))
  simp only at e1 e2
  simp only [e1, e2]
  generalize IV (a + 1 * c, b + 1 * d) = U
  generalize IV (a + -1 * c, b + -1 * d) = V
  generalize (e, f) = w
  cases YQ (a, b) (c, d) with
  | false => exact ⟨rfl, rfl⟩
  | true =>
    by_cases h1 : w = U
    ·simp only [decide_eq_true h1, if_pos h1, Bool.not_true, cond_true, cond_false, if_true]
     exact ⟨(NY k _ _).1, (NY k _ _).2⟩
    ·by_cases h2 : w = V
     ·simp only [decide_eq_false h1, decide_eq_true h2, if_neg h1, if_pos h2, Bool.not_true, Bool.not_false, cond_true, cond_false, if_true]
      exact ⟨(NY k _ _).1, (NY k _ _).2⟩
     ·simp only [decide_eq_false h1, decide_eq_false h2, if_neg h1, if_neg h2, Bool.not_true, Bool.not_false, cond_true, cond_false, if_true]
      exact ⟨trivial, trivial⟩
 ·rw [if_neg h]
  simp [h]
structure ahV (x n y p : Int) : Prop where
 det : n * y - x * p = 1
 p0 : 1 ≤ p
 p1 : p < n
 y0 : -1000000 ≤ y ∧ y ≤ 1000000
 y1 : -1000000 ≤ x - y ∧ x - y ≤ 1000000
theorem aip (k : Nat) (hk : 1000000000 < k) {x n : Int} (hx : -1000000 ≤ x) (hx1 : x ≤ 1000000) (hn : 2 ≤ n) (hn1 : n ≤ 1000000) (hg : gcdI x n = 1) : ∃ y p : Int, ahV x n y p ∧
 (∀ r : Int → Int → Int → Int → Option α, Iy k x n r = r (x - y) (n - p) y p) ∧ (∀ r : Int → Int → Int → Int → Option α, CY k x n r = r (x - y) (n - p) y p) := by
 have r0 := Int.emod_nonneg x (b := n) (by omega)
 have r1 := Int.emod_lt_of_pos x (show 0 < n by omega)
 have d1 : n ∣ 1 * 1 * x - x % n := ⟨x / n, by have := Int.emod_add_mul_ediv x n; omega⟩
 have d2 : n ∣ -1 * 0 * x - n := ⟨-1, by omega⟩
 obtain ⟨X, g, bef, x1, x2, x3, x4, f1, f2⟩ := acs (α := α) 1000000000 n x 1 1 0 (x % n) n (.inl rfl) (by omega) (by omega) (by omega) (by omega) r0 (by omega) (by omega) (by omega) (by omega) (by omega) d1 d2 (by omega)
 rw [show (1 : Int) * 1 = 1 from rfl, show -(1 : Int) * 0 = 0 from rfl] at f1 f2
 have eg : g = 1 := by
  rw [x4, ← hg]; unfold gcdI
  rw [Int.emod_def, Int.gcd_sub_mul_left_left]
 subst eg
 have q0 := Int.emod_nonneg X (b := n) (by omega)
 have q1 := Int.emod_lt_of_pos X (show 0 < n by omega)
 have eX := Int.emod_add_mul_ediv X n
 obtain ⟨c, hc⟩ := x3
 obtain ⟨p, hp⟩ : ∃ p, p = n - X % n := ⟨_, rfl⟩
 have eq : X % n = n - p := by omega
 have hdv : 1 + x * p = n * (x - c + x * (X / n)) := by
  have e5 : p = n - X + n * (X / n) := by omega
  rw [e5]
  grind
 generalize x - c + x * (X / n) = y at hdv
 have hdet : n * y - x * p = 1 := by omega
 have p0 : 1 ≤ p := by omega
 have p1 : p < n := by
  rcases (show X % n = 0 ∨ 1 ≤ X % n by omega) with e | e
  ·have e5 : p = n := by omega
   rw [e5] at hdet
   have : n ∣ 1 := ⟨y - x, by rw [Int.mul_sub, Int.mul_comm n x]; omega⟩
   have := Int.le_of_dvd (by decide) this
   omega
  ·omega
 have ep : (0 - X) % n = p := by
  have : 0 - X = p + n * (-(X / n) - 1) := by
   rw [Int.mul_sub, Int.mul_neg]; omega
  rw [this, Int.add_mul_emod_self_left]
  exact Int.emod_eq_of_lt (by omega) p1
 have b1 := ahI hx hx1 (show -(n - 1) ≤ p by omega) (show p ≤ n - 1 by omega)
 have b2 := ahI hx hx1 (show -(n - 1) ≤ n - p by omega) (show n - p ≤ n - 1 by omega)
 have y0 : -1000000 ≤ y ∧ y ≤ 1000000 := by
  constructor
  ·apply Int.not_lt.1
   intro h
   have : n * y ≤ n * (-1000001) := Int.mul_le_mul_of_nonneg_left (by omega) (by omega)
   omega
  ·apply Int.not_lt.1
   intro h
   have : n * 1000001 ≤ n * y := Int.mul_le_mul_of_nonneg_left (by omega) (by omega)
   omega
 have e1 : n * (x - y) = x * (n - p) - 1 := by
  rw [Int.mul_sub, Int.mul_sub, Int.mul_comm n x]; omega
 have y1 : -1000000 ≤ x - y ∧ x - y ≤ 1000000 := by
  constructor
  ·apply Int.not_lt.1
   intro h
   have : n * (x - y) ≤ n * (-1000001) := Int.mul_le_mul_of_nonneg_left (by omega) (by omega)
   omega
  ·apply Int.not_lt.1
   intro h
   have : n * 1000001 ≤ n * (x - y) := Int.mul_le_mul_of_nonneg_left (by omega) (by omega)
   omega
 refine ⟨y, p, ⟨hdet, p0, p1, y0, y1⟩, fun r => ?_, fun r => ?_⟩
 ·unfold Iy VY zK MJ
  rw [decide_eq_false (show ¬ n = 0 by omega), cond_false, eQ (n := 0 - n) (by omega) (by omega), show max n (0 - n) = n by omega, RQ k n x _ (by omega) (by omega), f1 k hk]
  rw [eQ (n := 0 - X) (by omega) (by omega), RQ k n _ _ (by omega) (by omega), ep]
  simp only [decide_eq_false (show ¬ n = 0 by omega), cond_false]
  have ed : Int.tdiv (1 + x * p) n = y := by
   rw [hdv, Int.mul_tdiv_cancel_left _ (by omega)]
  rw [eQ (n := x * p) (by omega) (by omega), eQ (n := 1 + x * p) (by omega) (by omega), ed, eQ (n := y) (by omega) (by omega)]
  unfold iW oK
  rw [eQ (n := -1 * y) (by omega) (by omega), eQ (n := -1 * p) (by omega) (by omega), eQ (by omega) (by omega), eQ (by omega) (by omega)]
  congr 1 <;> omega
 ·unfold CY Nk aaE aa4
  rw [ae4 _ _ _ _ (by omega) (by omega) (by omega) (by omega), f2 k hk]
  simp only
  rw [ae4 _ _ _ _ (by omega) (by omega) (by omega) (by omega), eq, decide_eq_false (show ¬ n = 0 by omega), cond_false]
  have ed : Int.tdiv (x * (n - p) - 1) n = x - y := by
   rw [← e1, Int.mul_tdiv_cancel_left _ (by omega)]
  have big1 : -1000000000000 ≤ x * (n - p) ∧ x * (n - p) ≤ 1000000000000 := by omega
  rw [eQ (n := x * (n - p)) (by omega) (by omega), eQ (n := x * (n - p) - 1) (by omega) (by omega), ed, eQ (n := x - y) (by omega) (by omega)]
  unfold nX Ez jy sJ
  rw [eQ (n := -1 * (x - y)) (by omega) (by omega), eQ (n := -1 * (n - p)) (by omega) (by omega), eQ (by omega) (by omega), eQ (by omega) (by omega)]
  congr 1 <;> omega
theorem afh {a b c d e : Int} (h : a * d - b * c = e) (he : e = 1 ∨ e = -1) : gcdI a b = 1 := by
 have h1 : (Int.gcd a b : Int) ∣ 1 := by
  have h2 : (Int.gcd a b : Int) ∣ a * d - b * c := Int.dvd_sub (Int.dvd_trans (Int.gcd_dvd_left ..) (Int.dvd_mul_right ..)) (Int.dvd_trans (Int.gcd_dvd_right ..) (Int.dvd_mul_right ..))
  rw [h] at h2
  rcases he with rfl | rfl
  ·exact h2
  ·exact (Int.dvd_neg).1 h2
 unfold gcdI
 have h3 := Int.le_of_dvd (by decide) h1
 have h4 : (Int.gcd a b : Int) ≠ 0 := fun e0 => by
  rw [e0] at h1
  exact absurd (Int.zero_dvd.1 h1) (by decide)
 omega
theorem agB {a b : Int} (ha : crd a = true) (hb : crd b = true) (h : 0 < b) (hg : gcdI a b = 1) : isF (a, b) = true := by
 unfold isF
 simp [ha, hb, h, hg]
theorem abA {e : Int × Int} (h : isF e = true) : crd e.1 = true ∧ crd e.2 = true := by
 unfold isF at h
 simp only [Bool.and_eq_true] at h
 exact h.1
theorem acd {s : List (Int × Int)} (h : ∀ e ∈ s, isF e = true) : vV s = 0 := by
 unfold vV
 have h1 : s.all (fun e => crd e.1 && crd e.2) = true := List.all_eq_true.2 fun e he => by
  have := abA (h e he)
  simp [this]
 have h2 : s.all isF = true := List.all_eq_true.2 h
 rw [h1, h2]
 rfl
theorem anF {x n y p : Int} (hF : isF (x, n) = true) (hn : 2 ≤ n) (h : ahV x n y p) :
 isF (x - y, n - p) = true ∧ isF (y, p) = true ∧ YQ (x - y, n - p) (y, p) = true ∧ tZ (x - y, n - p) (y, p) 1 = (x, n, 0) ∧ abo (x - y, n - p) (y, p) (x, n) = tZ (x - y, n - p) (y, p) (-1) := by
 have hc := abA hF
 have hn1 := PY hc.2
 have p0 := h.p0
 have p1 := h.p1
 simp only at hn1
 have hdet := h.det
 have hd : (x - y) * p - (n - p) * y = -1 := by
  have e1 : (x - y) * p = x * p - y * p := Int.sub_mul ..
  have e2 : (n - p) * y = n * y - p * y := Int.sub_mul ..
  rw [e1, e2, Int.mul_comm p y]; omega
 have f0 : isF (x - y, n - p) = true := agB (GK.2 h.y1) (GK.2 (by omega)) (by omega) (afh hd (.inr rfl))
 have f1 : isF (y, p) = true := agB (GK.2 h.y0) (GK.2 (by omega)) (by omega) (afh (a := y) (b := p) (c := x) (d := n) (e := 1) (by rw [Int.mul_comm y n, Int.mul_comm p x]; exact hdet) (.inl rfl))
 have hnear : YQ (x - y, n - p) (y, p) = true := by
  unfold YQ dtFa
  simp only [hd]
  rfl
 have c2 : vV [(x - y, n - p), (y, p)] = 0 := acd fun e he => by
  simp only [List.mem_cons, List.not_mem_nil, or_false] at he
  rcases he with rfl | rfl
  ·exact f0
  ·exact f1
 have c3 : vV [(x - y, n - p), (y, p), (x, n)] = 0 := acd fun e he => by
  simp only [List.mem_cons, List.not_mem_nil, or_false] at he
  rcases he with rfl | rfl | rfl
  ·exact f0
  ·exact f1
  ·exact hF
 have es : ((x - y) + 1 * y, (n - p) + 1 * p) = (x, n) := by
  rw [Int.one_mul, Int.one_mul]
  simp
 have et : IV (x, n) = (x, n) := by
  unfold IV
  rw [if_neg]
  simp only
  omega
 have etold : Kw (x, n) = (x, n, 0) := by
  unfold Kw
  simp only at hc
  simp [hc]
 refine ⟨f0, f1, hnear, ?_, ?_⟩
 ·unfold tZ
  rw [if_pos c2, if_pos hnear]
  simp only [es, et, etold]
 ·unfold abo tZ
  rw [if_pos c3, if_pos c2, if_pos hnear, if_pos hnear, es, et, if_pos rfl]
theorem agI (k : Nat) (hk : 1000000100 < k) (x n : Int) :
 (∃ z, z ≠ 0 ∧ (∀ r0 r1, fZ (α := α) k x n r0 r1 = r0 z) ∧ ∀ r0 r1, fQ (α := α) k x n r0 r1 = r0 z) ∨
 (isF (x, n) = true ∧ 2 ≤ n ∧ ∃ y p, ahV x n y p ∧ (∀ r0 r1, fZ (α := α) k x n r0 r1 = r1 [(x - y, n - p), (y, p)] 0) ∧ ∀ r0 r1, fQ (α := α) k x n r0 r1 = r1 [(x - y, n - p), (y, p)] 0) := by
 unfold fZ XJ fQ WX
 simp only [abj k [(x, n)] (by rw [nZ]; simp) (by simp; omega), abC k (by omega) [(x, n)] (by rw [nZ]; simp) (by simp; omega)]
 by_cases h : vV [(x, n)] = 0
 ·have hF : isF (x, n) = true := by
   unfold vV at h
   split at h
   ·split at h
    ·rename_i h2
     simpa using h2
    ·cases h
   ·cases h
  have hc := abA hF
  have h1 := PY hc.1
  have h2 := PY hc.2
  simp only at h1 h2
  simp only [h, decide_true, Bool.not_true, cond_false]
  by_cases hn : n < 2
  ·refine .inl ⟨5, by decide, fun r0 r1 => ?_, fun r0 r1 => ?_⟩ <;> simp [hn]
  ·have hg : gcdI x n = 1 := by
    unfold isF at hF
    simp only [Bool.and_eq_true, decide_eq_true_eq] at hF
    exact hF.2.1
   obtain ⟨y, p, hp, e1, e2⟩ := aip (α := α) k (by omega) h1.1 h1.2 (by omega) h2.2 hg
   refine .inr ⟨hF, by omega, y, p, hp, fun r0 r1 => ?_, fun r0 r1 => ?_⟩
   ·rw [decide_eq_false hn, cond_false, e1]
   ·rw [decide_eq_false hn, cond_false, e2]
 ·refine .inl ⟨vV [(x, n)], h, fun r0 r1 => ?_, fun r0 r1 => ?_⟩ <;> simp [h]
def tx (l : List Bool) : ByteArray := bs (l.map fun b => if b then 76 else 82)
theorem Gj (l : List Bool) : (tx l).size = l.length := by
 show ((l.map fun b => if b then 76 else 82).map UInt8.ofNat).toArray.size = _
 simp
theorem agl (l m : List Bool) : tx l ++ tx m = tx (l ++ m) := by
 apply ByteArray.ext
 rw [ByteArray.data_append]
 show ((l.map fun b => if b then 76 else 82).map UInt8.ofNat).toArray ++ ((m.map fun b => if b then 76 else 82).map UInt8.ofNat).toArray = (((l ++ m).map fun b => if b then 76 else 82).map UInt8.ofNat).toArray
 simp
def Ak : Nat → List Bool → Int → Int → Option (List Bool × Int)
 | 0, l, p, q => if p = q then some (l, p) else none
 | n + 1, l, p, q => if p = q then some (l, p) else if p < q then Ak n (l ++ [true]) p (q - p) else Ak n (l ++ [false]) (p - q) q
theorem akU : ∀ (n k : Nat) (l : List Bool) (p q : Int) (b0 : ByteArray → Int → Int → Option α) (r0 : ByteArray → Int → Option α), n + l.length = 60 → n < k → 1 ≤ p → p ≤ 1000000 → 1 ≤ q → q ≤ 1000000 →
 qj k (tx l) p q b0 r0 = (match Ak n l p q with | some (m, v) => b0 (tx m) v v | none => r0 (bs []) 3) ∧ ∀ (b1 : Int → Int → ByteArray → Option α), qX k p q (tx l) b1 r0 = (match Ak n l p q with | some (m, v) => b1 v v (tx m) | none => r0 (bs []) 3)
 | n, 0, _, _, _, _, _, _, hk, _, _, _, _ => by omega
 | 0, k + 1, l, p, q, b0, r0, hl, hk, p0, p1, q0, q1 => by
   have hs : (((tx l).size : Nat) : Int) = 60 := by rw [Gj]; omega
   by_cases e : p = q
   ·subst e
    constructor
    ·rw [qj, Aq]; simp [Ak]
    ·intro b1; rw [qX, AZ]; simp [Ak]
   ·constructor
    ·rw [qj, Aq, decide_eq_false e, Bool.not_false, cond_true, decide_eq_true hs, cond_true]; simp [Ak, e]
    ·intro b1; rw [qX, AZ, decide_eq_false e, Bool.not_false, cond_true, decide_eq_true hs, cond_true]; simp [Ak, e]
 | n + 1, k + 1, l, p, q, b0, r0, hl, hk, p0, p1, q0, q1 => by
   have hs : ¬ (((tx l).size : Nat) : Int) = 60 := by rw [Gj]; omega
   have e1 : bs [76] = tx [true] := rfl
   have e2 : bs [82] = tx [false] := rfl
   have z1 : (tx l).size + (tx [true]).size ≤ big := by rw [Gj, Gj, nZ]; simp; omega
   have z2 : (tx l).size + (tx [false]).size ≤ big := by rw [Gj, Gj, nZ]; simp; omega
   by_cases e : p = q
   ·subst e
    constructor
    ·rw [qj, Aq]; simp [Ak]
    ·intro b1; rw [qX, AZ]; simp [Ak]
   ·by_cases h : p < q
    ·have ih := akU n k (l ++ [true]) p (q - p) b0 r0 (by simp; omega) (by omega) p0 p1 (by omega) (by omega)
     have ep : Ak (n + 1) l p q = Ak n (l ++ [true]) p (q - p) := by rw [Ak, if_neg e, if_pos h]
     rw [ep]
     constructor
     ·rw [qj, Aq, decide_eq_false e, Bool.not_false, cond_true, decide_eq_false hs, cond_false, decide_eq_true h, cond_true, e1, decide_eq_true z1, cond_true, agl, eQ (by omega) (by omega)]
      exact ih.1
     ·intro b1
      rw [qX, AZ, decide_eq_false e, Bool.not_false, cond_true, decide_eq_false hs, cond_false, decide_eq_true h, cond_true, e1, decide_eq_true z1, cond_true, agl, eQ (by omega) (by omega)]
      exact ih.2 b1
    ·have ih := akU n k (l ++ [false]) (p - q) q b0 r0 (by simp; omega) (by omega) (by omega) (by omega) q0 q1
     have ep : Ak (n + 1) l p q = Ak n (l ++ [false]) (p - q) q := by rw [Ak, if_neg e, if_neg h]
     rw [ep]
     constructor
     ·rw [qj, Aq, decide_eq_false e, Bool.not_false, cond_true, decide_eq_false hs, cond_false, decide_eq_false h, cond_false, e2, decide_eq_true z2, cond_true, agl, eQ (by omega) (by omega)]
      exact ih.1
     ·intro b1
      rw [qX, AZ, decide_eq_false e, Bool.not_false, cond_true, decide_eq_false hs, cond_false, decide_eq_false h, cond_false, e2, decide_eq_true z2, cond_true, agl, eQ (by omega) (by omega)]
      exact ih.2 b1
def RY (x n : Int) : ByteArray × Int := if vV [(x, n)] = 0 then (if x < 1 ∨ n < 1 then (bs [], 5) else match Ak 60 [] x n with | some (m, _) => (tx m, 0) | none => (bs [], 3)) else (bs [], vV [(x, n)])
theorem acn (k : Nat) (hk : 1000000100 < k) (x n : Int) (r : ByteArray → Int → Option α) : gX k x n r = r (RY x n).1 (RY x n).2 ∧ gY k x n r = r (RY x n).1 (RY x n).2 := by
 unfold gX aa7 gY aaZ RY
 rw [abj k [(x, n)] (by rw [nZ]; simp) (by simp; omega), abC k (by omega) [(x, n)] (by rw [nZ]; simp) (by simp; omega)]
 by_cases h : vV [(x, n)] = 0
 ·obtain ⟨ha, hb⟩ := adP h (x, n) (by simp)
  have h1 := PY ha
  have h2 := PY hb
  simp only at h1 h2
  rw [if_pos h, h]
  simp only [decide_true, Bool.not_true, cond_false]
  by_cases c1 : x < 1
  ·rw [decide_eq_true c1, cond_true, if_pos (.inl c1)]; exact ⟨rfl, rfl⟩
  ·by_cases c2 : n < 1
   ·rw [decide_eq_false c1, cond_false, decide_eq_true c2, cond_true, if_pos (.inr c2)]; exact ⟨rfl, rfl⟩
   ·rw [decide_eq_false c1, cond_false, decide_eq_false c2, cond_false, if_neg (by omega)]
    have e0 : bs [] = tx [] := rfl
    have hh := akU (α := α) 60 k [] x n (fun path1 _ _ => r path1 0) r rfl (by omega) (by omega) h1.2 (by omega) h2.2
    have hh2 := hh.2 (fun _ _ out1 => r out1 0)
    rw [← e0] at hh hh2
    rw [hh.1, hh2]
    cases Ak 60 [] x n with
    | none => exact ⟨rfl, rfl⟩
    | some m => exact ⟨rfl, rfl⟩
 ·rw [if_neg h]
  simp [h]
def isLR (c : UInt8) : Bool := [76, 82].contains c
theorem anL (l : List UInt8) : Go.Lib.trimS l [76, 82] = [] ↔ ∀ c ∈ l, isLR c = true := by
 have hd : ∀ (m : List UInt8), m.dropWhile (fun c => [76, 82].contains c) = [] ↔ ∀ c ∈ m, isLR c = true := by
  intro m
  induction m with
  | nil => simp
  | cons x m ih =>
    rw [List.dropWhile_cons]
    by_cases hx : isLR x = true
    ·have hx' : ([76, 82] : List UInt8).contains x = true := hx
     rw [if_pos hx', ih]
     simp [hx]
    ·have hx' : ¬ ([76, 82] : List UInt8).contains x = true := hx
     rw [if_neg hx']
     constructor
     ·intro h; cases h
     ·intro h; exact absurd (h x (by simp)) hx
 have hr : Go.Lib.trimRightS l [76, 82] = [] ↔ ∀ c ∈ l, isLR c = true := by
  unfold Go.Lib.trimRightS
  rw [List.reverse_eq_nil_iff, hd]
  simp
 unfold Go.Lib.trimS Go.Lib.trimLeftS
 rw [hd]
 constructor
 ·intro h
  refine hr.1 ?_
  rcases Classical.em (Go.Lib.trimRightS l [76, 82] = []) with e | e
  ·exact e
  ·exfalso
   unfold Go.Lib.trimRightS at e h
   replace e : l.reverse.dropWhile (fun c => ([76, 82] : List UInt8).contains c) ≠ [] := fun e0 => e (List.reverse_eq_nil_iff.2 e0)
   have h2 := List.head_dropWhile_not (fun c => ([76, 82] : List UInt8).contains c) e
   have h3 := h _ (List.mem_reverse.2 (List.head_mem e))
   have h4 : isLR ((l.reverse.dropWhile fun c => ([76, 82] : List UInt8).contains c).head e) = false := h2
   rw [h4] at h3
   cases h3
 ·intro h
  rw [hr.2 h]
  simp
theorem adQ (k : Nat) (s : ByteArray) (r : Bool → Option α) : Qq k s 60 r = r (decide (s.size ≤ 60) && s.data.toList.all isLR) := by
 unfold Qq aa6
 by_cases h : s.size ≤ 60
 ·rw [decide_eq_true (show ((s.size : Nat) : Int) ≤ 60 by omega), cond_true, decide_eq_true h, Bool.true_and]
  unfold ZQ afS
  have h1 : (aiP (bs [76, 82]) && decide ((bs [76, 82]).size < 4294967281) && decide (s.size ≤ 9223372036854775807)) = true := by
   rw [decide_eq_true (show s.size ≤ 9223372036854775807 by omega)]
   rfl
  rw [h1, cond_true]
  refine congrArg r ?_
  rw [Bool.eq_iff_iff, decide_eq_true_eq, List.all_eq_true, ← anL]
  constructor
  ·intro e
   have := congrArg (fun b : ByteArray => b.data.toList) e
   exact this
  ·intro e
   have e2 : (bs [76, 82]).data.toList = [76, 82] := rfl
   rw [e2, e]
   rfl
 ·rw [decide_eq_false (show ¬ ((s.size : Nat) : Int) ≤ 60 by omega), cond_false, decide_eq_false h, Bool.false_and]
theorem asy {s : ByteArray} (h : s.data.toList.all isLR = true) : ∃ l, s = tx l := by
 refine ⟨s.data.toList.map fun c => c == 76, ?_⟩
 apply ByteArray.ext
 show s.data = (((s.data.toList.map fun c => c == 76).map fun b => if b then 76 else 82).map UInt8.ofNat).toArray
 apply Array.toList_inj.1
 rw [List.map_map, List.map_map]
 show s.data.toList = List.map _ s.data.toList
 have he : ∀ c ∈ s.data.toList, (UInt8.ofNat ∘ (fun b => if b then 76 else 82) ∘ fun c => c == 76) c = c := fun c hc => by
  have h1 := List.all_eq_true.1 h c hc
  unfold isLR at h1
  simp only [List.contains_cons, List.contains_nil, Bool.or_false, Bool.or_eq_true, beq_iff_eq] at h1
  rcases h1 with rfl | rfl <;> rfl
 exact ((List.map_congr_left he).trans (List.map_id' _)).symm
theorem alS (l : List Bool) : (tx l).data.toList.all isLR = true := by
 show (((l.map fun b => if b then 76 else 82).map UInt8.ofNat).toArray).toList.all isLR = true
 rw [List.all_eq_true]
 intro c hc
 simp only [List.mem_map] at hc
 obtain ⟨n, ⟨b, _, rfl⟩, rfl⟩ := hc
 cases b <;> rfl
theorem adv (s : ByteArray) : s.data.toList.length = s.size := Array.length_toList
theorem aoa (c : UInt8) : isLR c = (decide (((c.toNat : Nat) : Int) = 76) || decide (((c.toNat : Nat) : Int) = 82)) := by
 have h1 : (decide (((c.toNat : Nat) : Int) = 76)) = (c == 76) := by
  rw [Bool.eq_iff_iff, decide_eq_true_eq, beq_iff_eq]
  constructor
  ·intro h
   exact UInt8.toNat_inj.1 (by have : c.toNat = 76 := by omega
                               rw [this]; rfl)
  ·intro h; subst h; rfl
 have h2 : (decide (((c.toNat : Nat) : Int) = 82)) = (c == 82) := by
  rw [Bool.eq_iff_iff, decide_eq_true_eq, beq_iff_eq]
  constructor
  ·intro h
   exact UInt8.toNat_inj.1 (by have : c.toNat = 82 := by omega
                               rw [this]; rfl)
  ·intro h; subst h; rfl
 rw [h1, h2]
 unfold isLR
 rw [List.contains_cons, List.contains_cons, List.contains_nil, Bool.or_false]
theorem akC : ∀ (rest : List UInt8) (k i : Nat) (s : ByteArray) (x x1 : Int) (b0 : ByteArray → Int → Int → Int → Option α) (r0 : Int → Int → Int → Option α), s.data.toList.drop i = rest → s.size ≤ 60 → i ≤ s.size → rest.length < k →
 mZ k s i x x1 b0 r0 = bif rest.all isLR then b0 s ((s.size : Nat) : Int) x x1 else r0 0 0 2
 | [], k + 1, i, s, x, x1, b0, r0, hd, hb, hi, _ => by
   have h := Sv hd
   have hl := adv s
   have e : i = s.size := by omega
   rw [mZ, Az, zX (by omega), e]
   rfl
 | c :: rest, k + 1, i, s, x, x1, b0, r0, hd, hb, hi, hk => by
   obtain ⟨h1, h2, h3⟩ := Jj hd
   have hl := adv s
   have en : w64 ((i : Int) + 1) = ((i + 1 : Nat) : Int) := by rw [eQ (by omega) (by omega)]; omega
   simp only [List.length_cons] at hk
   have ih := akC rest k (i + 1) s x x1 b0 r0 h2 hb (by omega) (by omega)
   rw [mZ, Az, nz (by omega), jJ (by omega), cond_true, cond_true, Int.toNat_natCast, h1, Option.bind_some]
   rw [List.all_cons, aoa, en]
   simp only [Option.bind_some, cond_true, ih]
   cases decide (((c.toNat : Nat) : Int) = 76) <;> cases decide (((c.toNat : Nat) : Int) = 82) <;> simp
 | _, 0, _, _, _, _, _, _, _, _, _, hk => by omega
def mY : List Bool → Int → Int → Int → Int → (Int × Int) × (Int × Int)
 | [], a, b, c, d => ((a, b), (c, d))
 | true :: l, a, b, c, d => mY l a b (a + c) (b + d)
 | false :: l, a, b, c, d => mY l (a + c) (b + d) c d
theorem akB {l : List Bool} {i : Nat} {c : Bool} {rest : List Bool} (h : l.drop i = c :: rest) : (tx l).extract i (i + 1) = tx [c] := by
 apply ByteArray.ext
 rw [ByteArray.data_extract]
 apply Array.toList_inj.1
 rw [Array.toList_extract]
 show List.extract (((l.map fun b => if b then 76 else 82).map UInt8.ofNat)) i (i + 1) = (([c].map fun b => if b then 76 else 82).map UInt8.ofNat)
 rw [List.extract_eq_take_drop, ← List.map_drop, ← List.map_drop, h]
 simp
theorem aqs (c : Bool) : decide (tx [c] = bs [76]) = c := by cases c <;> rfl
theorem akQ : ∀ (rest : List Bool) (k i : Nat) (l : List Bool) (x2 x3 a b c d B : Int) (b0 : ByteArray → Int → Int → Int → Int → Int → Int → Int → Int → Option α) (r0 : Int → Int → Int → Option α), l.drop i = rest → l.length ≤ 60 → i ≤ l.length → rest.length < k →
 0 ≤ a → a ≤ B → 0 ≤ b → b ≤ B → 0 ≤ c → c ≤ B → 0 ≤ d → d ≤ B → B * 2 ^ rest.length ≤ 2305843009213693952 →
 nY k (tx l) ((l.length : Nat) : Int) i x2 x3 a b c d b0 r0 = b0 (tx l) ((l.length : Nat) : Int) ((l.length : Nat) : Int) x2 x3 (mY rest a b c d).1.1 (mY rest a b c d).1.2 (mY rest a b c d).2.1 (mY rest a b c d).2.2
 | [], k + 1, i, l, x2, x3, a, b, c, d, B, b0, r0, hd, hl, hi, _, _, _, _, _, _, _, _, _, _ => by
   have h := Sv hd
   have e : i = l.length := by omega
   rw [nY, BJ, zX (by omega), e]
   rfl
 | ch :: rest, k + 1, i, l, x2, x3, a, b, c, d, B, b0, r0, hd, hl, hi, hk, a0, a1, b0', b1, c0, c1, d0, d1, hB => by
   obtain ⟨h1, h2, h3⟩ := Jj hd
   have en : w64 ((i : Int) + 1) = ((i + 1 : Nat) : Int) := by rw [eQ (by omega) (by omega)]; omega
   simp only [List.length_cons] at hk hB
   have hB2 : (2 * B) * 2 ^ rest.length ≤ 2305843009213693952 := by
    rw [Int.pow_succ] at hB
    have : (2 * B) * 2 ^ rest.length = B * (2 ^ rest.length * 2) := by
     rw [Int.mul_comm 2 B, Int.mul_assoc, Int.mul_comm 2]
    omega
   have hp : (1 : Int) ≤ 2 ^ rest.length := by
    have := Int.pow_pos (n := (2 : Int)) (m := rest.length) (by decide)
    omega
   have hB3 : 2 * B ≤ 2305843009213693952 := by
    have : 2 * B * 1 ≤ 2 * B * 2 ^ rest.length := Int.mul_le_mul_of_nonneg_left hp (by omega)
    omega
   have hs : (((tx l).size : Nat) : Int) = ((l.length : Nat) : Int) := by rw [Gj]
   rw [nY, BJ, nz (by omega), cond_true, en, hs, jJ (by omega), jJ (by omega), Int.toNat_natCast, Int.toNat_natCast, akB hd, aqs]
   rw [jJ (by omega), jJ (by omega)]
   simp only [Bool.and_true, cond_true]
   unfold jy sJ
   rw [Int.one_mul, Int.one_mul, eQ (n := c) (by omega) (by omega), eQ (n := d) (by omega) (by omega), eQ (n := a + c) (by omega) (by omega), eQ (n := b + d) (by omega) (by omega)]
   cases ch with
   | true =>
     exact akQ rest k (i + 1) l x2 x3 a b (a + c) (b + d) (2 * B) b0 r0 h2 hl (by omega) (by omega) a0 (by omega) b0' (by omega) (by omega) (by omega) (by omega) (by omega) hB2
   | false =>
     exact akQ rest k (i + 1) l x2 x3 (a + c) (b + d) c d (2 * B) b0 r0 h2 hl (by omega) (by omega) (by omega) (by omega) (by omega) (by omega) c0 (by omega) d0 (by omega) hB2
 | _, 0, _, _, _, _, _, _, _, _, _, _, _, _, _, _, hk, _, _, _, _, _, _, _, _, _ => by omega
def okW : List Bool → Int → Int → Int → Int → Bool
 | [], _, _, _, _ => true
 | true :: l, a, b, c, d => crd (a + c) && crd (b + d) && okW l a b (a + c) (b + d)
 | false :: l, a, b, c, d => crd (a + c) && crd (b + d) && okW l (a + c) (b + d) c d
theorem aq3 {l : List Bool} {i : Nat} {c : Bool} {rest : List Bool} (h : l.drop i = c :: rest) : (tx l).data.toList[i]? = some (if c then 76 else 82) := by
 obtain ⟨h1, _, _⟩ := Jj h
 show (((l.map fun b => if b then 76 else 82).map UInt8.ofNat).toArray).toList[i]? = _
 simp only [List.getElem?_map, h1, Option.map_some]
 cases c <;> rfl
theorem aic : ∀ (rest : List Bool) (k i : Nat) (l : List Bool) (x2 x3 a b c d B : Int) (b0 : ByteArray → Int → Int → Int → Int → Int → Int → Int → Option α) (r0 : Int → Int → Int → Option α), l.drop i = rest → l.length ≤ 60 → i ≤ l.length → rest.length < k →
 0 ≤ a → a ≤ B → 0 ≤ b → b ≤ B → 0 ≤ c → c ≤ B → 0 ≤ d → d ≤ B → B * 2 ^ rest.length ≤ 2305843009213693952 →
 lX k (tx l) i x2 x3 a b c d b0 r0 = bif okW rest a b c d then b0 (tx l) ((l.length : Nat) : Int) x2 x3 (mY rest a b c d).1.1 (mY rest a b c d).1.2 (mY rest a b c d).2.1 (mY rest a b c d).2.2 else r0 0 0 3
 | [], k + 1, i, l, x2, x3, a, b, c, d, B, b0, r0, hd, hl, hi, _, _, _, _, _, _, _, _, _, _ => by
   have h := Sv hd
   have e : i = l.length := by omega
   have hs : (((tx l).size : Nat) : Int) = ((l.length : Nat) : Int) := by rw [Gj]
   rw [lX, zY, hs, zX (by omega), e]
   rfl
 | ch :: rest, k + 1, i, l, x2, x3, a, b, c, d, B, b0, r0, hd, hl, hi, hk, a0, a1, b0', b1, c0, c1, d0, d1, hB => by
   obtain ⟨h1, h2, h3⟩ := Jj hd
   have en : w64 ((i : Int) + 1) = ((i + 1 : Nat) : Int) := by rw [eQ (by omega) (by omega)]; omega
   simp only [List.length_cons] at hk hB
   have hB2 : (2 * B) * 2 ^ rest.length ≤ 2305843009213693952 := by
    rw [Int.pow_succ] at hB
    have : (2 * B) * 2 ^ rest.length = B * (2 ^ rest.length * 2) := by
     rw [Int.mul_comm 2 B, Int.mul_assoc, Int.mul_comm 2]
    omega
   have hp : (1 : Int) ≤ 2 ^ rest.length := by
    have := Int.pow_pos (n := (2 : Int)) (m := rest.length) (by decide)
    omega
   have hB3 : 2 * B ≤ 2305843009213693952 := by
    have : 2 * B * 1 ≤ 2 * B * 2 ^ rest.length := Int.mul_le_mul_of_nonneg_left hp (by omega)
    omega
   have hs : (((tx l).size : Nat) : Int) = ((l.length : Nat) : Int) := by rw [Gj]
   rw [lX, zY, hs, nz (by omega), cond_true, en]
   unfold iW oK
   rw [Int.one_mul, Int.one_mul, eQ (n := c) (by omega) (by omega), eQ (n := d) (by omega) (by omega), eQ (n := a + c) (by omega) (by omega), eQ (n := b + d) (by omega) (by omega)]
   rw [jJ (by omega)]
   simp only [cond_true, Int.toNat_natCast, aq3 hd, Option.bind_some, Pv]
   cases ch with
   | true =>
     have ih := aic rest k (i + 1) l x2 x3 a b (a + c) (b + d) (2 * B) b0 r0 h2 hl (by omega) (by omega) a0 (by omega) b0' (by omega) (by omega) (by omega) (by omega) (by omega) hB2
     rw [ih]
     show (bif (!(crd (a + c) && crd (b + d))) then r0 0 0 3 else _) = bif (crd (a + c) && crd (b + d) && okW rest a b (a + c) (b + d)) then _ else r0 0 0 3
     cases crd (a + c) && crd (b + d) <;> rfl
   | false =>
     have ih := aic rest k (i + 1) l x2 x3 (a + c) (b + d) c d (2 * B) b0 r0 h2 hl (by omega) (by omega) (by omega) (by omega) (by omega) (by omega) c0 (by omega) d0 (by omega) hB2
     rw [ih]
     show (bif (!(crd (a + c) && crd (b + d))) then r0 0 0 3 else _) = bif (crd (a + c) && crd (b + d) && okW rest (a + c) (b + d) c d) then _ else r0 0 0 3
     cases crd (a + c) && crd (b + d) <;> rfl
 | _, 0, _, _, _, _, _, _, _, _, _, _, _, _, _, _, hk, _, _, _, _, _, _, _, _, _ => by omega
def sumW (l : List Bool) (a b c d : Int) : Int × Int := ((mY l a b c d).1.1 + (mY l a b c d).2.1, (mY l a b c d).1.2 + (mY l a b c d).2.2)
theorem aiZ : ∀ (l : List Bool) (a b c d : Int), 0 ≤ a → 0 ≤ b → 0 ≤ c → 0 ≤ d → a + c ≤ (sumW l a b c d).1 ∧ b + d ≤ (sumW l a b c d).2
 | [], _, _, _, _, _, _, _, _ => ⟨Int.le_refl _, Int.le_refl _⟩
 | true :: l, a, b, c, d, ha, hb, hc, hd => by
   have := aiZ l a b (a + c) (b + d) ha hb (by omega) (by omega)
   show a + c ≤ (sumW l a b (a + c) (b + d)).1 ∧ b + d ≤ (sumW l a b (a + c) (b + d)).2
   omega
 | false :: l, a, b, c, d, ha, hb, hc, hd => by
   have := aiZ l (a + c) (b + d) c d (by omega) (by omega) hc hd
   show a + c ≤ (sumW l (a + c) (b + d) c d).1 ∧ b + d ≤ (sumW l (a + c) (b + d) c d).2
   omega
theorem amZ {x y : Int} (h0 : 0 ≤ x) (h : crd x = false) (hy : x ≤ y) : crd y = false := by
 rw [Bool.eq_false_iff] at h ⊢
 intro e
 rw [GK] at e
 exact h (GK.2 (by omega))
theorem ah9 : ∀ (l : List Bool) (a b c d : Int), 0 ≤ a → 0 ≤ b → 0 ≤ c → 0 ≤ d → okW l a b c d = false → (crd (sumW l a b c d).1 && crd (sumW l a b c d).2) = false
 | [], _, _, _, _, _, _, _, _, h => by cases h
 | ch :: l, a, b, c, d, ha, hb, hc, hd, h => by
   by_cases hh : (crd (a + c) && crd (b + d)) = true
   ·cases ch with
    | true =>
      replace h : (crd (a + c) && crd (b + d) && okW l a b (a + c) (b + d)) = false := h
      rw [hh, Bool.true_and] at h
      exact ah9 l a b (a + c) (b + d) ha hb (by omega) (by omega) h
    | false =>
      replace h : (crd (a + c) && crd (b + d) && okW l (a + c) (b + d) c d) = false := h
      rw [hh, Bool.true_and] at h
      exact ah9 l (a + c) (b + d) c d (by omega) (by omega) hc hd h
   ·have hg := aiZ (ch :: l) a b c d ha hb hc hd
    replace hh : crd (a + c) = false ∨ crd (b + d) = false := by
     cases h1 : crd (a + c) with
     | false => exact .inl rfl
     | true =>
       cases h2 : crd (b + d) with
       | false => exact .inr rfl
       | true => exact absurd (by rw [h1, h2]; rfl) hh
    rcases hh with e | e
    ·rw [amZ (by omega) e hg.1, Bool.false_and]
    ·rw [amZ (by omega) e hg.2, Bool.and_false]
def RX (l : List Bool) : Int × Int × Int := Kw (sumW l 0 1 1 0)
theorem ajs : ∀ (l : List Bool) (a b c d B : Int), 0 ≤ a → a ≤ B → 0 ≤ b → b ≤ B → 0 ≤ c → c ≤ B → 0 ≤ d → d ≤ B → B * 2 ^ l.length ≤ 2305843009213693952 →
 (0 ≤ (mY l a b c d).1.1 ∧ (mY l a b c d).1.1 ≤ 2305843009213693952) ∧ (0 ≤ (mY l a b c d).1.2 ∧ (mY l a b c d).1.2 ≤ 2305843009213693952) ∧ (0 ≤ (mY l a b c d).2.1 ∧ (mY l a b c d).2.1 ≤ 2305843009213693952) ∧ (0 ≤ (mY l a b c d).2.2 ∧ (mY l a b c d).2.2 ≤ 2305843009213693952)
 | [], a, b, c, d, B, a0, a1, b0, b1, c0, c1, d0, d1, hB => by
   simp only [List.length_nil, Int.pow_zero, Int.mul_one] at hB
   simp only [mY]
   omega
 | ch :: l, a, b, c, d, B, a0, a1, b0, b1, c0, c1, d0, d1, hB => by
   simp only [List.length_cons] at hB
   have hB2 : (2 * B) * 2 ^ l.length ≤ 2305843009213693952 := by
    rw [Int.pow_succ] at hB
    have : (2 * B) * 2 ^ l.length = B * (2 ^ l.length * 2) := by
     rw [Int.mul_comm 2 B, Int.mul_assoc, Int.mul_comm 2]
    omega
   cases ch with
   | true => exact ajs l a b (a + c) (b + d) (2 * B) a0 (by omega) b0 (by omega) (by omega) (by omega) (by omega) (by omega) hB2
   | false => exact ajs l (a + c) (b + d) c d (2 * B) (by omega) (by omega) (by omega) (by omega) c0 (by omega) d0 (by omega) hB2
theorem ahF (k : Nat) (hk : 100 < k) (l : List Bool) (hl : l.length ≤ 60) (r : Int → Int → Int → Option α) : ak k (tx l) r = r (RX l).1 (RX l).2.1 (RX l).2.2 ∧ ax k (tx l) r = r (RX l).1 (RX l).2.1 (RX l).2.2 := by
 have hz : (tx l).size ≤ 60 := by rw [Gj]; exact hl
 have hs : (((tx l).size : Nat) : Int) = ((l.length : Nat) : Int) := by rw [Gj]
 have hpw : (1 : Int) * 2 ^ l.length ≤ 2305843009213693952 := by
  have h1 : (2 : Nat) ^ l.length ≤ 2 ^ 60 := Nat.pow_le_pow_right (by decide) hl
  have h2 : ((2 ^ l.length : Nat) : Int) = (2 : Int) ^ l.length := by simp
  have h3 : (2 : Nat) ^ 60 = 1152921504606846976 := by decide
  omega
 have hw := ajs l 0 1 1 0 1 (by decide) (by decide) (by decide) (by decide) (by decide) (by decide) (by decide) (by decide) hpw
 constructor
 ·unfold ak yJ
  have h4 := akC (α := α) (tx l).data.toList k 0 (tx l) 0 0
  have hx : ((0 : Nat) : Int) = 0 := rfl
  rw [hx] at h4
  rw [hs, decide_eq_false (show ¬ (60 : Int) < ((l.length : Nat) : Int) by omega), cond_false, h4 _ _ (by simp) hz (by omega) (by rw [adv]; omega), alS, cond_true]
  have h10 := aic (α := α) l k 0 l 0 0 0 1 1 0 1
  rw [hx] at h10
  rw [h10 _ _ (by simp) hl (by omega) (by omega) (by decide) (by decide) (by decide) (by decide) (by decide) (by decide) (by decide) (by decide) hpw]
  cases ho : okW l 0 1 1 0 with
  | false =>
    have hn := ah9 l 0 1 1 0 (by decide) (by decide) (by decide) (by decide) ho
    have e : RX l = (0, 0, 3) := by
     unfold RX Kw
     rw [hn]
     rfl
    rw [e]
    rfl
  | true =>
    rw [cond_true]
    unfold iW oK
    rw [Int.one_mul, Int.one_mul, eQ (n := (mY l 0 1 1 0).2.1) (by omega) (by omega), eQ (n := (mY l 0 1 1 0).2.2) (by omega) (by omega), eQ (by omega) (by omega), eQ (by omega) (by omega)]
    exact (NY k (sumW l 0 1 1 0) r).1
 ·unfold ax yZ
  have h5 := akQ (α := α) l k 0 l 0 0 0 1 1 0 1
  have hx : ((0 : Nat) : Int) = 0 := rfl
  rw [hx] at h5
  rw [adQ, alS, decide_eq_true hz, Bool.and_true, Bool.not_true, cond_false, hs, h5 _ _ (by simp) hl (by omega) (by omega) (by decide) (by decide) (by decide) (by decide) (by decide) (by decide) (by decide) (by decide) hpw]
  unfold jy sJ
  rw [Int.one_mul, Int.one_mul, eQ (n := (mY l 0 1 1 0).2.1) (by omega) (by omega), eQ (n := (mY l 0 1 1 0).2.2) (by omega) (by omega), eQ (by omega) (by omega), eQ (by omega) (by omega)]
  exact (NY k (sumW l 0 1 1 0) r).2
theorem alM (k : Nat) (hk : 100 < k) (s : ByteArray) : (∃ l, s = tx l ∧ l.length ≤ 60) ∨ ((∀ r : Int → Int → Int → Option α, ak k s r = r 0 0 2) ∧ ∀ r : Int → Int → Int → Option α, ax k s r = r 0 0 2) := by
 by_cases hz : s.size ≤ 60
 ·cases ha : s.data.toList.all isLR with
  | true =>
    obtain ⟨l, rfl⟩ := asy ha
    exact .inl ⟨l, rfl, by rw [Gj] at hz; exact hz⟩
  | false =>
    refine .inr ⟨fun r => ?_, fun r => ?_⟩
    ·unfold ak yJ
     have h4 := akC (α := α) s.data.toList k 0 s 0 0
     have hx : ((0 : Nat) : Int) = 0 := rfl
     rw [hx] at h4
     rw [decide_eq_false (show ¬ (60 : Int) < ((s.size : Nat) : Int) by omega), cond_false, h4 _ _ (by simp) hz (by omega) (by rw [adv]; omega), ha, cond_false]
    ·unfold ax yZ
     rw [adQ, ha, Bool.and_false]
     rfl
 ·refine .inr ⟨fun r => ?_, fun r => ?_⟩
  ·unfold ak yJ
   rw [decide_eq_true (show (60 : Int) < ((s.size : Nat) : Int) by omega), cond_true]
  ·unfold ax yZ
   rw [adQ, decide_eq_false hz, Bool.false_and]
   rfl
def yY : Nat → Int → Int → Option (List Bool × Int)
 | 0, p, q => if p = q then some ([], p) else none
 | n + 1, p, q => if p = q then some ([], p) else if p < q then (yY n p (q - p)).map (fun x => (true :: x.1, x.2)) else (yY n (p - q) q).map (fun x => (false :: x.1, x.2))
theorem agC : ∀ (n : Nat) (l : List Bool) (p q : Int), Ak n l p q = (yY n p q).map fun x => (l ++ x.1, x.2)
 | 0, l, p, q => by
   unfold Ak yY
   split <;> simp
 | n + 1, l, p, q => by
   unfold Ak yY
   split
   ·simp
   ·split
    ·rw [agC n]; simp [Option.map_map, Function.comp_def]
    ·rw [agC n]; simp [Option.map_map, Function.comp_def]
theorem ahe (n : Nat) (p q : Int) : Ak n [] p q = yY n p q := by
 rw [agC]
 cases yY n p q <;> simp
theorem afa (a b c d : Int) : sumW [] a b c d = (a + c, b + d) := rfl
theorem af8 (l : List Bool) (a b c d : Int) : sumW (true :: l) a b c d = sumW l a b (a + c) (b + d) := rfl
theorem agd (l : List Bool) (a b c d : Int) : sumW (false :: l) a b c d = sumW l (a + c) (b + d) c d := rfl
theorem aea : ∀ (n : Nat) (p q : Int) (m : List Bool) (v : Int), yY n p q = some (m, v) → 1 ≤ p → 1 ≤ q → m.length ≤ n ∧ 1 ≤ v ∧ ∀ a b c d : Int, v * (sumW m a b c d).1 = p * c + q * a ∧ v * (sumW m a b c d).2 = p * d + q * b
 | 0, p, q, m, v, h, hp, hq => by
   unfold yY at h
   split at h
   ·rename_i e
    simp only [Option.some.injEq, Prod.mk.injEq] at h
    obtain ⟨rfl, rfl⟩ := h
    subst e
    exact ⟨Nat.le_refl _, hp, fun a b c d => by rw [afa]; constructor <;> grind⟩
   ·cases h
 | n + 1, p, q, m, v, h, hp, hq => by
   unfold yY at h
   split at h
   ·rename_i e
    simp only [Option.some.injEq, Prod.mk.injEq] at h
    obtain ⟨rfl, rfl⟩ := h
    subst e
    exact ⟨by simp, hp, fun a b c d => by rw [afa]; constructor <;> grind⟩
   ·split at h
    ·cases hx : yY n p (q - p) with
     | none => rw [hx] at h; cases h
     | some x =>
       rw [hx] at h
       simp only [Option.map_some, Option.some.injEq, Prod.mk.injEq] at h
       obtain ⟨rfl, rfl⟩ := h
       obtain ⟨h1, h2, h3⟩ := aea n p (q - p) x.1 x.2 hx hp (by omega)
       refine ⟨by simp; omega, h2, fun a b c d => ?_⟩
       obtain ⟨h4, h5⟩ := h3 a b (a + c) (b + d)
       rw [af8]
       constructor <;> grind
    ·cases hx : yY n (p - q) q with
     | none => rw [hx] at h; cases h
     | some x =>
       rw [hx] at h
       simp only [Option.map_some, Option.some.injEq, Prod.mk.injEq] at h
       obtain ⟨rfl, rfl⟩ := h
       obtain ⟨h1, h2, h3⟩ := aea n (p - q) q x.1 x.2 hx (by omega) hq
       refine ⟨by simp; omega, h2, fun a b c d => ?_⟩
       obtain ⟨h4, h5⟩ := h3 (a + c) (b + d) c d
       rw [agd]
       constructor <;> grind
theorem aam : ∀ (l : List Bool) (a b c d : Int), sumW l a b c d = ((sumW l 0 1 1 0).1 * c + (sumW l 0 1 1 0).2 * a, (sumW l 0 1 1 0).1 * d + (sumW l 0 1 1 0).2 * b)
 | [], a, b, c, d => by simp only [afa, Prod.mk.injEq]; constructor <;> grind
 | true :: l, a, b, c, d => by
   rw [af8, af8, aam l a b (a + c) (b + d), aam l 0 1 (0 + 1) (1 + 0)]
   simp only [Prod.mk.injEq]
   constructor <;> grind
 | false :: l, a, b, c, d => by
   rw [agd, agd, aam l (a + c) (b + d) c d, aam l (0 + 1) (1 + 0) 1 0]
   simp only [Prod.mk.injEq]
   constructor <;> grind
theorem afi : ∀ (l : List Bool) (n : Nat), l.length ≤ n → 1 ≤ (sumW l 0 1 1 0).1 ∧ 1 ≤ (sumW l 0 1 1 0).2 ∧ yY n (sumW l 0 1 1 0).1 (sumW l 0 1 1 0).2 = some (l, 1)
 | [], n, _ => by
   cases n with
   | zero => exact ⟨by decide, by decide, rfl⟩
   | succ n => exact ⟨by decide, by decide, rfl⟩
 | true :: l, 0, h => by simp at h
 | false :: l, 0, h => by simp at h
 | true :: l, n + 1, h => by
   obtain ⟨h1, h2, h3⟩ := afi l n (by simp at h; omega)
   rw [af8, aam]
   generalize (sumW l 0 1 1 0).1 = P at *
   generalize (sumW l 0 1 1 0).2 = Q at *
   have e1 : P * (0 + 1) + Q * 0 = P := by grind
   have e2 : P * (1 + 0) + Q * 1 = P + Q := by grind
   simp only
   rw [e1, e2]
   refine ⟨h1, by omega, ?_⟩
   unfold yY
   rw [if_neg (by omega), if_pos (by omega), show P + Q - P = Q by omega, h3]
   rfl
 | false :: l, n + 1, h => by
   obtain ⟨h1, h2, h3⟩ := afi l n (by simp at h; omega)
   rw [agd, aam]
   generalize (sumW l 0 1 1 0).1 = P at *
   generalize (sumW l 0 1 1 0).2 = Q at *
   have e1 : P * 1 + Q * (0 + 1) = P + Q := by grind
   have e2 : P * 0 + Q * (1 + 0) = Q := by grind
   simp only
   rw [e1, e2]
   refine ⟨by omega, h2, ?_⟩
   unfold yY
   rw [if_neg (by omega), if_neg (by omega), show P + Q - Q = P by omega, h3]
   rfl
theorem afb : ∀ (l : List Bool) (a b c d : Int), (mY l a b c d).1.1 * (mY l a b c d).2.2 - (mY l a b c d).1.2 * (mY l a b c d).2.1 = a * d - b * c
 | [], a, b, c, d => rfl
 | true :: l, a, b, c, d => by
   have := afb l a b (a + c) (b + d)
   show (mY l a b (a + c) (b + d)).1.1 * (mY l a b (a + c) (b + d)).2.2 - (mY l a b (a + c) (b + d)).1.2 * (mY l a b (a + c) (b + d)).2.1 = _
   grind
 | false :: l, a, b, c, d => by
   have := afb l (a + c) (b + d) c d
   show (mY l (a + c) (b + d) c d).1.1 * (mY l (a + c) (b + d) c d).2.2 - (mY l (a + c) (b + d) c d).1.2 * (mY l (a + c) (b + d) c d).2.1 = _
   grind
theorem aoC (l : List Bool) : gcdI (sumW l 0 1 1 0).1 (sumW l 0 1 1 0).2 = 1 := by
 have h := afb l 0 1 1 0
 refine afh (c := (mY l 0 1 1 0).1.1) (d := (mY l 0 1 1 0).1.2) (e := 1) ?_ (.inl rfl)
 unfold sumW
 grind
theorem akY {n : Nat} {p q : Int} {m : List Bool} {v : Int} (h : yY n p q = some (m, v)) (hp : 1 ≤ p) (hq : 1 ≤ q) (hg : gcdI p q = 1) : m.length ≤ n ∧ sumW m 0 1 1 0 = (p, q) := by
 obtain ⟨h1, h2, h3⟩ := aea n p q m v h hp hq
 obtain ⟨h4, h5⟩ := h3 0 1 1 0
 have e1 : v * (sumW m 0 1 1 0).1 = p := by rw [h4]; grind
 have e2 : v * (sumW m 0 1 1 0).2 = q := by rw [h5]; grind
 have hd : v ∣ ((Int.gcd p q : Nat) : Int) := Int.dvd_coe_gcd ⟨_, e1.symm⟩ ⟨_, e2.symm⟩
 have hv : v = 1 := by
  have hg2 : ((Int.gcd p q : Nat) : Int) = 1 := hg
  rw [hg2] at hd
  exact Int.le_antisymm (Int.le_of_dvd (by decide) hd) h2
 subst hv
 rw [Int.one_mul] at e1 e2
 exact ⟨h1, Prod.ext e1 e2⟩
theorem ai1 : ∀ (N M : Nat) (p q : Int), 0 ≤ q → q < N → q < M → cfE N p q = cfE M p q
 | 0, _, _, _, h, h1, _ => by omega
 | N + 1, 0, _, _, h, _, h1 => by omega
 | N + 1, M + 1, p, q, h, h1, h2 => by
   unfold cfE
   split
   ·rfl
   ·rename_i h0
    have h3 := Int.emod_nonneg p h0
    have h4 := Int.emod_lt_of_pos p (b := q) (by omega)
    rw [ai1 N M q (p % q) h3 (by omega) (by omega)]
def cfS (p q : Int) : Int := (cfE (q.toNat + 1) p q).sum
theorem amy {N : Nat} {p q : Int} (hq : 0 ≤ q) (hN : q < N) : (cfE N p q).sum = cfS p q := by
 unfold cfS
 rw [ai1 N (q.toNat + 1) p q hq hN (by omega)]
theorem adq {p q : Int} (hq : 1 ≤ q) : cfS p q = p / q + cfS q (p % q) := by
 have h3 := Int.emod_nonneg p (b := q) (by omega)
 have h4 := Int.emod_lt_of_pos p (b := q) (by omega)
 rw [← amy (N := q.toNat) h3 (by omega)]
 unfold cfS
 rw [show cfE (q.toNat + 1) p q = if q = 0 then [] else p / q :: cfE q.toNat q (p % q) from rfl, if_neg (by omega), List.sum_cons]
theorem anq (p : Int) : cfS p 0 = 0 := by
 unfold cfS cfE
 rfl
theorem ajg {p q : Int} (hp : 1 ≤ p) (hq : 1 ≤ q) : cfS p q = cfS q p := by
 have key : ∀ {a b : Int}, 1 ≤ a → a < b → cfS a b = cfS b a := by
  intro a b h1 h2
  rw [adq (p := a) (q := b) (by omega), Int.ediv_eq_zero_of_lt (by omega) h2, Int.emod_eq_of_lt (by omega) h2, Int.zero_add]
 rcases Int.lt_trichotomy p q with h | h | h
 ·exact key hp h
 ·rw [h]
 ·exact (key hq h).symm
theorem akm {p q : Int} (hq : 1 ≤ q) : cfS p q = cfS (p - q) q + 1 := by
 rw [adq hq, adq (p := p - q) hq]
 have e1 : (p - q) / q = p / q - 1 := by
  have := Int.add_mul_ediv_right (p) (-1) (c := q) (by omega)
  rw [show p - q = p + -1 * q by omega, this]
  omega
 have e2 : (p - q) % q = p % q := by
  rw [show p - q = p + -1 * q by omega, Int.add_mul_emod_self_right]
 rw [e1, e2]
 omega
theorem afn : ∀ (n : Nat) (p q : Int) (m : List Bool) (v : Int), yY n p q = some (m, v) → 1 ≤ p → 1 ≤ q → cfS p q = ((m.length : Nat) : Int) + 1
 | n, p, q, m, v, h, hp, hq => by
   by_cases e : p = q
   ·subst e
    have hm : m = [] := by
     cases n with
     | zero => unfold yY at h; rw [if_pos rfl] at h; simp at h; exact h.1
     | succ n => unfold yY at h; rw [if_pos rfl] at h; simp at h; exact h.1
    subst hm
    rw [adq hp, Int.ediv_self (by omega), Int.emod_self, anq]
    rfl
   ·cases n with
    | zero => unfold yY at h; rw [if_neg e] at h; cases h
    | succ n =>
      unfold yY at h
      rw [if_neg e] at h
      split at h
      ·cases hx : yY n p (q - p) with
       | none => rw [hx] at h; cases h
       | some x =>
         rw [hx] at h
         simp only [Option.map_some, Option.some.injEq, Prod.mk.injEq] at h
         obtain ⟨rfl, rfl⟩ := h
         have := afn n p (q - p) x.1 x.2 hx hp (by omega)
         rw [ajg hp hq, akm hp, ajg (by omega) hp, this]
         simp
      ·cases hx : yY n (p - q) q with
       | none => rw [hx] at h; cases h
       | some x =>
         rw [hx] at h
         simp only [Option.map_some, Option.some.injEq, Prod.mk.injEq] at h
         obtain ⟨rfl, rfl⟩ := h
         have := afn n (p - q) q x.1 x.2 hx (by omega) hq
         rw [akm hq, this]
         simp
theorem apT {a b : Int} (h : isF (a, b) = true) : gcdI a b = 1 := by
 unfold isF at h
 simp only [Bool.and_eq_true, decide_eq_true_eq] at h
 exact h.2.1
theorem alv {x n : Int} (h : vV [(x, n)] = 0) : isF (x, n) = true := by
 unfold vV at h
 split at h
 ·split at h
  ·rename_i e
   simpa using e
  ·cases h
 ·cases h
theorem alk {x n : Int} (h : (RY x n).2 = 0) : ∃ m, (RY x n).1 = tx m ∧ m.length ≤ 60 ∧ RX m = (x, n, 0) ∧ cfS x n = ((m.length : Nat) : Int) + 1 ∧ 1 ≤ x ∧ x ≤ 1000000 ∧ 1 ≤ n ∧ n ≤ 1000000 := by
 unfold RY at h ⊢
 by_cases hc : vV [(x, n)] = 0
 ·rw [if_pos hc] at h ⊢
  have hF := alv hc
  have hg := apT hF
  have hcr : crd x = true ∧ crd n = true := by
   unfold isF at hF
   simp only [Bool.and_eq_true] at hF
   exact hF.1
  have hx := GK.1 hcr.1
  have hn := GK.1 hcr.2
  by_cases h1 : x < 1 ∨ n < 1
  ·rw [if_pos h1] at h
   exact absurd h (by decide)
  ·rw [if_neg h1] at h ⊢
   rw [ahe] at h ⊢
   cases hp : yY 60 x n with
   | none => rw [hp] at h; exact absurd h (by decide)
   | some y =>
     obtain ⟨m, v⟩ := y
     obtain ⟨h2, h3⟩ := akY hp (by omega) (by omega) hg
     have h4 := afn 60 x n m v hp (by omega) (by omega)
     refine ⟨m, rfl, h2, ?_, h4, by omega, by omega, by omega, by omega⟩
     unfold RX
     rw [h3]
     unfold Kw
     simp only [hcr.1, hcr.2, Bool.and_true, if_true]
 ·rw [if_neg hc] at h
  exact absurd h hc
theorem amb {l : List Bool} (hl : l.length ≤ 60) (h : (RX l).2.2 = 0) : RY (RX l).1 (RX l).2.1 = (tx l, 0) := by
 obtain ⟨h1, h2, h3⟩ := afi l 60 hl
 have hg := aoC l
 unfold RX at h ⊢
 generalize sumW l 0 1 1 0 = s at *
 unfold Kw at h ⊢
 split at h
 ·rename_i e
  rw [if_pos e]
  rw [Bool.and_eq_true] at e
  have hF : isF (s.1, s.2) = true := agB e.1 e.2 (by omega) hg
  unfold RY
  rw [if_pos (acd (s := [(s.1, s.2)]) (by simpa using hF)), if_neg (by simp only; omega), ahe]
  simp only [h3]
 ·exact absurd h (by decide)
theorem afe (k : Nat) (a b : Int) : ∃ x y, ∀ r : Int → Int → Option α, lW k a b r = r x y := by
 unfold lW LX
 by_cases h1 : b < 0
 ·exact ⟨_, _, fun r => by rw [decide_eq_true h1, cond_true]⟩
 ·by_cases h2 : b = 0
  ·by_cases h3 : a < 0
   ·exact ⟨_, _, fun r => by rw [decide_eq_false h1, cond_false, decide_eq_true h2, cond_true, decide_eq_true h3, cond_true]⟩
   ·exact ⟨_, _, fun r => by rw [decide_eq_false h1, cond_false, decide_eq_true h2, cond_true, decide_eq_false h3, cond_false]⟩
  ·exact ⟨_, _, fun r => by rw [decide_eq_false h1, cond_false, decide_eq_false h2, cond_false]⟩
theorem akO {l : List Int} (hl : oW l) {a : Int} (ha : AtC l a) (k : Nat) (hk : 1000000000 < k) (h : Int) {most : Int} (h0 : 0 ≤ most) (h1 : most ≤ 1000000) : ∃ x y a' h', AtC l a' ∧ ∀ r : Int → Int → Int → Int → Option α, MV k l a h most r = r x y a' h' := by
 obtain ⟨x, y, a1, h1, i1, e1⟩ := ad1 (α := α) hl ha k hk h h0 h1
 obtain ⟨u, v, e2⟩ := afe (α := α) k x y
 exact ⟨u, v, a1, h1, i1, fun r => by unfold MV WY; rw [e1, e2]⟩
theorem aaz {l : List Int} (hl : oW l) {a : Int} (ha : AtC l a) (k : Nat) (hk : 1000000000 < k) (h : Int) : ∃ x y a' h', AtC l a' ∧ ∀ r : Int → Int → Int → Int → Option α, qW k l a h r = r x y a' h' := by
 obtain ⟨m, a1, h1, i1, i2, i3⟩ := aai (α := α) hl ha k h (list := [3, 6, 12, 100, 1000, 1000000]) (by simp) (by simp)
 have hm : 0 ≤ m ∧ m ≤ 1000000 := by
  simp only [List.mem_cons, List.not_mem_nil, or_false] at i2
  omega
 obtain ⟨x, y, a2, h2, j1, j2⟩ := akO (α := α) hl i1 k hk h1 hm.1 hm.2
 obtain ⟨v, a3, h3, q1, q2, q3, q4⟩ := tY (α := α) hl j1 k h2 30
 by_cases c1 : v = 0
 ·obtain ⟨w, a4, h4, s1, s2, s3⟩ := aai (α := α) hl q1 k h3 (list := [2, (-1), 0]) (by simp) (by simp)
  refine ⟨w64 (0 + (w64 (w * x))), w64 (0 + (w64 (w * y))), a4, h4, s1, fun r => ?_⟩
  unfold qW MQ
  rw [i3, j2, q4, decide_eq_true c1, cond_true, s3, iW, oK]
 ·by_cases c2 : v = 1
  ·obtain ⟨x', y', a4, h4, s1, s2⟩ := amP (α := α) hl q1 k h3 x y
   refine ⟨x', y', a4, h4, s1, fun r => ?_⟩
   unfold qW MQ
   rw [i3, j2, q4, decide_eq_false c1, cond_false, decide_eq_true c2, cond_true, s2]
  ·refine ⟨x, y, a3, h3, q1, fun r => ?_⟩
   unfold qW MQ
   rw [i3, j2, q4, decide_eq_false c1, cond_false, decide_eq_false c2, cond_false]
theorem aoL (k : Nat) (hk : 1000000000 < k) {a b : Int} (ha : -1000000 ≤ a) (ha1 : a ≤ 1000000) (hb : -1000000 ≤ b) (hb1 : b ≤ 1000000) : ∃ p q : Int, ∀ r : Int → Int → Option α, zK k a b r = r p q := by
 by_cases h0 : a = 0
 ·exact ⟨w64 (0 - b), 0, fun r => by unfold zK MJ; rw [decide_eq_true h0, cond_true]⟩
 ·have hn : max a (w64 (0 - a)) = max a (-a) := by rw [eQ (by omega) (by omega)]; omega
  generalize hN : max a (-a) = n at hn
  have n0 : 1 ≤ n := by omega
  have n1 : n ≤ 1000000 := by omega
  have r0 := Int.emod_nonneg b (b := n) (by omega)
  have r1 := Int.emod_lt_of_pos b (show 0 < n by omega)
  have d1 : n ∣ 1 * 1 * b - b % n := ⟨b / n, by have := Int.emod_add_mul_ediv b n; omega⟩
  have d2 : n ∣ -1 * 0 * b - n := ⟨-1, by omega⟩
  obtain ⟨X, g, bef, x1, x2, x3, x4, f1, f2⟩ := acs (α := α) 1000000000 n b 1 1 0 (b % n) n (.inl rfl) (by omega) (by omega) (by omega) (by omega) r0 (by omega) (by omega) (by omega) (by omega) (by omega) d1 d2 (by omega)
  rw [show (1 : Int) * 1 = 1 from rfl, show -(1 : Int) * 0 = 0 from rfl] at f1
  refine ⟨(0 - X) % n, w64 (Int.tdiv (w64 (1 + (w64 (b * ((0 - X) % n))))) a), fun r => ?_⟩
  unfold zK MJ
  rw [decide_eq_false h0, cond_false, hn, RQ k n b _ (by omega) (by omega), f1 k hk]
  rw [eQ (n := 0 - X) (by omega) (by omega), RQ k n _ _ (by omega) (by omega)]
  simp only [decide_eq_false h0, cond_false]
theorem akk {l : List Int} (hl : oW l) {a : Int} (ha : AtC l a) (k : Nat) (hk : 1000000100 < k) (h : Int) : ∃ x y z w a' h', AtC l a' ∧ ∀ r : Int → Int → Int → Int → Int → Int → Option α, uZ k l a h r = r x y z w a' h' := by
 obtain ⟨x, y, a1, h1, i1, i2⟩ := aaz (α := α) hl ha k (by omega) h
 cases hF : isF (x, y) with
 | false =>
   obtain ⟨z, w, a2, h2, j1, j2⟩ := aaz (α := α) hl i1 k (by omega) h1
   refine ⟨x, y, z, w, a2, h2, j1, fun r => ?_⟩
   unfold uZ Iq
   rw [i2, Ij k (by omega), hF, Bool.not_false, cond_true, j2]
 | true =>
   obtain ⟨v, a2, h2, j1, j2, j3, j4⟩ := tY (α := α) hl i1 k h1 3
   by_cases c1 : v = 0
   ·obtain ⟨z, w, a3, h3, q1, q2⟩ := aaz (α := α) hl j1 k (by omega) h2
    refine ⟨x, y, z, w, a3, h3, q1, fun r => ?_⟩
    unfold uZ Iq
    rw [i2, Ij k (by omega), hF, Bool.not_true, cond_false, j4, decide_eq_true c1, cond_true, q2]
   ·have hc := abA hF
    have b1 := PY hc.1
    have b2 := PY hc.2
    obtain ⟨p, q, e1⟩ := aoL (α := α) k (by omega) (a := x) (b := y) b1.1 b1.2 b2.1 b2.2
    obtain ⟨u, a3, h3, q1, q2, q3, q4⟩ := tY (α := α) hl j1 k h2 7
    obtain ⟨s, t, e2⟩ := afe (α := α) k (w64 (p + (w64 ((w64 (u - 3)) * x)))) (w64 (q + (w64 ((w64 (u - 3)) * y))))
    obtain ⟨g, a4, h4, s1, s2, s3, s4⟩ := tY (α := α) hl q1 k h3 2
    by_cases c2 : g = 0
    ·refine ⟨s, t, x, y, a4, h4, s1, fun r => ?_⟩
     unfold uZ Iq
     rw [i2, Ij k (by omega), hF, Bool.not_true, cond_false, j4, decide_eq_false c1, cond_false, e1, q4, iW, oK, e2, s4, decide_eq_true c2, cond_true]
    ·refine ⟨x, y, s, t, a4, h4, s1, fun r => ?_⟩
     unfold uZ Iq
     rw [i2, Ij k (by omega), hF, Bool.not_true, cond_false, j4, decide_eq_false c1, cond_false, e1, q4, iW, oK, e2, s4, decide_eq_false c2, cond_false]
theorem ajv {l : List Int} (hl : oW l) (k : Nat) (hk : 1000000100 < k) : ∃ x y, ∀ r : Int → Int → Option α, bK k l r = r x y := by
 obtain ⟨h0, i0, e0⟩ := Zq (α := α) hl k (by omega)
 obtain ⟨x, y, a1, h1, i1, i2⟩ := aaz (α := α) hl i0 k (by omega) h0
 exact ⟨x, y, fun r => by unfold bK OW; rw [e0, i2]⟩
theorem an9 {l : List Int} (hl : oW l) (k : Nat) (hk : 1000000100 < k) : ∃ x y, ∀ r : Int → Int → Option α, dW k l r = r x y := by
 obtain ⟨h0, i0, e0⟩ := Zq (α := α) hl k (by omega)
 obtain ⟨x, y, a1, h1, i1, i2⟩ := aaz (α := α) hl i0 k (by omega) h0
 by_cases c1 : x < 0
 ·obtain ⟨v, a2, h2, j1, j2, j3, j4⟩ := tY (α := α) hl i1 k h1 4
  by_cases c2 : 0 < v
  ·exact ⟨_, y, fun r => by unfold dW FQ; rw [e0, i2, decide_eq_true c1, cond_true, j4, decide_eq_true c2, cond_true]⟩
  ·exact ⟨_, y, fun r => by unfold dW FQ; rw [e0, i2, decide_eq_true c1, cond_true, j4, decide_eq_false c2, cond_false]⟩
 ·exact ⟨x, y, fun r => by unfold dW FQ; rw [e0, i2, decide_eq_false c1, cond_false]⟩
theorem amx {l : List Int} (hl : oW l) (k : Nat) (hk : 1000000100 < k) : ∃ n, ∀ r : Int → Option α, bY k l r = r n := by
 obtain ⟨h0, i0, e0⟩ := Zq (α := α) hl k (by omega)
 obtain ⟨v, a1, h1, i1, _, _, i2⟩ := apC (α := α) hl i0 k h0 (most := 15) (by omega) (by omega)
 exact ⟨w64 (1 + v), fun r => by unfold bY Nj; rw [e0, i2]⟩
theorem ahO {l : List Int} (hl : oW l) (k : Nat) (hk : 1000000100 < k) : ∃ x y, ∀ r : Int → Int → Option α, aV k l r = r x y := by
 obtain ⟨h0, i0, e0⟩ := Zq (α := α) hl k (by omega)
 obtain ⟨v, a1, h1, i1, i2, i3, i4⟩ := tY (α := α) hl i0 k h0 4
 by_cases c1 : v = 0
 ·obtain ⟨x, y, a2, h2, j1, j2⟩ := aoN (α := α) hl i1 k h1
  exact ⟨x, y, fun r => by unfold aV wV; rw [e0, i4, decide_eq_true c1, cond_true, j2]⟩
 ·obtain ⟨m, a2, h2, j1, j2, j3, j4⟩ := akb (α := α) hl i1 k h1
  obtain ⟨x, y, a3, h3, q1, q2⟩ := ad1 (α := α) hl j1 k (by omega) h2 (most := m) (by omega) j3
  exact ⟨x, y, fun r => by unfold aV wV; rw [e0, i4, decide_eq_false c1, cond_false, j4, q2]⟩
theorem aoH {l : List Int} (hl : oW l) (k : Nat) (hk : 1000000100 < k) : ∃ x y z w, (∀ r : Int → Int → Int → Int → Option α, aY k l r = r x y z w) ∧ ∀ r : Int → Int → Int → Int → Option α, aQ k l r = r x y z w := by
 obtain ⟨h0, i0, e0⟩ := Zq (α := α) hl k (by omega)
 obtain ⟨x, y, z, w, a1, h1, i1, i2⟩ := akk (α := α) hl i0 k hk h0
 exact ⟨x, y, z, w, fun r => by unfold aY EJ; rw [e0, i2], fun r => by unfold aQ wJ; rw [e0, i2]⟩
theorem ajL {l : List Int} (hl : oW l) (k : Nat) (hk : 1000000100 < k) : ∃ x y z w s t, ∀ r : Int → Int → Int → Int → Int → Int → Option α, aW k l r = r x y z w s t := by
 obtain ⟨h0, i0, e0⟩ := Zq (α := α) hl k (by omega)
 obtain ⟨x, y, z, w, a1, h1, i1, i2⟩ := akk (α := α) hl i0 k hk h0
 obtain ⟨v, a2, h2, j1, j2, j3, j4⟩ := tY (α := α) hl i1 k h1 8
 have main : ∀ n : Int, ∃ s t, ∀ r : Int → Int → Option α, (iW k x y z w n fun a b => lW k a b r) = r s t := fun n => by
  obtain ⟨s, t, e⟩ := afe (α := α) k (w64 (x + (w64 (n * z)))) (w64 (y + (w64 (n * w))))
  exact ⟨s, t, fun r => by unfold iW oK; exact e r⟩
 obtain ⟨s1, t1, m1⟩ := main (-1)
 obtain ⟨s2, t2, m2⟩ := main 1
 by_cases c0 : v = 0
 ·obtain ⟨s, t, a3, h3, q1, q2⟩ := aaz (α := α) hl j1 k (by omega) h2
  exact ⟨x, y, z, w, s, t, fun r => by unfold aW mX; rw [e0, i2, j4, decide_eq_true c0, cond_true, q2]⟩
 ·by_cases c1 : v = 1
  ·exact ⟨x, y, z, w, s1, t1, fun r => by unfold aW mX; rw [e0, i2, j4, decide_eq_false c0, cond_false, decide_eq_true c1, cond_true, cond_true, m1]⟩
  ·by_cases c2 : v = 2
   ·exact ⟨x, y, z, w, s1, t1, fun r => by unfold aW mX; rw [e0, i2, j4, decide_eq_false c0, cond_false, decide_eq_false c1, cond_false, decide_eq_true c2, cond_true, cond_true, m1]⟩
   ·by_cases c3 : v = 3
    ·exact ⟨x, y, z, w, s1, t1, fun r => by unfold aW mX; rw [e0, i2, j4, decide_eq_false c0, cond_false, decide_eq_false c1, cond_false, decide_eq_false c2, cond_false, decide_eq_true c3, cond_true, m1]⟩
    ·exact ⟨x, y, z, w, s2, t2, fun r => by unfold aW mX; rw [e0, i2, j4, decide_eq_false c0, cond_false, decide_eq_false c1, cond_false, decide_eq_false c2, cond_false, decide_eq_false c3, cond_false, m2]⟩
theorem adf (s : ByteArray) (a b : Nat) : (s.extract a b).size ≤ s.size := by
 rw [ByteArray.size_extract]
 omega
theorem al7 {l : List Int} (hl : oW l) {a : Int} (ha : AtC l a) (k : Nat) (h : Int) {s : ByteArray} (hs : s.size ≤ 1000) : ∃ t a' h', t.size ≤ 2001 ∧ AtC l a' ∧ ∀ r : ByteArray → Int → Int → Option α, uX k l a h s r = r t a' h' := by
 obtain ⟨v, a1, h1, i1, i2, i3, i4⟩ := tY (α := α) hl ha k h 10
 have hv : v.toNat < 10 := by omega
 obtain ⟨c, hc, hcs⟩ : ∃ c : ByteArray, [(bs [48]), (bs [49]), (bs [50]), (bs [57]), (bs [44]), (bs [59]), (bs [45]), (bs [32]), (bs [120]), (bs [10])][v.toNat]? = some c ∧ c.size = 1 := by
  rcases (show v.toNat = 0 ∨ v.toNat = 1 ∨ v.toNat = 2 ∨ v.toNat = 3 ∨ v.toNat = 4 ∨ v.toNat = 5 ∨ v.toNat = 6 ∨ v.toNat = 7 ∨ v.toNat = 8 ∨ v.toNat = 9 by omega) with e | e | e | e | e | e | e | e | e | e <;> rw [e] <;> exact ⟨_, rfl, rfl⟩
 have hbig := nZ
 by_cases hz : s.size = 0
 ·refine ⟨c, a1, h1, by omega, i1, fun r => ?_⟩
  unfold uX Bq
  rw [i4, jJ i2, nz (by omega), Bool.and_true, cond_true, hc, Option.bind_some, decide_eq_true (show ((s.size : Nat) : Int) = 0 by omega), cond_true]
 ·obtain ⟨p, a2, h2, j1, j2, j3, j4⟩ := tY (α := α) hl i1 k h1 ((s.size : Nat) : Int)
  have hp : p < ((s.size : Nat) : Int) := by omega
  obtain ⟨q, a3, h3, q1, q2, q3, q4⟩ := tY (α := α) hl j1 k h2 3
  have x1 := adf s 0 p.toNat
  have x2 := adf s (p + 1).toNat s.size
  have x3 := adf s p.toNat s.size
  have w : w64 (p + 1) = p + 1 := eQ (by omega) (by omega)
  have y1 : ∀ t : ByteArray, t.size ≤ 1000 → decide (t.size + c.size ≤ big) = true := fun t ht => DW (by omega)
  by_cases c0 : q = 0
  ·refine ⟨((s.extract 0 p.toNat) ++ c) ++ (s.extract (p + 1).toNat s.size), a3, h3, ?_, q1, fun r => ?_⟩
   rotate_left
   ·unfold uX Bq
    rw [i4, jJ i2, nz (by omega), Bool.and_true, cond_true, hc, Option.bind_some, decide_eq_false (show ¬ ((s.size : Nat) : Int) = 0 by omega), cond_false, j4, q4, decide_eq_true c0, cond_true, w, jJ j2, jJ (by omega), Bool.and_true, cond_true, DW (by omega), cond_true, jJ (by omega), jJ (by omega), Bool.and_true, cond_true, DW (by rw [ByteArray.size_append]; omega), cond_true]
   ·rw [ByteArray.size_append, ByteArray.size_append]; omega
  ·by_cases c1 : q = 1
   ·refine ⟨(s.extract 0 p.toNat) ++ (s.extract (p + 1).toNat s.size), a3, h3, ?_, q1, fun r => ?_⟩
    rotate_left
    ·unfold uX Bq
     rw [i4, jJ i2, nz (by omega), Bool.and_true, cond_true, hc, Option.bind_some, decide_eq_false (show ¬ ((s.size : Nat) : Int) = 0 by omega), cond_false, j4, q4, decide_eq_false c0, cond_false, decide_eq_true c1, cond_true, w, jJ j2, jJ (by omega), Bool.and_true, cond_true, jJ (by omega), jJ (by omega), Bool.and_true, cond_true, DW (by omega), cond_true]
    ·rw [ByteArray.size_append]; omega
   ·refine ⟨((s.extract 0 p.toNat) ++ c) ++ (s.extract p.toNat s.size), a3, h3, ?_, q1, fun r => ?_⟩
    rotate_left
    ·unfold uX Bq
     rw [i4, jJ i2, nz (by omega), Bool.and_true, cond_true, hc, Option.bind_some, decide_eq_false (show ¬ ((s.size : Nat) : Int) = 0 by omega), cond_false, j4, q4, decide_eq_false c0, cond_false, decide_eq_false c1, cond_false, jJ j2, jJ (by omega), Bool.and_true, cond_true, DW (by omega), cond_true, cond_true, DW (by rw [ByteArray.size_append]; omega), cond_true]
    ·rw [ByteArray.size_append, ByteArray.size_append]; omega
theorem abS {l : List Int} (hl : oW l) (turn : Int) : ∀ (m k : Nat) (n a h : Int) (s : ByteArray), AtC l a → n ≤ m → s.size + m ≤ 100 → m < k → ∃ (t : ByteArray) (n' a' h' : Int), t.size ≤ 100 ∧ AtC l a' ∧
 ∀ (b0 : ByteArray → Int → Int → Int → Int → List Int → Option α) (r0 : ByteArray → Option α), jw k s turn n a h l b0 r0 = b0 t turn n' a' h' l
 | _, 0, _, _, _, _, _, _, _, hk => by omega
 | 0, k + 1, n, a, h, s, ha, hn, hs, hk => ⟨s, n, a, h, by omega, ha, fun b0 r0 => by rw [jw, oZ, decide_eq_false (by omega), cond_false]⟩
 | m + 1, k + 1, n, a, h, s, ha, hn, hs, hk => by
   have hbig := nZ
   by_cases c : 0 < n
   ·obtain ⟨v, a1, h1, i1, i2, i3, i4⟩ := tY (α := α) hl ha k h (w64 (turn + 1))
    have s1 : (bs [82]).size = 1 := rfl
    have s2 : (bs [76]).size = 1 := rfl
    have w : w64 (n - 1) = n - 1 := eQ (by omega) (by omega)
    by_cases c1 : v = 0
    ·obtain ⟨t, n', a', h', j1, j2, j3⟩ := abS hl turn m k (n - 1) a1 h1 (s ++ bs [82]) i1 (by omega) (by rw [ByteArray.size_append]; omega) (by omega)
     refine ⟨t, n', a', h', j1, j2, fun b0 r0 => ?_⟩
     rw [jw, oZ, decide_eq_true c, cond_true, i4, decide_eq_true c1, cond_true, DW (by omega), cond_true, w, j3]
    ·obtain ⟨t, n', a', h', j1, j2, j3⟩ := abS hl turn m k (n - 1) a1 h1 (s ++ bs [76]) i1 (by omega) (by rw [ByteArray.size_append]; omega) (by omega)
     refine ⟨t, n', a', h', j1, j2, fun b0 r0 => ?_⟩
     rw [jw, oZ, decide_eq_true c, cond_true, i4, decide_eq_false c1, cond_false, DW (by omega), cond_true, w, j3]
   ·exact ⟨s, n, a, h, by omega, ha, fun b0 r0 => by rw [jw, oZ, decide_eq_false c, cond_false]⟩
theorem aib {l : List Int} (hl : oW l) (k : Nat) (hk : 1000000100 < k) : ∃ t, ∀ r : ByteArray → Option α, aK k l r = r t := by
 obtain ⟨h0, i0, e0⟩ := Zq (α := α) hl k (by omega)
 obtain ⟨u, a1, h1, i1, i2, i3⟩ := aai (α := α) hl i0 k h0 (list := [1, 2, 5]) (by simp) (by simp)
 obtain ⟨m, a2, h2, j1, j2, j3⟩ := aai (α := α) hl i1 k h1 (list := [5, 12, 62]) (by simp) (by simp)
 obtain ⟨n, a3, h3, q1, q2, q3, q4⟩ := tY (α := α) hl j1 k h2 m
 have hm : m ≤ 62 := by
  simp only [List.mem_cons, List.not_mem_nil, or_false] at j2
  omega
 obtain ⟨t, n', a4, h4, s1, s2, s3⟩ := abS (α := α) hl u 62 k n a3 h3 (bs []) q1 (by omega) (by show 0 + 62 ≤ 100; omega) (by omega)
 obtain ⟨v, a5, h5, u1, u2, u3, u4⟩ := tY (α := α) hl s2 k h4 24
 by_cases c : v = 0
 ·obtain ⟨t', a6, h6, _, _, e6⟩ := al7 (α := α) hl u1 k h5 (s := t) (by omega)
  exact ⟨t', fun r => by unfold aK yX; rw [e0, i3, j3, q4, s3, u4, decide_eq_true c, cond_true, e6]⟩
 ·exact ⟨t, fun r => by unfold aK yX; rw [e0, i3, j3, q4, s3, u4, decide_eq_false c, cond_false]⟩
def ahZ : Nat → Int → Int × Int → Int × Int → Option (List (Int × Int))
 | 0, _, _, _ => none
 | m + 1, n, x, y => if y.1 = y.2 then some [] else if y.2 = 0 then none else
   (ahZ m n y (w64 (w64 (0 - x.1) + w64 (w64 (Int.tdiv (w64 (n + x.2)) y.2) * y.1)), w64 (w64 (0 - x.2) + w64 (w64 (Int.tdiv (w64 (n + x.2)) y.2) * y.2)))).map fun l => (w64 (w64 (0 - x.1) + w64 (w64 (Int.tdiv (w64 (n + x.2)) y.2) * y.1)), w64 (w64 (0 - x.2) + w64 (w64 (Int.tdiv (w64 (n + x.2)) y.2) * y.2))) :: l
theorem aij : ∀ (m k : Nat) (n i : Int) (x y : Int × Int) (pre l : List (Int × Int)), ahZ m n x y = some l → pre.length + m ≤ 1000 → i = ((pre.length + 1 : Nat) : Int) → m < k →
 ∃ i', ∀ (b0 : Int → Int → List (Int × Int) → Option α) r0 r1, sZ k n i (pre ++ [x, y]) b0 r0 r1 = b0 n i' (pre ++ [x, y] ++ l)
 | 0, _, _, _, _, _, _, _, h, _, _, _ => by cases h
 | m + 1, 0, _, _, _, _, _, _, _, _, _, hk => by omega
 | m + 1, k + 1, n, i, x, y, pre, l, h, hl, hi, hk => by
   have hbig := nZ
   have hlen : (pre ++ [x, y]).length = pre.length + 2 := by simp
   have g1 : (pre ++ [x, y])[i.toNat]? = some y := by
    rw [hi, Int.toNat_natCast, List.getElem?_append_right (by omega)]
    rw [show pre.length + 1 - pre.length = 1 by omega]
    rfl
   have w1 : w64 (i - 1) = ((pre.length : Nat) : Int) := by rw [eQ (by omega) (by omega)]; omega
   have w2 : w64 (i + 1) = (((pre ++ [x]).length + 1 : Nat) : Int) := by rw [eQ (by omega) (by omega)]; simp; omega
   have g2 : (pre ++ [x, y])[pre.length]? = some x := by
    rw [List.getElem?_append_right (by omega), Nat.sub_self]
    rfl
   have d1 : (decide (0 ≤ i) && decide (i < (((pre ++ [x, y]).length : Nat) : Int))) = true := by
    rw [jJ (by omega), nz (by omega), Bool.and_true]
   have d2 : (decide ((0 : Int) ≤ ((pre.length : Nat) : Int)) && decide (((pre.length : Nat) : Int) < (((pre ++ [x, y]).length : Nat) : Int))) = true := by
    rw [jJ (by omega), nz (by omega), Bool.and_true]
   unfold ahZ at h
   by_cases c1 : y.1 = y.2
   ·rw [if_pos c1] at h
    have := Option.some.inj h
    subst this
    refine ⟨i, fun b0 r0 r1 => ?_⟩
    rw [sZ, JJ, d1, cond_true, g1, Option.bind_some, cond_true, Option.bind_some, decide_eq_true c1, Bool.not_true, cond_false, List.append_nil]
   ·rw [if_neg c1] at h
    by_cases c2 : y.2 = 0
    ·rw [if_pos c2] at h; cases h
    ·rw [if_neg c2, Option.map_eq_some_iff] at h
     obtain ⟨l', h', rfl⟩ := h
     generalize hz : (w64 (w64 (0 - x.1) + w64 (w64 (Int.tdiv (w64 (n + x.2)) y.2) * y.1)), w64 (w64 (0 - x.2) + w64 (w64 (Int.tdiv (w64 (n + x.2)) y.2) * y.2))) = z at h'
     have hz1 : w64 (w64 (0 - x.1) + w64 (w64 (Int.tdiv (w64 (n + x.2)) y.2) * y.1)) = z.1 := congrArg Prod.fst hz
     have hz2 : w64 (w64 (0 - x.2) + w64 (w64 (Int.tdiv (w64 (n + x.2)) y.2) * y.2)) = z.2 := congrArg Prod.snd hz
     obtain ⟨i', ih⟩ := aij m k n (w64 (i + 1)) y z (pre ++ [x]) l' h' (by simp; omega) w2 (by omega)
     refine ⟨i', fun b0 r0 r1 => ?_⟩
     have e1 : pre ++ [x, y] ++ [z] = pre ++ [x] ++ [y, z] := by simp
     have e2 : pre ++ [x, y] ++ z :: l' = pre ++ [x] ++ [y, z] ++ l' := by simp
     rw [sZ, JJ, d1, cond_true, g1, Option.bind_some, cond_true, Option.bind_some, decide_eq_false c1, Bool.not_false, cond_true, w1, d2, cond_true, Int.toNat_natCast, g2, Option.bind_some, cond_true, Option.bind_some, decide_eq_false c2, cond_false, cond_true, Option.bind_some, cond_true, Option.bind_some, cond_true, Option.bind_some, iW, oK, hz1, hz2, DW (by rw [hlen]; omega), cond_true, e1, ih, e2]
def rowG : Nat → Int → Int → List (Int × Int)
 | 0, _, _ => []
 | m + 1, q, p => if gcdI p q = 1 then (p, q) :: rowG m q (p + 1) else rowG m q (p + 1)
theorem ajk : ∀ (m : Nat) (q p : Int), (rowG m q p).length ≤ m
 | 0, _, _ => by simp [rowG]
 | m + 1, q, p => by
   have := ajk m q (p + 1)
   unfold rowG
   split
   ·simp; omega
   ·omega
theorem agX : ∀ (m k : Nat) (n q p : Int) (out : List (Int × Int)), p + m = q + 1 → 0 ≤ p → q ≤ 16 → out.length + m ≤ 1000 → 1000000000 + m < k →
 ∀ (b2 : Int → Int → Int → List (Int × Int) → Option α) r0 r1, qJ k n q p out b2 r0 r1 = b2 n q (q + 1) (out ++ rowG m q p)
 | _, 0, _, _, _, _, _, _, _, _, hk => by omega
 | 0, k + 1, n, q, p, out, hm, h0, hq, hl, hk => fun b2 r0 r1 => by
   rw [qJ, JY, aas (by omega), cond_false, show p = q + 1 by omega]
   simp [rowG]
 | m + 1, k + 1, n, q, p, out, hm, h0, hq, hl, hk => fun b2 r0 r1 => by
   have hbig := nZ
   have w : w64 (p + 1) = p + 1 := eQ (by omega) (by omega)
   rw [qJ, JY, jJ (by omega), cond_true, acm k p q _ (by omega) (by omega) (by omega) (by omega) (by omega), w]
   by_cases c : gcdI p q = 1
   ·rw [decide_eq_true c, cond_true, DW (by omega), cond_true, agX m k n q (p + 1) (out ++ [(p, q)]) (by omega) (by omega) hq (by simp; omega) (by omega), List.append_assoc]
    show b2 n q (q + 1) (out ++ ((p, q) :: rowG m q (p + 1))) = b2 n q (q + 1) (out ++ (if gcdI p q = 1 then (p, q) :: rowG m q (p + 1) else rowG m q (p + 1)))
    rw [if_pos c]
   ·rw [decide_eq_false c, cond_false, agX m k n q (p + 1) out (by omega) (by omega) hq (by omega) (by omega)]
    show b2 n q (q + 1) (out ++ (rowG m q (p + 1))) = b2 n q (q + 1) (out ++ (if gcdI p q = 1 then (p, q) :: rowG m q (p + 1) else rowG m q (p + 1)))
    rw [if_neg c]
def allG : Nat → Int → List (Int × Int)
 | 0, _ => []
 | m + 1, q => rowG (q + 1).toNat q 0 ++ allG m (q + 1)
theorem ajY : ∀ (m k : Nat) (n q : Int) (out : List (Int × Int)), q + m = n + 1 → 1 ≤ q → n ≤ 16 → out.length + 17 * m ≤ 900 → 1000000100 + m < k →
 ∃ q', ∀ (b0 : Int → Int → List (Int × Int) → Option α) r0 r1, pz k n q out b0 r0 r1 = b0 n q' (out ++ allG m q)
 | _, 0, _, _, _, _, _, _, _, hk => by omega
 | 0, k + 1, n, q, out, hm, h0, hq, hl, hk => ⟨q, fun b0 r0 r1 => by
   rw [pz, JQ, aas (by omega), cond_false]
   simp [allG]⟩
 | m + 1, k + 1, n, q, out, hm, h0, hq, hl, hk => by
   have hr := ajk (q + 1).toNat q 0
   have w : w64 (q + 1) = q + 1 := eQ (by omega) (by omega)
   obtain ⟨q', ih⟩ := ajY m k n (q + 1) (out ++ rowG (q + 1).toNat q 0) (by omega) (by omega) hq (by rw [List.length_append]; omega) (by omega)
   refine ⟨q', fun b0 r0 r1 => ?_⟩
   rw [pz, JQ, jJ (by omega), cond_true, agX (q + 1).toNat k n q 0 out (by omega) (by omega) (by omega) (by omega) (by omega), w, ih]
   show b0 n q' (out ++ rowG (q + 1).toNat q 0 ++ allG m (q + 1)) = b0 n q' (out ++ (rowG (q + 1).toNat q 0 ++ allG m (q + 1)))
   rw [List.append_assoc]
def isG (e : Int × Int) : Bool := decide (0 ≤ e.1) && decide (e.1 ≤ e.2) && decide (1 ≤ e.2) && decide (e.2 ≤ 16) && decide (gcdI e.1 e.2 = 1)
def ordG : List (Int × Int) → Bool
 | [] => true
 | x :: l => l.all (fun y => decide (x.1 * y.2 < x.2 * y.1)) && ordG l
def abv : List (Int × Int) → Bool
 | [] => true
 | x :: l => (match l with | [] => true | y :: _ => decide (y.1 * x.2 - y.2 * x.1 = 1)) && abv l
def aiv (n : Int) : Bool := match ahZ 100 n (0, 1) (1, n) with
 | none => false
 | some l => ([(0, 1), (1, n)] ++ l).isPerm (allG n.toNat 1) && ([(0, 1), (1, n)] ++ l).all isG && ordG ([(0, 1), (1, n)] ++ l) && abv ([(0, 1), (1, n)] ++ l) && decide (l.length ≤ 900)
theorem alx : ([1, 2, 3, 4, 5, 6, 7, 8, 9, 10, 11, 12, 13, 14, 15, 16].all aiv) = true := by kernel_rfl
theorem aao {e : Int × Int} : isG e = true ↔ 0 ≤ e.1 ∧ e.1 ≤ e.2 ∧ 1 ≤ e.2 ∧ e.2 ≤ 16 ∧ gcdI e.1 e.2 = 1 := by
 unfold isG
 simp only [Bool.and_eq_true, decide_eq_true_eq, and_assoc]
theorem ajZ {a b c : Int} (h : a ∣ b * c) (hg : Int.gcd a b = 1) : a ∣ c := by
 have h1 : a ∣ ((Int.gcd a (b * c) : Nat) : Int) := Int.dvd_coe_gcd (Int.dvd_refl a) h
 rw [Int.gcd_mul_right_right_of_gcd_eq_one hg] at h1
 exact Int.dvd_trans h1 (Int.gcd_dvd_right ..)
theorem alE {x y : Int × Int} (hx : isG x = true) (hy : isG y = true) (h : x.1 * y.2 = x.2 * y.1) : x = y := by
 obtain ⟨a0, a1, a2, a3, a4⟩ := aao.1 hx
 obtain ⟨b0, b1, b2, b3, b4⟩ := aao.1 hy
 have h1 : x.2 ∣ y.2 := by
  have : x.2 ∣ x.1 * y.2 := ⟨y.1, h⟩
  have hg : Int.gcd x.2 x.1 = 1 := by
   unfold gcdI at a4
   rw [Int.gcd_comm]
   omega
  exact ajZ this hg
 have h2 : y.2 ∣ x.2 := by
  have : y.2 ∣ y.1 * x.2 := ⟨x.1, by rw [Int.mul_comm y.1 x.2, ← h, Int.mul_comm]⟩
  have hg : Int.gcd y.2 y.1 = 1 := by
   unfold gcdI at b4
   rw [Int.gcd_comm]
   omega
  exact ajZ this hg
 have h3 : x.2 = y.2 := Int.le_antisymm (Int.le_of_dvd (by omega) h1) (Int.le_of_dvd (by omega) h2)
 rw [h3, Int.mul_comm y.2 y.1] at h
 have h4 : x.1 = y.1 := Int.eq_of_mul_eq_mul_right (by omega) h
 exact Prod.ext h4 h3
theorem apo (k : Nat) {x y : Int × Int} (hx : isG x = true) (hy : isG y = true) : wX (α := Int) k x.1 x.2 y.1 y.2 some = some (if x.1 * y.2 < x.2 * y.1 then -1 else if x.2 * y.1 < x.1 * y.2 then 1 else 0) := by
 obtain ⟨a0, a1, a2, a3, a4⟩ := aao.1 hx
 obtain ⟨b0, b1, b2, b3, b4⟩ := aao.1 hy
 have m1 : 0 ≤ x.1 * y.2 := Int.mul_nonneg a0 (by omega)
 have m2 : 0 ≤ x.2 * y.1 := Int.mul_nonneg (by omega) b0
 have m3 : x.1 * y.2 ≤ 16 * 16 := Int.mul_le_mul (by omega) (by omega) (by omega) (by omega)
 have m4 : x.2 * y.1 ≤ 16 * 16 := Int.mul_le_mul (by omega) (by omega) (by omega) (by omega)
 unfold wX TQ KJ abg Kv Qv Rj VK
 rw [eQ (n := x.1 * y.2) (by omega) (by omega), eQ (n := x.2 * y.1) (by omega) (by omega), eQ (by omega) (by omega)]
 simp only [decide_true, Bool.not_true, cond_false]
 by_cases c1 : x.1 * y.2 < x.2 * y.1
 ·rw [if_pos c1, nz (by omega), cond_true]
 ·rw [if_neg c1, zX (by omega), cond_false]
  by_cases c2 : x.2 * y.1 < x.1 * y.2
  ·rw [if_pos c2, nz (by omega), cond_true]
  ·rw [if_neg c2, zX (by omega), cond_false]
theorem lt_G (k : Nat) {x y : Int × Int} (hx : isG x = true) (hy : isG y = true) : Go.Proofs.ltOf (cfOf fun (p q : Int × Int) => wX (α := Int) k p.1 p.2 q.1 q.2) x y = decide (x.1 * y.2 < x.2 * y.1) := by
 have e : cfOf (fun (p q : Int × Int) => wX (α := Int) k p.1 p.2 q.1 q.2) x y = (if x.1 * y.2 < x.2 * y.1 then -1 else if x.2 * y.1 < x.1 * y.2 then 1 else 0) := congrArg (fun o => o.getD 0) (apo k hx hy)
 unfold Go.Proofs.ltOf
 rw [e]
 show decide ((if x.1 * y.2 < x.2 * y.1 then (-1 : Int) else if x.2 * y.1 < x.1 * y.2 then 1 else 0) < 0) = _
 split
 ·simp [*]
 ·split <;> simp [*]
theorem amw {x y z : Int × Int} (hx : 1 ≤ x.2) (hy : 1 ≤ y.2) (hz : 1 ≤ z.2) (h1 : x.1 * y.2 < x.2 * y.1) (h2 : y.1 * z.2 < y.2 * z.1) : x.1 * z.2 < x.2 * z.1 := by
 have e1 : x.1 * y.2 * z.2 < x.2 * y.1 * z.2 := Int.mul_lt_mul_of_pos_right h1 (by omega)
 have e2 : x.2 * (y.1 * z.2) < x.2 * (y.2 * z.1) := Int.mul_lt_mul_of_pos_left h2 (by omega)
 have e3 : (x.1 * z.2) * y.2 < (x.2 * z.1) * y.2 := by
  have a1 : (x.1 * z.2) * y.2 = x.1 * y.2 * z.2 := by grind
  have a2 : (x.2 * z.1) * y.2 = x.2 * (y.2 * z.1) := by grind
  have a3 : x.2 * y.1 * z.2 = x.2 * (y.1 * z.2) := by grind
  rw [a1, a2]
  omega
 exact Int.lt_of_mul_lt_mul_right e3 (by omega)
theorem ahh {x y z : Int × Int} (hx : 1 ≤ x.2) (hy : 1 ≤ y.2) (hz : 1 ≤ z.2) (h1 : x.1 * y.2 ≤ x.2 * y.1) (h2 : y.1 * z.2 ≤ y.2 * z.1) : x.1 * z.2 ≤ x.2 * z.1 := by
 have e1 : x.1 * y.2 * z.2 ≤ x.2 * y.1 * z.2 := Int.mul_le_mul_of_nonneg_right h1 (by omega)
 have e2 : x.2 * (y.1 * z.2) ≤ x.2 * (y.2 * z.1) := Int.mul_le_mul_of_nonneg_left h2 (by omega)
 have e3 : (x.1 * z.2) * y.2 ≤ (x.2 * z.1) * y.2 := by
  have a1 : (x.1 * z.2) * y.2 = x.1 * y.2 * z.2 := by grind
  have a2 : (x.2 * z.1) * y.2 = x.2 * (y.2 * z.1) := by grind
  have a3 : x.2 * y.1 * z.2 = x.2 * (y.1 * z.2) := by grind
  rw [a1, a2]
  omega
 exact Int.le_of_mul_le_mul_right e3 (by omega)
theorem ahi : ∀ {l : List (Int × Int)}, ordG l = true → l.Pairwise fun x y => x.1 * y.2 < x.2 * y.1
 | [], _ => .nil
 | x :: l, h => by
   unfold ordG at h
   rw [Bool.and_eq_true, List.all_eq_true] at h
   exact .cons (fun y hy => of_decide_eq_true (h.1 y hy)) (ahi h.2)
theorem atH (k : Nat) {l s : List (Int × Int)} (hp : s.Perm l) (hs : ∀ e ∈ s, isG e = true) (ho : ordG s = true) (hl : l.length ≤ 1000) (r : List (Int × Int) → Option α) : iJ k l r = r s := by
 have hL : ∀ e ∈ l, isG e = true := fun e he => hs e (hp.mem_iff.2 he)
 have lt := fun (x y : Int × Int) (hx : x ∈ l) (hy : y ∈ l) => lt_G k (hL x hx) (hL y hy)
 have pos := fun (x : Int × Int) (hx : x ∈ l) => (aao.1 (hL x hx)).2.2.1
 have hS : ags (fun (p q : Int × Int) => wX (α := Int) k p.1 p.2 q.1 q.2) l := by
  refine ⟨fun x hx y hy => ⟨_, apo k (hL x hx) (hL y hy)⟩, ⟨fun x => ?_, fun x y z h1 h2 => ?_, fun x y z h1 h2 => ?_⟩, fun x hx y hy h1 h2 => ?_⟩
  ·show Go.Proofs.ltOf _ x.1 x.1 = false
   rw [lt x.1 x.1 x.2 x.2, Int.mul_comm x.1.2]
   simp
  ·replace h1 : Go.Proofs.ltOf _ x.1 y.1 = true := h1
   replace h2 : Go.Proofs.ltOf _ y.1 z.1 = true := h2
   show Go.Proofs.ltOf _ x.1 z.1 = true
   rw [lt _ _ x.2 y.2] at h1
   rw [lt _ _ y.2 z.2] at h2
   rw [lt _ _ x.2 z.2]
   exact decide_eq_true (amw (pos _ x.2) (pos _ y.2) (pos _ z.2) (of_decide_eq_true h1) (of_decide_eq_true h2))
  ·replace h1 : Go.Proofs.ltOf _ x.1 y.1 = false := h1
   replace h2 : Go.Proofs.ltOf _ y.1 z.1 = false := h2
   show Go.Proofs.ltOf _ x.1 z.1 = false
   rw [lt _ _ x.2 y.2] at h1
   rw [lt _ _ y.2 z.2] at h2
   rw [lt _ _ x.2 z.2]
   have h1 := of_decide_eq_false h1
   have h2 := of_decide_eq_false h2
   have h3 := ahh (x := z.1) (y := y.1) (z := x.1) (pos _ z.2) (pos _ y.2) (pos _ x.2) (by rw [Int.mul_comm z.1.1, Int.mul_comm z.1.2]; omega) (by rw [Int.mul_comm y.1.1, Int.mul_comm y.1.2]; omega)
   rw [Int.mul_comm z.1.1, Int.mul_comm z.1.2] at h3
   exact decide_eq_false (by omega)
  ·rw [lt x y hx hy] at h1
   rw [lt y x hy hx, Int.mul_comm y.1, Int.mul_comm y.2] at h2
   have h1 := of_decide_eq_false h1
   have h2 := of_decide_eq_false h2
   exact alE (hL x hx) (hL y hy) (by omega)
 unfold iJ ahR
 rw [if_pos ⟨hS, by omega⟩]
 congr 1
 unfold abK
 have key : ∀ le : Int × Int → Int × Int → Bool, (∀ x ∈ l, ∀ y ∈ l, le x y = decide (x.1 * y.2 ≤ x.2 * y.1)) → l.mergeSort le = s := fun le hle => by
  have h1 := List.pairwise_mergeSort (le := fun (x y : {x // x ∈ l}) => le x.1 y.1) (fun a b c h1 h2 => by
   rw [hle _ a.2 _ b.2] at h1
   rw [hle _ b.2 _ c.2] at h2
   rw [hle _ a.2 _ c.2]
   exact decide_eq_true (ahh (pos _ a.2) (pos _ b.2) (pos _ c.2) (of_decide_eq_true h1) (of_decide_eq_true h2))) (fun a b => by
   rw [hle _ a.2 _ b.2, hle _ b.2 _ a.2, Int.mul_comm b.1.1, Int.mul_comm b.1.2, Bool.or_eq_true, decide_eq_true_eq, decide_eq_true_eq]
   omega) l.attach
  have h2 := List.map_mergeSort (r := fun (x y : {x // x ∈ l}) => le x.1 y.1) (s := le) (f := Subtype.val) (l := l.attach) (fun _ _ _ _ => rfl)
  rw [List.attach_map_subtype_val] at h2
  rw [← h2]
  have h3 : ((l.attach.mergeSort fun x y => le x.1 y.1).map Subtype.val).Pairwise fun x y => x.1 * y.2 ≤ x.2 * y.1 := by
   rw [List.pairwise_map]
   refine h1.imp fun {a b} h => ?_
   rw [hle _ a.2 _ b.2] at h
   exact of_decide_eq_true h
  have h4 : ((l.attach.mergeSort fun x y => le x.1 y.1).map Subtype.val).Perm s := by
   rw [h2]
   exact (List.mergeSort_perm _ _).trans hp.symm
  refine List.Perm.eq_of_pairwise (fun a b ha hb e1 e2 => ?_) h3 ((ahi ho).imp fun h => Int.le_of_lt h) h4
  exact alE (hs a (h4.mem_iff.1 ha)) (hs b hb) (by rw [Int.mul_comm b.1, Int.mul_comm b.2] at e2; omega)
 refine key _ fun x hx y hy => ?_
 rw [lt y x hy hx, Int.mul_comm y.1, Int.mul_comm y.2]
 by_cases c : x.2 * y.1 < x.1 * y.2
 ·rw [decide_eq_true c, decide_eq_false (by omega)]; rfl
 ·rw [decide_eq_false c, decide_eq_true (by omega)]; rfl
theorem ait : ∀ {l : List (Int × Int)} {i : Nat} {x y : Int × Int}, abv l = true → l[i]? = some x → l[i + 1]? = some y → y.1 * x.2 - y.2 * x.1 = 1
 | [], _, _, _, _, h, _ => by simp at h
 | [_], 0, _, _, _, _, h => by simp at h
 | a :: b :: l, 0, x, y, hn, h1, h2 => by
   simp at h1 h2
   subst h1
   subst h2
   unfold abv at hn
   rw [Bool.and_eq_true] at hn
   exact of_decide_eq_true hn.1
 | a :: l, i + 1, x, y, hn, h1, h2 => by
   unfold abv at hn
   rw [Bool.and_eq_true] at hn
   exact ait (l := l) (i := i) hn.2 (by simpa using h1) (by simpa using h2)
theorem akS (k : Nat) (hk : 1000001000 < k) (n : Int) :
 (∃ z, (∀ r0 r1, dV (α := α) k n r0 r1 = r0 z) ∧ ∀ r0 r1, dY (α := α) k n r0 r1 = r0 z) ∨
 (∃ s, s.length ≤ 902 ∧ (∀ e ∈ s, isG e = true) ∧ abv s = true ∧ (∀ r0 r1, dV (α := α) k n r0 r1 = r1 s 0) ∧ ∀ r0 r1, dY (α := α) k n r0 r1 = r1 s 0) := by
 by_cases h1 : 1 ≤ n
 ·by_cases h2 : n ≤ 16
  ·have hc : aiv n = true := by
    have := alx
    rw [List.all_eq_true] at this
    refine this n ?_
    simp only [List.mem_cons, List.not_mem_nil, or_false]
    omega
   unfold aiv at hc
   split at hc
   ·cases hc
   ·rename_i l hl
    simp only [Bool.and_eq_true, decide_eq_true_eq, List.all_eq_true] at hc
    obtain ⟨⟨⟨⟨c1, c2⟩, c3⟩, c4⟩, c5⟩ := hc
    have hp := List.isPerm_iff.1 c1
    obtain ⟨i', e1⟩ := aij (α := α) 100 k n 1 (0, 1) (1, n) [] l hl (by simp) (by simp) (by omega)
    obtain ⟨q', e2⟩ := ajY (α := α) n.toNat k n 1 [] (by omega) (by omega) h2 (by simp; omega) (by omega)
    refine .inr ⟨[(0, 1), (1, n)] ++ l, by simp; omega, c2, c4, fun r0 r1 => ?_, fun r0 r1 => ?_⟩
    ·unfold dV Hq zk NJ
     rw [jJ h1, cond_true, jJ h2]
     exact e1 _ _ _
    ·unfold dY IJ DX XK
     rw [jJ h1, cond_true, jJ h2]
     simp only [Bool.not_true, cond_false, e2]
     exact atH k hp c2 c3 (by rw [← hp.length_eq]; simp; omega) _
  ·refine .inl ⟨2, fun r0 r1 => ?_, fun r0 r1 => ?_⟩
   ·unfold dV Hq zk NJ
    rw [jJ h1, cond_true, aas (by omega)]
    rfl
   ·unfold dY IJ DX XK
    rw [jJ h1, cond_true, aas (by omega)]
    rfl
 ·refine .inl ⟨2, fun r0 r1 => ?_, fun r0 r1 => ?_⟩
  ·unfold dV Hq zk NJ
   rw [aas (by omega)]
   rfl
  ·unfold dY IJ DX XK
   rw [aas (by omega)]
   rfl
theorem ag1 (k : Nat) (hk : 1000000100 < k) (a b : Int) : ∃ x y z, (∀ r : Int → Int → Int → Option α, bJ k a b r = r x y z) ∧ ∀ r : Int → Int → Int → Option α, bW k a b r = r x y z := by
 simp only [bJ, Jv, bW, KW, Pv, Rw, pJ, yw, Ew, IW]
 cases hc : crd a && crd b with
 | false => exact ⟨0, 0, 1, fun r => rfl, fun r => rfl⟩
 | true =>
   rw [Bool.and_eq_true] at hc
   have h1 := PY hc.1
   have h2 := PY hc.2
   simp only [Bool.not_true, cond_false, aav k a b _ (show -1000000000 ≤ a by omega) (show a ≤ 1000000000 by omega) (show -1000000000 ≤ b by omega) (show b ≤ 1000000000 by omega) (show 1000000000 < k by omega), acm k a b _ (show -1000000000 ≤ a by omega) (show a ≤ 1000000000 by omega) (show -1000000000 ≤ b by omega) (show b ≤ 1000000000 by omega) (show 1000000000 < k by omega)]
   have m1 : mid a := ⟨by omega, by omega⟩
   have m2 : mid b := ⟨by omega, by omega⟩
   by_cases hg : gcdI a b = 1
   ·refine ⟨(IV (a, b)).1, (IV (a, b)).2, 0, fun r => ?_, fun r => ?_⟩
    ·rw [decide_eq_true hg, Bool.not_true, cond_false, SX k m1 m2]
    ·rw [decide_eq_true hg, Bool.not_true, cond_false, OZ k m1 m2]
   ·exact ⟨0, 0, 5, fun r => by rw [decide_eq_false hg]; rfl, fun r => by rw [decide_eq_false hg]; rfl⟩
theorem abz {β : Type} [DecidableEq β] (x : β) : decide (x = x) = true := decide_eq_true rfl
theorem t20 (k : Nat) (a b c d e f g h i j l m : Int) (r : Bool → Option α) : xk k a a b b c c d d e f e f g h g h i j i j l m l m r = r true := by
 simp only [xk, xZ, decide_true, cond_true, Bool.and_self]
theorem t18 {l : List Int} (hl : oW l) (k : Nat) (hk : 1000001000 < k) (text : ByteArray) (z c d : Int) (h : z = 0 → RY c d = (text, 0)) (r : Bool → Option α) : wz k text z l c d r = r true := by
 obtain ⟨x, y, e1⟩ := ahO (α := α) hl k (by omega)
 obtain ⟨p1, p2, p3, e2, e3⟩ := ag1 (α := α) k (by omega) x y
 obtain ⟨u1, u2, u3, u4, u5, u6, e4⟩ := ajL (α := α) hl k (by omega)
 have e5 := fun r => (adb (α := α) k (by omega) u1 u2 u3 u4 u5 u6 r).1
 have e6 := fun r => (adb (α := α) k (by omega) u1 u2 u3 u4 u5 u6 r).2
 obtain ⟨v1, v2, v3, v4, e7, e8⟩ := aoH (α := α) hl k (by omega)
 have s1 := fun (r : Int → Int → Int → Option α) => (Qz k (by omega) v1 v2 v3 v4 (n := 1) (.inl rfl) r).1
 have s2 := fun (r : Int → Int → Int → Option α) => (Qz k (by omega) v1 v2 v3 v4 (n := 1) (.inl rfl) r).2
 have s3 := fun (r : Int → Int → Int → Option α) => (Qz k (by omega) v1 v2 v3 v4 (n := -1) (.inr rfl) r).1
 have s4 := fun (r : Int → Int → Int → Option α) => (Qz k (by omega) v1 v2 v3 v4 (n := -1) (.inr rfl) r).2
 have q1 : ∀ r : Int → Int → Int → Option α, az k v1 v2 v3 v4 r = r (tZ (v1, v2) (v3, v4) 1).1 (tZ (v1, v2) (v3, v4) 1).2.1 (tZ (v1, v2) (v3, v4) 1).2.2 := fun r => by unfold az CZ; exact s2 _
 have q2 : ∀ r : Int → Int → Int → Option α, bQ k v1 v2 v3 v4 r = r (tZ (v1, v2) (v3, v4) 1).1 (tZ (v1, v2) (v3, v4) 1).2.1 (tZ (v1, v2) (v3, v4) 1).2.2 := fun r => by unfold bQ KY; exact s1 _
 have q3 : ∀ r : Int → Int → Int → Option α, aJ k v1 v2 v3 v4 r = r (tZ (v1, v2) (v3, v4) (-1)).1 (tZ (v1, v2) (v3, v4) (-1)).2.1 (tZ (v1, v2) (v3, v4) (-1)).2.2 := fun r => by unfold aJ tX; exact s4 _
 have q4 : ∀ r : Int → Int → Int → Option α, aZ k v1 v2 v3 v4 r = r (tZ (v1, v2) (v3, v4) (-1)).1 (tZ (v1, v2) (v3, v4) (-1)).2.1 (tZ (v1, v2) (v3, v4) (-1)).2.2 := fun r => by unfold aZ Aj; exact s3 _
 unfold wz xx
 by_cases hz : z = 0
 ·have hp := h hz
  rw [decide_eq_true hz, cond_true, (acn k (by omega) c d _).2, hp]
  simp only [decide_true, Bool.not_true, cond_false]
  rw [e1, e3, e2, e4, e6, e5, e7, q1, q2, e8, q3, q4]
  exact t20 k ..
 ·rw [decide_eq_false hz, cond_false, e1, e3, e2, e4, e6, e5, e7, q1, q2, e8, q3, q4]
  exact t20 k ..
theorem anf {s : List (Int × Int)} (hs : ∀ e ∈ s, isG e = true) (hn : abv s = true) (hl : s.length ≤ 1000) : ∀ (m k i : Nat) (code : List Int), s.length ≤ i + m → m + 10 < k → 1 ≤ i →
 ∃ i', ∀ (b0 : Int → List Int → List (Int × Int) → Option α) r0, aj k (i : Int) code s b0 r0 = b0 i' code s
 | _, 0, _, _, _, hk, _ => by omega
 | 0, k + 1, i, code, hm, hk, hi => ⟨i, fun b0 r0 => by
   rw [aj, vk, zX (by omega), cond_false]⟩
 | m + 1, k + 1, i, code, hm, hk, hi => by
   by_cases hc : i < s.length
   ·obtain ⟨x, hx⟩ : ∃ x, s[i - 1]? = some x := ⟨s[i - 1], List.getElem?_eq_getElem (by omega)⟩
    obtain ⟨y, hy⟩ : ∃ y, s[i]? = some y := ⟨s[i], List.getElem?_eq_getElem hc⟩
    have hxG := aao.1 (hs x (List.mem_of_getElem? hx))
    have hyG := aao.1 (hs y (List.mem_of_getElem? hy))
    have hd := ait (i := i - 1) hn hx (by rw [show i - 1 + 1 = i by omega]; exact hy)
    have w1 : w64 ((i : Int) - 1) = ((i - 1 : Nat) : Int) := by rw [eQ (by omega) (by omega)]; omega
    have w2 : w64 ((i : Int) + 1) = ((i + 1 : Nat) : Int) := by rw [eQ (by omega) (by omega)]; omega
    obtain ⟨i', ih⟩ := anf hs hn hl m k (i + 1) code (by omega) (by omega) (by omega)
    refine ⟨i', fun b0 r0 => ?_⟩
    have cx1 : crd x.1 = true := GK.2 (by omega)
    have cx2 : crd x.2 = true := GK.2 (by omega)
    have cy1 : crd y.1 = true := GK.2 (by omega)
    have cy2 : crd y.2 = true := GK.2 (by omega)
    rw [aj, vk, nz (by omega), cond_true, jJ (by omega), Bool.and_true, cond_true, Int.toNat_natCast, hy, Option.bind_some, w1, jJ (by omega), nz (by omega), Bool.and_true, cond_true, Int.toNat_natCast, hx, Option.bind_some, cZ, Oq, aiR k (by omega)]
    simp only [cx1, cx2, cy1, cy2, Bool.and_self, Bool.not_true, cond_false]
    rw [(afg k cy1 cy2 cx1 cx2 _).2]
    have e : dtFa (y.1, y.2) (x.1, x.2) = 1 := hd
    rw [e]
    simp only [decide_true, Bool.not_true, cond_false]
    rw [w2, ih]
   ·exact ⟨i, fun b0 r0 => by rw [aj, vk, zX (by omega), cond_false]⟩
theorem t16 {l : List Int} (hl : oW l) (k : Nat) (hk : 1000003000 < k) {s : List (Int × Int)} (hs : ∀ e ∈ s, isG e = true) (hn : abv s = true) (hlen : s.length ≤ 1000) (r : Bool → Option α) : xJ k l s r = r true := by
 obtain ⟨i', e0⟩ := anf (α := α) hs hn hlen s.length k 1 l (by omega) (by omega) (by omega)
 obtain ⟨t, e1⟩ := aib (α := α) hl k (by omega)
 unfold xJ xw
 have h1 : ((1 : Nat) : Int) = 1 := rfl
 rw [h1] at e0
 rw [e0]
 simp only
 rw [e1]
 rcases alM (α := α) k (by omega) t with ⟨m, rfl, hm⟩ | ⟨h2, h3⟩
 ·have hb := ahF (α := α) k (by omega) m hm
  rw [(hb _).2, (hb _).1]
  simp only [decide_true, Bool.and_self, Bool.not_true, cond_false]
  exact t18 hl k (by omega) _ _ _ _ (fun hz => amb hm hz) r
 ·rw [h3, h2]
  simp only [decide_true, Bool.and_self, Bool.not_true, cond_false]
  exact t18 hl k (by omega) _ _ _ _ (fun hz => absurd hz (by decide)) r
theorem t14 {l : List Int} (hl : oW l) (k : Nat) (hk : 1000003000 < k) {s : List (Int × Int)} (hs : ∀ e ∈ s, isG e = true) (hn : abv s = true) (hlen : s.length ≤ 1000) (z : Int) (r : Bool → Option α) : xQ k z z l s s r = r true := by
 have hbig := nZ
 unfold xQ xy
 rw [abz, Bool.not_true, cond_false, aek k s _ (by omega) (by omega), Bool.not_true, cond_false]
 exact t16 hl k hk hs hn hlen r
theorem t12 {l : List Int} (hl : oW l) (k : Nat) (hk : 1000003000 < k) (r : Bool → Option α) : qY k l r = r true := by
 obtain ⟨n, e0⟩ := amx (α := α) hl k (by omega)
 unfold qY xY
 rw [e0]
 rcases akS (α := α) k (by omega) n with ⟨z, h1, h2⟩ | ⟨s, h3, h4, h5, h1, h2⟩
 ·rw [h2]
  show qK k n z l [] r = r true
  unfold qK tV
  rw [h1]
  exact t14 hl k hk (fun e he => by simp at he) rfl (by simp) z r
 ·rw [h2]
  show qK k n 0 l s r = r true
  unfold qK tV
  rw [h1]
  exact t14 hl k hk h4 h5 (by omega) 0 r
theorem ane : ∀ (n : Nat) (p q : Int), 0 ≤ p → 0 ≤ q → ∀ a ∈ cfE n p q, 0 ≤ a
 | 0, _, _, _, _, a, h => by simp [cfE] at h
 | n + 1, p, q, hp, hq, a, h => by
   unfold cfE at h
   split at h
   ·simp at h
   ·rename_i h0
    rcases List.mem_cons.1 h with h1 | h1
    ·rw [h1]
     exact Int.ediv_nonneg hp hq
    ·exact ane n q (p % q) hq (Int.emod_nonneg _ h0) a h1
theorem akf : ∀ {l : List Int}, (∀ x ∈ l, 0 ≤ x) → 0 ≤ l.sum
 | [], _ => by simp
 | x :: l, h => by
   rw [List.sum_cons]
   have h0 := h x (by simp)
   have := akf (l := l) fun y hy => h y (by simp [hy])
   omega
theorem apm {l : List Int} (hl : l.length ≤ 2000000) : ∀ (rest : List Int) (k i : Nat) (n : Int) b (r : Int → Option α), l.drop i = rest → i ≤ l.length → (∀ x ∈ rest, 0 ≤ x) → 0 ≤ n → n + rest.sum ≤ 1000 → rest.length < k →
 GV k n i l b r = b (n + rest.sum) l.length l
 | [], k + 1, i, n, b, r, hd, hi, _, _, _, _ => by
   have := Sv hd
   have : i = l.length := by omega
   subst this
   rw [GV, Xx, zX (by omega)]
   simp
 | e :: rest, k + 1, i, n, b, r, hd, hi, hx, h0, hn, hk => by
   obtain ⟨h1, h2, h3⟩ := Jj hd
   have he := hx e (by simp)
   have hr : 0 ≤ rest.sum := akf fun x h => hx x (by simp [h])
   rw [List.sum_cons] at hn
   have en : w64 ((i : Int) + 1) = ((i + 1 : Nat) : Int) := by rw [eQ (by omega) (by omega)]; omega
   rw [GV, Xx, nz (by omega), jJ (by omega), cond_true, Bool.and_true, cond_true, Int.toNat_natCast, h1, Option.bind_some, en, eQ (n := n + e) (by omega) (by omega), apm hl rest k (i + 1) (n + e) b r h2 (by omega) (fun x h => hx x (by simp [h])) (by omega) (by omega) (by simp at hk; omega)]
   simp only [List.sum_cons]
   rw [Int.add_assoc]
 | _, 0, _, _, _, _, _, _, _, _, _, hk => by omega
theorem t9 {l : List Int} (hl : oW l) (k : Nat) (hk : 1000003000 < k) (x y : Int) (r : Bool → Option α) : zW k (RY x y).1 (RY x y).2 l x y r = r true := by
 unfold zW AQ
 by_cases hz : (RY x y).2 = 0
 ·obtain ⟨m, e1, e2, e3, e4, x1, x2, y1, y2⟩ := alk hz
  have hlen := ak7 x y
  have hsum : (cfX x y).sum = ((m.length : Nat) : Int) + 1 := by
   rw [← e4]
   exact amy (by omega) (by omega)
  have hnn : ∀ a ∈ cfX x y, 0 ≤ a := ane _ _ _ (by omega) (by omega)
  have e5 : ∀ r0 r1, bV (α := α) k x y r0 r1 = r1 (cfX x y) 0 := fun r0 r1 => by
   unfold bV LZ
   rw [afC, GK.2 (by omega), apZ.2 (by omega)]
   simp only [Bool.and_self, Bool.not_true, cond_false]
   rw [agS k (by omega) x y _ (by omega) (by omega) (by omega) (by omega)]
  have e6 : iY (α := α) k (cfX x y) = fun r => r (((m.length : Nat) : Int) + 1) := by
   funext r
   unfold iY acZ
   have := apm (α := α) (l := cfX x y) (by omega) (cfX x y) k 0 0 (fun n_1 _ _ => r n_1) r rfl (by omega) hnn (by omega) (by omega) (by omega)
   have h0 : ((0 : Nat) : Int) = 0 := rfl
   rw [h0] at this
   rw [this, Int.zero_add, hsum]
  rw [decide_eq_true hz, cond_true, e1, (ahF k (by omega) m e2 _).2, e3]
  simp only
  rw [e5]
  unfold Dq yQ
  have w : w64 ((((tx m).size : Nat) : Int) + 1) = ((m.length : Nat) : Int) + 1 := by rw [Gj]; exact eQ (by omega) (by omega)
  simp only [decide_true, Bool.and_self, Bool.not_true, cond_false, e6, w]
  exact t12 hl k hk r
 ·rw [decide_eq_false hz, cond_false]
  exact t12 hl k hk r
theorem t7 {l : List Int} (hl : oW l) (k : Nat) (hk : 1000003000 < k) (r : Bool → Option α) : rY k l r = r true := by
 obtain ⟨x, y, e0⟩ := an9 (α := α) hl k (by omega)
 unfold rY yx
 rw [e0, (acn k (by omega) x y _).2, (acn k (by omega) x y _).1, abz, Bool.not_true, cond_false, abz, Bool.not_true, cond_false]
 exact t9 hl k hk x y r
theorem t4 {l : List Int} (hl : oW l) (k : Nat) (hk : 1000003000 < k) {x n y p : Int} (hF : isF (x, n) = true) (hn : 2 ≤ n) (h : ahV x n y p) (r : Bool → Option α) : rV k 0 l x n [(x - y, n - p), (y, p)] r = r true := by
 obtain ⟨f0, f1, f2, f3, f4⟩ := anF hF hn h
 have c2 : vV [(x - y, n - p), (y, p)] = 0 := acd fun e he => by
  simp only [List.mem_cons, List.not_mem_nil, or_false] at he
  rcases he with rfl | rfl
  ·exact f0
  ·exact f1
 have g0 := abA f0
 have g1 := abA f1
 have hbig := nZ
 have e1 : ∀ r : Bool → Int → Option α, bz k (x - y) (n - p) y p r = r true 0 := fun r => by
  unfold bz PZ
  rw [abC k (by omega) _ (by rw [nZ]; simp) (by simp; omega), c2, abz, Bool.not_true, cond_false, (aaN k g0.1 g0.2 g1.1 g1.2 _).2, f2]
 have e2 : ∀ r : Int → Int → Int → Option α, az k (x - y) (n - p) y p r = r x n 0 := fun r => by
  unfold az CZ
  rw [(Qz k (by omega) (x - y) (n - p) y p (n := 1) (.inl rfl) _).2, f3]
 have e3 : ∀ r : Int → Int → Int → Option α, aJ k (x - y) (n - p) y p r = r (tZ (x - y, n - p) (y, p) (-1)).1 (tZ (x - y, n - p) (y, p) (-1)).2.1 (tZ (x - y, n - p) (y, p) (-1)).2.2 := fun r => by
  unfold aJ tX
  exact (Qz k (by omega) (x - y) (n - p) y p (n := -1) (.inr rfl) _).2
 have e4 : ∀ r : Int → Int → Int → Option α, ay k (x - y) (n - p) y p x n r = r (tZ (x - y, n - p) (y, p) (-1)).1 (tZ (x - y, n - p) (y, p) (-1)).2.1 (tZ (x - y, n - p) (y, p) (-1)).2.2 := fun r => by
  rw [(adb k (by omega) (x - y) (n - p) y p x n _).2, f4]
 have hlen : ([(x - y, n - p), (y, p)] : List (Int × Int)).length = 2 := rfl
 have d0 : (true && decide ((0 : Int) < ((([(x - y, n - p), (y, p)] : List (Int × Int)).length : Nat) : Int))) = true := rfl
 have d1 : (true && decide ((1 : Int) < ((([(x - y, n - p), (y, p)] : List (Int × Int)).length : Nat) : Int))) = true := rfl
 have b0 : ([(x - y, n - p), (y, p)] : List (Int × Int))[0]? = some (x - y, n - p) := rfl
 have b1 : ([(x - y, n - p), (y, p)] : List (Int × Int))[1]? = some (y, p) := rfl
 unfold rV uj
 rw [abz, cond_true, d0, cond_true, b0, Option.bind_some, d1, cond_true, b1, Option.bind_some, e1]
 unfold Fj zx
 simp only [d0, d1, b0, b1, cond_true, Option.bind_some, e2, e3, e4, decide_true, Bool.and_self, Bool.not_true, cond_false]
 exact t7 hl k hk r
theorem t2 {l : List Int} (k : Nat) (hk : 1000003000 < k) (z x n : Int) {s : List (Int × Int)} (hs : s.length ≤ 1000) (r : Bool → Option α) : rW k z z l x n s s r = rV k z l x n s r := by
 have hbig := nZ
 unfold rW zQ
 rw [abz, Bool.not_true, cond_false, aek k s _ (by omega) (by omega), Bool.not_true, cond_false, aaO k (by omega), dK, VV, Ij k (by omega), beq_self_eq_true, Bool.not_true, cond_false]
theorem apM (k : Nat) (l : List Int) (r : Bool → Option α) : iK k l r = r (decide (4096 < (l.length : Int))) := rfl
theorem aff (k : Nat) (hk : 1000003000 < k) (l : List Int) (r : Bool → Option α) (hb : ∀ x ∈ l, 0 ≤ x ∧ x ≤ 255) : Ej k l r = r true := by
 unfold Ej Nz AY
 rw [apM]
 cases hbig : decide (4096 < (l.length : Int)) with
 | true => rfl
 | false =>
   have hl : oW l := ⟨by have := of_decide_eq_false hbig; omega, hb⟩
   obtain ⟨x, n, e0⟩ := ajv (α := α) hl k (by omega)
   rw [cond_false, e0]
   rcases agI (α := α) k (by omega) x n with ⟨z, hz, h1, h2⟩ | ⟨hF, hn, y, p, hp, h1, h2⟩
   ·rw [h2]
    show rQ k z l x n [] r = r true
    unfold rQ uK
    rw [h1]
    show rW k z z l x n [] [] r = r true
    rw [t2 k hk z x n (by simp) r]
    unfold rV uj
    rw [decide_eq_false hz, cond_false]
    exact t7 hl k hk r
   ·rw [h2]
    show rQ k 0 l x n [(x - y, n - p), (y, p)] r = r true
    unfold rQ uK
    rw [h1]
    show rW k 0 0 l x n [(x - y, n - p), (y, p)] [(x - y, n - p), (y, p)] r = r true
    rw [t2 k hk 0 x n (by simp) r]
    exact t4 hl k hk hF hn hp r
end Go.Sh
