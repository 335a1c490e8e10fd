/- Plain laws: what the readings without memory answer. -/
import Derived.Test.YthjehhoafmnmkaaShXGapsOf
import Derived.Test.YthjehhoafmnmkaaSe1XGapsOf
namespace Go.Sh
open Go Go.Ev
variable {α : Type}
theorem Gq (k : Nat) (n x : Int) (r : Int → Option α) (hn : 0 < n) (hn2 : n ≤ 1000000000000000000) : pV k n x r = r (x % n) := by
 have h1 : -n < Int.tmod x n := Int.lt_tmod_of_pos x hn
 have h2 : Int.tmod x n < n := Int.tmod_lt_of_pos x hn
 simp only [pV, adm (show n ≠ 0 by omega), cond_false]
 rw [lJ (by omega) (by omega), rest_eq hn]
theorem ack (k : Nat) (a b : Int) (r : Int → Option α) (hb : 0 < b) (ha : -1000000000000000000 ≤ a) (ha2 : a ≤ 1000000000000000000) : Aw k a b r = r (a / b) := by
 have hq := tdiv_abs a b
 simp only [Aw, adm (show b ≠ 0 by omega), cond_false, lJ (n := Int.tdiv a b) (by omega) (by omega), lJ (n := Int.tdiv a b - 1) (by omega) (by omega)]
 rw [← tdiv_floor a b hb]
 cases (!decide (Int.tmod a b = 0)) <;> cases (!(decide (a < 0) == decide (b < 0))) <;> rfl
theorem YK (k : Nat) (a b : Int) (r : Int → Option α) (hb : 0 < b) (hb2 : b ≤ 1000000000000000000) (ha : -1000000000000000000 ≤ a) (ha2 : a ≤ 1000000000000000000) : EQ k a b r = r (a % b) := by
 simp only [EQ, ack k a b _ hb ha ha2]
 have h1 := Int.emod_add_mul_ediv a b
 have h2 := Int.emod_nonneg a (b := b) (by omega)
 have h3 := Int.emod_lt_of_pos a hb
 rw [lJ (n := b * (a / b)) (by omega) (by omega), lJ (by omega) (by omega)]
 congr 1
 omega
def cmpI (x y : Int) : Int := if x < y then -1 else if y < x then 1 else 0
theorem abx (k : Nat) (x y : Int) (r : Int → Option α) : gq k x y r = r (cmpI x y) := by
 simp only [gq, oz, decide_true, Bool.not_true, cond_false]
 unfold cmpI
 by_cases h : x < y
 ·simp [h]
 ·by_cases h2 : y < x <;> simp [h, h2]
def sumI (f : Nat → Int) : Nat → Int
 | 0 => 0
 | n + 1 => sumI f n + f n
theorem aaL {f g : Nat → Int} : ∀ (n : Nat), (∀ i, i < n → f i = g i) → sumI f n = sumI g n
 | 0, _ => rfl
 | n + 1, h => by rw [sumI, sumI, aaL n fun i hi => h i (by omega), h n (by omega)]
theorem aaC (c : Int) : ∀ n, sumI (fun _ => c) n = n * c
 | 0 => by simp [sumI]
 | n + 1 => by rw [sumI, aaC c n]; grind
theorem agf {f : Nat → Int} (n : Nat) (h : ∀ i, i < n → f i = 0) : sumI f n = 0 := by
 rw [aaL (g := fun _ => 0) n h, aaC]; omega
theorem aav (f : Nat → Int) (m : Nat) : ∀ n, sumI f (m + n) = sumI f m + sumI (fun i => f (m + i)) n
 | 0 => by simp [sumI]
 | n + 1 => by rw [← Nat.add_assoc, sumI, sumI, aav f m n]; omega
theorem agS {v : Nat} (hv : 0 < v) (g : Nat) : sumI (fun i => if v ∣ g * v + i + 1 then 1 else 0) v = 1 := by
 obtain ⟨u, rfl⟩ : ∃ u, v = u + 1 := ⟨v - 1, by omega⟩
 rw [sumI, agf u fun i hi => ?_]
 ·rw [if_pos ⟨g + 1, by rw [Nat.mul_comm (u + 1), Nat.succ_mul]; omega⟩]; rfl
 ·rw [if_neg]
  intro h
  have h2 := (Nat.dvd_add_right (Nat.dvd_mul_left (u + 1) g)).1 (show u + 1 ∣ g * (u + 1) + (i + 1) by rw [← Nat.add_assoc]; exact h)
  have := Nat.le_of_dvd (by omega) h2
  omega
theorem ag9 {v : Nat} (hv : 0 < v) : ∀ g : Nat, sumI (fun i => if v ∣ i + 1 then 1 else 0) (g * v) = g
 | 0 => by simp [sumI]
 | g + 1 => by
   rw [Nat.succ_mul, aav, ag9 hv g, agS hv g]
   omega
def kyM (p q x : Int) : Int := (x * p) % q
def ltM (p q x y : Int) : Prop := kyM p q x < kyM p q y ∨ (kyM p q x = kyM p q y ∧ x < y)
theorem OY {p q x y z : Int} (h : ltM p q x y) (k : ltM p q y z) : ltM p q x z := by unfold ltM at *; omega
theorem LV {p q x : Int} (h : ltM p q x x) : False := by unfold ltM at h; omega
theorem aht {p q x y : Int} (h : ltM p q x y) (k : ltM p q y x) : False := LV (OY h k)
theorem Hq {p q : Int} : ∀ {A B : List Int}, A.Pairwise (ltM p q) → B.Pairwise (ltM p q) → (∀ x, x ∈ A ↔ x ∈ B) → A = B
 | [], [], _, _, _ => rfl
 | [], b :: B, _, _, h => by have := (h b).2 (by simp); simp at this
 | a :: A, [], _, _, h => by have := (h a).1 (by simp); simp at this
 | a :: A, b :: B, hA, hB, h => by
   obtain ⟨a1, a2⟩ := List.pairwise_cons.1 hA
   obtain ⟨b1, b2⟩ := List.pairwise_cons.1 hB
   have e : a = b := by
    rcases List.mem_cons.1 ((h a).1 (by simp)) with e | e
    ·exact e
    ·rcases List.mem_cons.1 ((h b).2 (by simp)) with e2 | e2
     ·exact e2.symm
     ·exact absurd (a1 b e2) fun k => aht k (b1 a e)
   subst e
   rw [Hq a2 b2 fun x => ?_]
   constructor
   ·intro hx
    rcases List.mem_cons.1 ((h x).1 (List.mem_cons_of_mem _ hx)) with e | e
    ·subst e; exact absurd (a1 x hx) LV
    ·exact e
   ·intro hx
    rcases List.mem_cons.1 ((h x).2 (List.mem_cons_of_mem _ hx)) with e | e
    ·subst e; exact absurd (b1 x hx) LV
    ·exact e
structure RatM (p q : Int) : Prop where
 p1 : -1000000 ≤ p
 p2 : p ≤ 1000000
 q1 : 1 ≤ q
 q2 : q ≤ 1000000
theorem RatM.mul {p q x : Int} (h : RatM p q) (h0 : 0 ≤ x) (h1 : x ≤ 1000) : w64 (x * p) = x * p ∧ -1000000000 ≤ x * p ∧ x * p ≤ 1000000000 := by
 have := Oj (a := x) (A := 1000) (b := p) (B := 1000000) (by omega) h1 h.p1 h.p2
 exact ⟨lJ (by omega) (by omega), by omega, by omega⟩
theorem QW (a b : Int) : decide (cmpI a b < 0) = decide (a < b) := by
 unfold cmpI
 by_cases h : a < b
 ·simp [h]
 ·by_cases h2 : b < a <;> simp [h, h2]
theorem xk {p q : Int} (hr : RatM p q) (k : Nat) {x y : Int} (hx : 0 ≤ x ∧ x ≤ 1000) (hy : 0 ≤ y ∧ y ≤ 1000) (r : Int → Option α) : dW k x y p q r = r (cmpI (kyM p q x) (kyM p q y)) := by
 obtain ⟨e1, e2, e3⟩ := hr.mul hx.1 hx.2
 obtain ⟨f1, f2, f3⟩ := hr.mul hy.1 hy.2
 have := hr.q1
 have := hr.q2
 unfold dW
 rw [e1, f1, YK k _ _ _ (by omega) (by omega) (by omega) (by omega), YK k _ _ _ (by omega) (by omega) (by omega) (by omega), abx]
 rfl
theorem JW {a b : Nat} (h : a + b ≤ 1000000000) : w64 ((a : Int) + (b : Int)) = ((a + b : Nat) : Int) := by rw [lJ (by omega) (by omega)]; omega
theorem BQ {a : Nat} (h : a ≤ 1000000000) : w64 ((a : Int) + 1) = ((a + 1 : Nat) : Int) := by rw [lJ (by omega) (by omega)]; omega
theorem sW {a b : Nat} (h : b ≤ a) (h2 : a ≤ 1000000000) : w64 ((a : Int) - (b : Int)) = ((a - b : Nat) : Int) := by rw [lJ (by omega) (by omega)]; omega
theorem Ej {a : Nat} (h : 1 ≤ a) (h2 : a ≤ 1000000000) : w64 ((a : Int) - 1) = ((a - 1 : Nat) : Int) := by rw [lJ (by omega) (by omega)]; omega
theorem XK {a b : Nat} (h : a + b ≤ 1000000) : w64 (Int.fdiv (IntKind.wrap .u64 (w64 ((a : Int) + (b : Int)))) (2 ^ 1)) = (((a + b) / 2 : Nat) : Int) := by
 have e0 : ((2 : Int) ^ 1) = 2 := by decide
 rw [JW (by omega), IntWalk.u64_in _ ⟨by omega, by omega⟩, e0, Int.fdiv_eq_ediv_of_nonneg _ (by omega), lJ (by omega) (by omega)]
 omega
theorem qx {β : Type} {P S : List β} {x : β} {i : Nat} (h : i = P.length) : (P ++ x :: S)[i]? = some x := by
 subst h
 simp
theorem Xj {β : Type} {P S : List β} {x y : β} {i : Nat} (h : i = P.length) : (P ++ x :: S).set i y = P ++ y :: S := by
 subst h
 simp
theorem TY {β : Type} {P M S : List β} {x y : β} {i j : Nat} (hi : i = P.length) (hj : j = P.length + 1 + M.length) : ((P ++ x :: (M ++ y :: S)).set i y).set j x = P ++ y :: (M ++ x :: S) := by
 rw [Xj hi]
 have e : P ++ y :: (M ++ y :: S) = (P ++ y :: M) ++ y :: S := by simp
 rw [e, Xj (by simp; omega)]
 simp
theorem ac7 {β : Type} {P M S : List β} {x y : β} {i j : Nat} (hi : i = P.length) (hj : j = P.length + 1 + M.length) : ((P ++ x :: (M ++ y :: S)).set j x).set i y = P ++ y :: (M ++ x :: S) := by
 have e : P ++ x :: (M ++ y :: S) = (P ++ x :: M) ++ y :: S := by simp
 rw [e, Xj (by simp; omega)]
 have e : (P ++ x :: M) ++ x :: S = P ++ x :: (M ++ x :: S) := by simp
 rw [e, Xj hi]
theorem aeG (b2 : Int → Int → List Int → Option α) (r0 : List Int → Option α) (x : Int) (S : List Int) : ∀ (R P : List Int) (k i : Nat), i = P.length + 1 + R.length → (P ++ x :: (R ++ S)).length ≤ 100000 → R.length < k →
 aV k i P.length (P ++ x :: (R ++ S)) b2 r0 = b2 i ((i - 1 : Nat) : Int) (P ++ (R ++ x :: S))
 | [], P, k + 1, i, hi, hl, _ => by
   simp only [List.length_nil, Nat.add_zero] at hi
   simp only [List.length_append, List.length_cons] at hl
   rw [aV, Ej (by omega) (by omega), iZ (by omega), cond_false]
   have : P.length = i - 1 := by omega
   rw [this]
   rfl
 | y :: R, P, k + 1, i, hi, hl, hk => by
   simp only [List.length_cons] at hi hk
   simp only [List.length_append, List.length_cons] at hl
   have hlen : ((P ++ x :: (y :: R ++ S)).length : Nat) = P.length + 2 + R.length + S.length := by simp; omega
   have g1 : (P ++ x :: (y :: R ++ S))[P.length + 1]? = some y := by
    have : P ++ x :: (y :: R ++ S) = (P ++ [x]) ++ y :: (R ++ S) := by simp
    rw [this, qx (by simp)]
   have g0 : (P ++ x :: (y :: R ++ S))[P.length]? = some x := qx rfl
   have g2 : ((P ++ x :: (y :: R ++ S)).set P.length y)[P.length + 1]? = some y := by
    rw [List.getElem?_set_ne (by omega)]
    exact g1
   have hs : ((P ++ x :: (y :: R ++ S)).set P.length y).set (P.length + 1) x = P ++ y :: x :: (R ++ S) := TY (M := []) rfl rfl
   rw [aV, Ej (by omega) (by omega), cZ (by omega), cond_true, BQ (by omega), gQ (by omega), cZ (by omega), Bool.and_self, cond_true, Int.toNat_natCast, g1, Option.bind_some, gQ (by omega), cZ (by omega), Bool.and_self, cond_true, Int.toNat_natCast, g0, Option.bind_some, List.length_set, cZ (by omega), Bool.and_self, cond_true, cond_true, Option.bind_some, g2, Option.bind_some, hs]
   have ih := aeG b2 r0 x S R (P ++ [y]) k i (by simp; omega) (by simp; omega) (by omega)
   have e1 : (P ++ [y]) ++ x :: (R ++ S) = P ++ y :: x :: (R ++ S) := by simp
   have e2 : (P ++ [y]) ++ (R ++ x :: S) = P ++ (y :: R ++ x :: S) := by simp
   have e3 : (P ++ [y]).length = P.length + 1 := by simp
   rw [e1, e2, e3] at ih
   exact ih
 | _, _, 0, _, _, _, hk => by omega
theorem adv (b2 : Int → Int → List Int → Option α) (r0 : List Int → Option α) (y : Int) (P : List Int) : ∀ (n : Nat) (L S : List Int) (k i : Nat), L.length = n → i = P.length → (P ++ (L ++ y :: S)).length ≤ 100000 → L.length < k →
 aZ k i ((i + L.length : Nat) : Int) (P ++ (L ++ y :: S)) b2 r0 = b2 i i (P ++ (y :: L ++ S))
 | 0, L, S, k + 1, i, hn, hi, hl, _ => by
   have := List.eq_nil_of_length_eq_zero hn
   subst this
   rw [aZ, List.length_nil, Nat.add_zero, iZ (by omega), cond_false]
   rfl
 | n + 1, L, S, k + 1, i, hn, hi, hl, hk => by
   obtain ⟨L', z, rfl⟩ : ∃ L' z, L = L' ++ [z] := by
    refine ⟨L.dropLast, L.getLast (by intro e; rw [e] at hn; cases hn), ?_⟩
    rw [List.dropLast_concat_getLast]
   simp only [List.length_append, List.length_cons, List.length_nil] at hn hl hk
   have hlen : (P ++ (L' ++ [z] ++ y :: S)).length = P.length + L'.length + 2 + S.length := by simp; omega
   have e0 : P ++ (L' ++ [z] ++ y :: S) = (P ++ L') ++ z :: ([] ++ y :: S) := by simp
   have g1 : (P ++ (L' ++ [z] ++ y :: S))[i + L'.length]? = some z := by rw [e0, qx (by simp; omega)]
   have g2 : (P ++ (L' ++ [z] ++ y :: S))[i + (L' ++ [z]).length]? = some y := by
    have : P ++ (L' ++ [z] ++ y :: S) = (P ++ (L' ++ [z])) ++ y :: S := by simp
    rw [this, qx (by simp; omega)]
   have g3 : ((P ++ (L' ++ [z] ++ y :: S)).set (i + (L' ++ [z]).length) z)[i + L'.length]? = some z := by
    rw [List.getElem?_set_ne (by simp), g1]
   have hs : ((P ++ (L' ++ [z] ++ y :: S)).set (i + (L' ++ [z]).length) z).set (i + L'.length) y = P ++ (L' ++ y :: (z :: S)) := by
    rw [e0, ac7 (by simp; omega) (by simp; omega)]
    simp
   have hll : (L' ++ [z]).length = L'.length + 1 := by simp
   have em : i + (L'.length + 1) - 1 = i + L'.length := by omega
   rw [hll] at g2 g3 hs ⊢
   rw [aZ, cZ (by omega), cond_true, Ej (by omega) (by omega), em, gQ (by omega), cZ (by omega), Bool.and_self, cond_true, Int.toNat_natCast, g1, Option.bind_some, gQ (by omega), cZ (by omega), Bool.and_self, cond_true, Int.toNat_natCast, g2, Option.bind_some, cond_true, Option.bind_some, List.length_set, cZ (by omega), Bool.and_self, cond_true, g3, Option.bind_some, hs]
   have ih := adv b2 r0 y P n L' (z :: S) k i (by omega) hi (by simp; omega) (by omega)
   rw [ih]
   simp
 | _, _, _, 0, _, _, _, _, hk => by omega
theorem aam (Q : Nat → Bool) : ∀ (n lo : Nat), (∀ c, lo ≤ c → c + 1 < lo + n → Q (c + 1) = true → Q c = true) → ∃ s, lo ≤ s ∧ s ≤ lo + n ∧ ∀ c, lo ≤ c → c < lo + n → Q c = decide (c < s)
 | 0, lo, _ => ⟨lo, by omega, by omega, fun c _ _ => by omega⟩
 | n + 1, lo, h => by
   obtain ⟨s, h1, h2, h3⟩ := aam Q n lo fun c a b => h c a (by omega)
   by_cases hs : s = lo + n
   ·cases hq : Q (lo + n) with
    | true => exact ⟨lo + n + 1, by omega, by omega, fun c a b => by
       by_cases e : c = lo + n
       ·rw [e, hq, decide_eq_true (by omega)]
       ·rw [h3 c a (by omega), decide_eq_true (by omega), decide_eq_true (by omega)]⟩
    | false => exact ⟨lo + n, by omega, by omega, fun c a b => by
       by_cases e : c = lo + n
       ·rw [e, hq, decide_eq_false (by omega)]
       ·rw [h3 c a (by omega), hs]⟩
   ·have hq : Q (lo + n) = false := by
     cases hq : Q (lo + n) with
     | false => rfl
     | true =>
       have hn : 0 < n := by omega
       have := h (lo + n - 1) (by omega) (by omega) (by rw [show lo + n - 1 + 1 = lo + n by omega]; exact hq)
       rw [h3 (lo + n - 1) (by omega) (by omega), decide_eq_true_eq] at this
       omega
    exact ⟨s, h1, by omega, fun c a b => by
     by_cases e : c = lo + n
     ·rw [e, hq, decide_eq_false (by omega)]
     ·exact h3 c a (by omega)⟩
def SmM (l : List Int) : Prop := ∀ x ∈ l, 0 ≤ x ∧ x ≤ 1000
theorem SmM.at {l : List Int} (h : SmM l) {i : Nat} {x : Int} (hx : l[i]? = some x) : 0 ≤ x ∧ x ≤ 1000 := h x (List.mem_of_getElem? hx)
theorem aba {p q : Int} (hr : RatM p q) {d : List Int} (hd : SmM d) (hl : d.length ≤ 100000) (b : Int → Int → Int → List Int → Int → Int → Option α) (r0 : List Int → Option α) {a s : Nat} {x : Int} (ha : d[a]? = some x) (Y : Nat → Int) :
 ∀ (n k i j : Nat), j - i ≤ n → i ≤ s → s ≤ j → j ≤ d.length → (∀ h, i ≤ h → h < j → d[h]? = some (Y h) ∧ decide (kyM p q (Y h) < kyM p q x) = decide (h < s)) → n < k →
 aY k a i j d p q b r0 = b a s s d p q
 | n, k + 1, i, j, hn, h1, h2, hj, hY, hk => by
   rw [aY]
   by_cases hij : i < j
   ·have hlt : a < d.length := (List.getElem?_eq_some_iff.1 ha).1
    obtain ⟨y1, y2⟩ := hY ((i + j) / 2) (by omega) (by omega)
    rw [cZ (by omega), cond_true, XK (by omega), gQ (by omega), cZ (by omega), Bool.and_self, cond_true, Int.toNat_natCast, y1, Option.bind_some, gQ (by omega), cZ (by omega), Bool.and_self, cond_true, Int.toNat_natCast, ha, Option.bind_some, xk hr k (hd.at y1) (hd.at ha), QW, y2, BQ (by omega)]
    cases n with
    | zero => omega
    | succ n =>
      by_cases hs : (i + j) / 2 < s
      ·rw [decide_eq_true hs, cond_true]
       exact aba hr hd hl b r0 ha Y n k _ j (by omega) (by omega) h2 hj (fun h a b => hY h (by omega) b) (by omega)
      ·rw [decide_eq_false hs, cond_false]
       exact aba hr hd hl b r0 ha Y n k i _ (by omega) h1 (by omega) (by omega) (fun h a b => hY h a (by omega)) (by omega)
   ·rw [iZ (by omega), cond_false]
    have e1 : i = s := by omega
    have e2 : j = s := by omega
    rw [e1, e2]
 | _, 0, _, _, _, _, _, _, _, hk => by omega
theorem aah {p q : Int} (hr : RatM p q) {d : List Int} (hd : SmM d) (hl : d.length ≤ 100000) (b : Int → Int → Int → List Int → Int → Int → Option α) (r0 : List Int → Option α) {m s : Nat} {x : Int} (ha : d[m]? = some x) (Y : Nat → Int) :
 ∀ (n k i j : Nat), j - i ≤ n → i ≤ s → s ≤ j → j ≤ d.length → (∀ h, i ≤ h → h < j → d[h]? = some (Y h) ∧ (!decide (kyM p q x < kyM p q (Y h))) = decide (h < s)) → n < k →
 aW k m i j d p q b r0 = b m s s d p q
 | n, k + 1, i, j, hn, h1, h2, hj, hY, hk => by
   rw [aW]
   by_cases hij : i < j
   ·have hlt : m < d.length := (List.getElem?_eq_some_iff.1 ha).1
    obtain ⟨y1, y2⟩ := hY ((i + j) / 2) (by omega) (by omega)
    rw [cZ (by omega), cond_true, gQ (by omega), cZ (by omega), Bool.and_self, cond_true, Int.toNat_natCast, ha, Option.bind_some, XK (by omega), gQ (by omega), cZ (by omega), Bool.and_self, cond_true, Int.toNat_natCast, y1, Option.bind_some, xk hr k (hd.at ha) (hd.at y1), QW, y2, BQ (by omega)]
    cases n with
    | zero => omega
    | succ n =>
      by_cases hs : (i + j) / 2 < s
      ·rw [decide_eq_true hs, cond_true]
       exact aah hr hd hl b r0 ha Y n k _ j (by omega) (by omega) h2 hj (fun h a b => hY h (by omega) b) (by omega)
      ·rw [decide_eq_false hs, cond_false]
       exact aah hr hd hl b r0 ha Y n k i _ (by omega) h1 (by omega) (by omega) (fun h a b => hY h a (by omega)) (by omega)
   ·rw [iZ (by omega), cond_false]
    have e1 : i = s := by omega
    have e2 : j = s := by omega
    rw [e1, e2]
 | _, 0, _, _, _, _, _, _, _, hk => by omega
theorem aag {p q : Int} (hr : RatM p q) {d : List Int} (hd : SmM d) (hl : d.length ≤ 100000) (b8 : Int → Int → Int → Int → Int → Int → Int → Int → List Int → Int → Int → Option α) (r0 : List Int → Option α) {a3 m3 b9 mid n1 : Int} {pp s : Nat} (hp : pp ≤ 200000) (X Y : Nat → Int) :
 ∀ (n k i j : Nat), j - i ≤ n → i ≤ s → s ≤ j → j ≤ d.length → (∀ h, i ≤ h → h < j → h ≤ pp ∧ pp - h < d.length ∧ d[h]? = some (X h) ∧ d[pp - h]? = some (Y h) ∧ (!decide (kyM p q (Y h) < kyM p q (X h))) = decide (h < s)) → n < k →
 aJ k a3 m3 b9 mid n1 i j pp d p q b8 r0 = b8 a3 m3 b9 mid n1 s s pp d p q
 | n, k + 1, i, j, hn, h1, h2, hj, hY, hk => by
   rw [aJ]
   by_cases hij : i < j
   ·obtain ⟨z1, z2, y1, y2, y3⟩ := hY ((i + j) / 2) (by omega) (by omega)
    rw [cZ (by omega), cond_true, XK (by omega), sW z1 (by omega), gQ (by omega), cZ (by omega), Bool.and_self, cond_true, Int.toNat_natCast, y2, Option.bind_some, gQ (by omega), cZ (by omega), Bool.and_self, cond_true, Int.toNat_natCast, y1, Option.bind_some, xk hr k (hd.at y2) (hd.at y1), QW, y3, BQ (by omega)]
    cases n with
    | zero => omega
    | succ n =>
      by_cases hs : (i + j) / 2 < s
      ·rw [decide_eq_true hs, cond_true]
       exact aag hr hd hl b8 r0 hp X Y n k _ j (by omega) (by omega) h2 hj (fun h a b => hY h (by omega) b) (by omega)
      ·rw [decide_eq_false hs, cond_false]
       exact aag hr hd hl b8 r0 hp X Y n k i _ (by omega) h1 (by omega) (by omega) (fun h a b => hY h a (by omega)) (by omega)
   ·rw [iZ (by omega), cond_false]
    have e1 : i = s := by omega
    have e2 : j = s := by omega
    rw [e1, e2]
 | _, 0, _, _, _, _, _, _, _, hk => by omega
theorem aem (b : Int → Int → Int → Int → List Int → Option α) (r0 : List Int → Option α) (P Q R : List Int) (n : Nat) {A B : Nat} (hA : A = P.length) (hB : B = P.length + n + Q.length) :
 ∀ (m : Nat) (X1 X2 Y1 Y2 : List Int) (k : Nat), X2.length = m → X1.length + m = n → Y1.length = X1.length → Y2.length = m → (P ++ Y1 ++ X2 ++ Q ++ X1 ++ Y2 ++ R).length ≤ 100000 → m < k →
 bK k A B n X1.length (P ++ Y1 ++ X2 ++ Q ++ X1 ++ Y2 ++ R) b r0 = b A B n n (P ++ (Y1 ++ Y2) ++ Q ++ (X1 ++ X2) ++ R)
 | 0, X1, X2, Y1, Y2, k + 1, h1, h2, h3, h4, hl, hk => by
   have e1 := List.eq_nil_of_length_eq_zero h1
   have e2 := List.eq_nil_of_length_eq_zero h4
   subst e1 e2
   have : X1.length = n := by omega
   rw [bK, this, iZ (by omega), cond_false]
   simp
 | m + 1, X1, x :: X2, Y1, y :: Y2, k + 1, h1, h2, h3, h4, hl, hk => by
   simp only [List.length_cons, List.length_append] at h1 h2 h4 hl
   have hlen : (P ++ Y1 ++ x :: X2 ++ Q ++ X1 ++ y :: Y2 ++ R).length = P.length + Y1.length + (X2.length + 1) + Q.length + X1.length + (Y2.length + 1) + R.length := by simp; omega
   have e0 : P ++ Y1 ++ x :: X2 ++ Q ++ X1 ++ y :: Y2 ++ R = (P ++ Y1) ++ x :: ((X2 ++ Q ++ X1) ++ y :: (Y2 ++ R)) := by simp
   have g1 : (P ++ Y1 ++ x :: X2 ++ Q ++ X1 ++ y :: Y2 ++ R)[B + X1.length]? = some y := by
    have : P ++ Y1 ++ x :: X2 ++ Q ++ X1 ++ y :: Y2 ++ R = (P ++ Y1 ++ x :: X2 ++ Q ++ X1) ++ y :: (Y2 ++ R) := by simp
    rw [this, qx (by simp; omega)]
   have g2 : (P ++ Y1 ++ x :: X2 ++ Q ++ X1 ++ y :: Y2 ++ R)[A + X1.length]? = some x := by rw [e0, qx (by simp; omega)]
   have g3 : ((P ++ Y1 ++ x :: X2 ++ Q ++ X1 ++ y :: Y2 ++ R).set (A + X1.length) y)[B + X1.length]? = some y := by rw [List.getElem?_set_ne (by omega), g1]
   have hs : ((P ++ Y1 ++ x :: X2 ++ Q ++ X1 ++ y :: Y2 ++ R).set (A + X1.length) y).set (B + X1.length) x = P ++ (Y1 ++ [y]) ++ X2 ++ Q ++ (X1 ++ [x]) ++ Y2 ++ R := by
    rw [e0, TY (by simp; omega) (by simp; omega)]
    simp
   have ih := aem b r0 P Q R n hA hB m (X1 ++ [x]) X2 (Y1 ++ [y]) Y2 k (by omega) (by simp; omega) (by simp; omega) (by omega) (by simp; omega) (by omega)
   rw [bK, cZ (by omega), cond_true, JW (by omega), gQ (by omega), cZ (by omega), Bool.and_self, cond_true, Int.toNat_natCast, g1, Option.bind_some, JW (by omega), gQ (by omega), cZ (by omega), Bool.and_self, cond_true, Int.toNat_natCast, g2, Option.bind_some, cond_true, Option.bind_some, List.length_set, cZ (by omega), Bool.and_self, cond_true, g3, Option.bind_some, hs, BQ (by omega)]
   rw [show X1.length + 1 = (X1 ++ [x]).length by simp, ih]
   simp
 | _, _, _, _, _, 0, _, _, _, _, _, hk => by omega
theorem aa4 (k : Nat) {P X Q Y R : List Int} {c1 c2 : Int} (h : X.length = Y.length) (hl : (P ++ X ++ Q ++ Y ++ R).length ≤ 100000) (hk : X.length < k) {A B n : Nat} (hA : A = P.length) (hB : B = P.length + X.length + Q.length) (hn : n = X.length) (r : List Int → Option α) :
 bJ k (P ++ X ++ Q ++ Y ++ R) A B n c1 c2 r = r (P ++ Y ++ Q ++ X ++ R) := by
 unfold bJ
 have := aem (α := α) (fun _ _ _ _ data2 => r data2) r P Q R n (A := A) (B := B) hA (by omega) X.length [] X [] Y k rfl (by simp; omega) rfl h.symm (by simpa using hl) hk
 simp only [List.length_nil, Int.natCast_zero, List.append_nil, List.nil_append] at this
 exact this
theorem adb {c1 c2 : Int} (b : Int → Int → Int → List Int → Int → Int → Option α) (r0 : List Int → Option α) {m N : Nat} (T : List Int) (hT : T.length ≤ 100000)
 (hb : ∀ (P U V R : List Int), U.length + V.length ≤ N → m = P.length + U.length → U.length = V.length → T = P ++ V ++ U ++ R → ∀ i j : Int, i = U.length → j = V.length → b m i j (P ++ U ++ V ++ R) c1 c2 = r0 T) :
 ∀ (n : Nat) (P U V R : List Int) (k : Nat), n ≤ N → U.length + V.length ≤ n → m = P.length + U.length → T = P ++ V ++ U ++ R → 0 < U.length → 0 < V.length → 2 * n < k →
 dQ k m U.length V.length (P ++ U ++ V ++ R) c1 c2 b r0 = r0 T
 | n, P, U, V, R, k + 1, hN, hn, hm, hT2, hU, hV, hk => by
   have hTl : T.length = P.length + V.length + U.length + R.length := by rw [hT2]; simp; omega
   rw [dQ]
   by_cases e : U.length = V.length
   ·rw [decide_eq_true (by omega), Bool.not_true, cond_false]
    exact hb P U V R (by omega) hm e hT2 _ _ rfl rfl
   ·rw [decide_eq_false (by omega), Bool.not_false, cond_true]
    cases n with
    | zero => omega
    | succ n =>
      by_cases h : V.length < U.length
      ·rw [cZ (by omega), cond_true, sW (by omega) (by omega), sW (by omega) (by omega)]
       obtain ⟨U1, U2, hU12, hU1⟩ : ∃ U1 U2, U = U1 ++ U2 ∧ U1.length = V.length := ⟨U.take V.length, U.drop V.length, by simp, by simp; omega⟩
       have hU2 : U.length = U1.length + U2.length := by rw [hU12]; simp
       have es : P ++ U ++ V ++ R = P ++ U1 ++ U2 ++ V ++ R := by rw [hU12]; simp
       have en : P ++ V ++ U2 ++ U1 ++ R = (P ++ V) ++ U2 ++ U1 ++ R := by simp
       rw [es, aa4 k (X := U1) (Q := U2) (Y := V) hU1 (by simp; omega) (by omega) (by omega) (by omega) (by omega), show U.length - V.length = U2.length by omega, show V.length = U1.length from hU1.symm, en]
       exact adb b r0 T hT hb n (P ++ V) U2 U1 R k (by omega) (by omega) (by simp; omega) (by rw [hT2, hU12]; simp) (by omega) (by omega) (by omega)
      ·rw [iZ (by omega), cond_false, sW (by omega) (by omega), JW (by omega), sW (by omega) (by omega), sW (by omega) (by omega)]
       obtain ⟨V1, V2, hV12, hV2⟩ : ∃ V1 V2, V = V1 ++ V2 ∧ V2.length = U.length := ⟨V.take (V.length - U.length), V.drop (V.length - U.length), by simp, by simp; omega⟩
       have hV1 : V.length = V1.length + V2.length := by rw [hV12]; simp
       have es : P ++ U ++ V ++ R = P ++ U ++ V1 ++ V2 ++ R := by rw [hV12]; simp
       have en : P ++ V2 ++ V1 ++ U ++ R = P ++ V2 ++ V1 ++ (U ++ R) := by simp
       rw [es, aa4 k (X := U) (Q := V1) (Y := V2) hV2.symm (by simp; omega) (by omega) (by omega) (by omega) (by omega), show V.length - U.length = V1.length by omega, show U.length = V2.length from hV2.symm, en]
       exact adb b r0 T hT hb n P V2 V1 (U ++ R) k (by omega) (by omega) (by omega) (by rw [hT2, hV12]; simp) (by omega) (by omega) (by omega)
 | _, _, _, _, _, 0, _, _, _, _, _, _, hk => by omega
theorem ajl (k : Nat) {P U V R : List Int} {c1 c2 : Int} (hl : (P ++ U ++ V ++ R).length ≤ 100000) (hU : 0 < U.length) (hV : 0 < V.length) (hk : 2 * (U.length + V.length) < k) {a m b : Nat} (ha : a = P.length) (hm : m = P.length + U.length) (hb : b = P.length + U.length + V.length) (r : List Int → Option α) :
 aX k (P ++ U ++ V ++ R) a m b c1 c2 r = r (P ++ V ++ U ++ R) := by
 simp only [List.length_append] at hl
 unfold aX
 rw [sW (by omega) (by omega), sW (by omega) (by omega), show m - a = U.length by omega, show b - m = V.length by omega]
 refine adb (m := m) (c1 := c1) (c2 := c2) (N := U.length + V.length) _ r (P ++ V ++ U ++ R) (by simp; omega) ?_ (U.length + V.length) P U V R k (Nat.le_refl _) (Nat.le_refl _) hm rfl hU hV hk
 intro P' U' V' R' e0 e1 e2 e3 i j ei ej
 have hTl : P.length + V.length + U.length + R.length = P'.length + V'.length + U'.length + R'.length := by have := congrArg List.length e3; simp at this; omega
 rw [ei, sW (by omega) (by omega)]
 have := aa4 (α := α) k (P := P') (X := U') (Q := []) (Y := V') (R := R') (c1 := c1) (c2 := c2) e2 (by simp; omega) (by omega) (A := m - U'.length) (B := m) (n := U'.length) (by omega) (by simp; omega) rfl r
 simp only [List.append_nil] at this
 rw [this, e3]
def gI (l : List Int) (i : Nat) : Int := l.getD i 0
theorem ajq {l : List Int} {i : Nat} (h : i < l.length) : l[i]? = some (gI l i) := by
 simp [gI, List.getD_eq_getElem?_getD, List.getElem?_eq_getElem h]
theorem OV {R : Int → Int → Prop} {l : List Int} (hp : l.Pairwise R) {i j : Nat} (hij : i < j) (hj : j < l.length) : R (gI l i) (gI l j) := by
 have := List.pairwise_iff_getElem.1 hp i j (by omega) hj hij
 simpa [gI, List.getD_eq_getElem?_getD, List.getElem?_eq_getElem hj, List.getElem?_eq_getElem (show i < l.length by omega)] using this
theorem JZ {l : List Int} {x : Int} (h : x ∈ l) : ∃ i, i < l.length ∧ gI l i = x := by
 obtain ⟨i, hi, e⟩ := List.mem_iff_getElem.1 h
 exact ⟨i, hi, by simp [gI, List.getD_eq_getElem?_getD, List.getElem?_eq_getElem hi, e]⟩
theorem Xk {P L S : List Int} {h : Nat} (h1 : P.length ≤ h) (h2 : h < P.length + L.length) : (P ++ L ++ S)[h]? = some (gI L (h - P.length)) := by
 rw [List.append_assoc, List.getElem?_append_right h1, List.getElem?_append_left (by omega)]
 exact ajq (by omega)
theorem XZ {l : List Int} {n i : Nat} (h : i < n) : gI (l.take n) i = gI l i := by
 simp [gI, List.getD_eq_getElem?_getD, h]
theorem Xq {l : List Int} {n i : Nat} : gI (l.drop n) i = gI l (n + i) := by
 simp [gI, List.getD_eq_getElem?_getD, List.getElem?_drop]
theorem Ak {p q x y : Int} (h : ltM p q x y) : kyM p q x ≤ kyM p q y := by unfold ltM at h; omega
theorem abg {p q : Int} {A B : List Int} (hA : A.Pairwise (ltM p q)) (hB : B.Pairwise (ltM p q)) (h : ∀ x ∈ A, ∀ y ∈ B, ltM p q x y) : (A ++ B).Pairwise (ltM p q) := List.pairwise_append.2 ⟨hA, hB, h⟩
set_option maxHeartbeats 4000000 in
theorem ai1 {p q : Int} (hr : RatM p q) {x : Int} {R M pre post : List Int} (k : Nat) (hR : R.Pairwise (ltM p q)) (hLR : ∀ y ∈ R, x < y) (hM : M.Pairwise (ltM p q)) (hMm : ∀ z, z ∈ M ↔ z = x ∨ z ∈ R)
 (hs : SmM (pre ++ [x] ++ R ++ post)) (hl : (pre ++ [x] ++ R ++ post).length ≤ 2000) (hk : 5000 < k) {a m b : Nat} (ha : a = pre.length) (hm : m = a + 1) (hb : b = m + R.length) (r : List Int → Option α) :
 aQ (k + 1) (pre ++ [x] ++ R ++ post) a m b p q r = r (pre ++ M ++ post) := by
 have hlen : (pre ++ [x] ++ R ++ post).length = pre.length + 1 + R.length + post.length := by simp; omega
 have hx : (pre ++ [x] ++ R ++ post)[a]? = some x := by
  have : pre ++ [x] ++ R ++ post = pre ++ x :: (R ++ post) := by simp
  rw [this, qx ha]
 have hY : ∀ h, m ≤ h → h < b → (pre ++ [x] ++ R ++ post)[h]? = some (gI R (h - m)) := fun h h1 h2 => by
  rw [Xk (P := pre ++ [x]) (by simp; omega) (by simp; omega)]
  congr 2
  simp
  omega
 obtain ⟨s, s1, s2, s3⟩ := aam (fun h => decide (kyM p q (gI R (h - m)) < kyM p q x)) R.length m (fun c c1 c2 hc => by
  have := Ak (OV hR (show c - m < c + 1 - m by omega) (by omega))
  simp only [decide_eq_true_eq] at hc ⊢
  omega)
 rw [aQ, sW (by omega) (by omega), decide_eq_true (by omega), cond_true]
 rw [aba hr hs (by omega) _ _ hx (fun h => gI R (h - m)) (b - m) k m b (by omega) s1 (by omega) (by omega) (fun h h1 h2 => ⟨hY h h1 h2, s3 h h1 (by omega)⟩) (by omega)]
 have e0 : pre ++ [x] ++ R ++ post = pre ++ x :: (R.take (s - m) ++ (R.drop (s - m) ++ post)) := by
  rw [← List.append_assoc (R.take _), List.take_append_drop]; simp
 have e1 : pre ++ (R.take (s - m) ++ x :: (R.drop (s - m) ++ post)) = pre ++ M ++ post := by
  have : R.take (s - m) ++ x :: R.drop (s - m) = M := by
   have t1 : ∀ y ∈ R.take (s - m), ltM p q y x := fun y hy => by
    obtain ⟨i, hi, rfl⟩ := JZ hy
    rw [List.length_take] at hi
    rw [XZ (by omega)]
    have := s3 (m + i) (by omega) (by omega)
    rw [show m + i - m = i by omega, decide_eq_true (show m + i < s by omega), decide_eq_true_eq] at this
    exact .inl this
   have t2 : ∀ y ∈ R.drop (s - m), ltM p q x y := fun y hy => by
    have hyR := List.mem_of_mem_drop hy
    obtain ⟨i, hi, rfl⟩ := JZ hy
    rw [List.length_drop] at hi
    rw [Xq] at hyR ⊢
    have := s3 (m + (s - m + i)) (by omega) (by omega)
    rw [show m + (s - m + i) - m = s - m + i by omega, decide_eq_false (show ¬ m + (s - m + i) < s by omega), decide_eq_false_iff_not] at this
    have := hLR _ hyR
    unfold ltM
    omega
   refine Hq (abg (hR.sublist (List.take_sublist _ _)) (List.pairwise_cons.2 ⟨t2, hR.sublist (List.drop_sublist _ _)⟩) fun u hu v hv => ?_) hM fun z => ?_
   ·rcases List.mem_cons.1 hv with rfl | hv
    ·exact t1 u hu
    ·exact OY (t1 u hu) (t2 v hv)
   ·rw [hMm]
    conv => rhs; rw [← List.take_append_drop (s - m) R]
    simp only [List.mem_append, List.mem_cons]
    constructor
    ·rintro (h | h | h)
     ·exact .inr (.inl h)
     ·exact .inl h
     ·exact .inr (.inr h)
    ·rintro (h | h | h)
     ·exact .inr (.inl h)
     ·exact .inl h
     ·exact .inr (.inr h)
  rw [← this]
  simp
 rw [e0]
 rw [ha, aeG _ _ x (R.drop (s - m) ++ post) (R.take (s - m)) pre k s (by rw [List.length_take]; omega) (by rw [← e0]; omega) (by rw [List.length_take]; omega), e1]
set_option maxHeartbeats 4000000 in
theorem ahK {p q : Int} (hr : RatM p q) {y : Int} {L M pre post : List Int} (k : Nat) (hne : L.length ≠ 1) (hL : L.Pairwise (ltM p q)) (hLR : ∀ x ∈ L, x < y) (hM : M.Pairwise (ltM p q)) (hMm : ∀ z, z ∈ M ↔ z ∈ L ∨ z = y)
 (hs : SmM (pre ++ L ++ [y] ++ post)) (hl : (pre ++ L ++ [y] ++ post).length ≤ 2000) (hk : 5000 < k) {a m b : Nat} (ha : a = pre.length) (hm : m = a + L.length) (hb : b = m + 1) (r : List Int → Option α) :
 aQ (k + 1) (pre ++ L ++ [y] ++ post) a m b p q r = r (pre ++ M ++ post) := by
 have hlen : (pre ++ L ++ [y] ++ post).length = pre.length + L.length + 1 + post.length := by simp; omega
 have hx : (pre ++ L ++ [y] ++ post)[m]? = some y := by
  have : pre ++ L ++ [y] ++ post = (pre ++ L) ++ y :: post := by simp
  rw [this, qx (by simp; omega)]
 have hY : ∀ h, a ≤ h → h < m → (pre ++ L ++ [y] ++ post)[h]? = some (gI L (h - a)) := fun h h1 h2 => by
  have : pre ++ L ++ [y] ++ post = pre ++ L ++ ([y] ++ post) := by simp
  rw [this, Xk (by omega) (by omega), ha]
 obtain ⟨s, s1, s2, s3⟩ := aam (fun h => !decide (kyM p q y < kyM p q (gI L (h - a)))) L.length a (fun c c1 c2 hc => by
  have := Ak (OV hL (show c - a < c + 1 - a by omega) (by omega))
  simp only [Bool.not_eq_true', decide_eq_false_iff_not] at hc ⊢
  omega)
 rw [aQ, sW (by omega) (by omega), decide_eq_false (by omega), cond_false, sW (by omega) (by omega), decide_eq_true (by omega), cond_true]
 rw [aah hr hs (by omega) _ _ hx (fun h => gI L (h - a)) (m - a) k a m (by omega) s1 (by omega) (by omega) (fun h h1 h2 => ⟨hY h h1 h2, s3 h h1 (by omega)⟩) (by omega)]
 have e0 : pre ++ L ++ [y] ++ post = (pre ++ L.take (s - a)) ++ (L.drop (s - a) ++ y :: post) := by
  rw [List.append_assoc pre (L.take (s - a)), ← List.append_assoc (L.take (s - a)), List.take_append_drop]
  simp
 have e1 : (pre ++ L.take (s - a)) ++ (y :: L.drop (s - a) ++ post) = pre ++ M ++ post := by
  have : L.take (s - a) ++ y :: L.drop (s - a) = M := by
   have t1 : ∀ x ∈ L.take (s - a), ltM p q x y := fun x hx => by
    have hxL := List.mem_of_mem_take hx
    obtain ⟨i, hi, rfl⟩ := JZ hx
    rw [List.length_take] at hi
    rw [XZ (by omega)] at hxL ⊢
    have := s3 (a + i) (by omega) (by omega)
    rw [show a + i - a = i by omega, decide_eq_true (show a + i < s by omega), Bool.not_eq_true', decide_eq_false_iff_not] at this
    have := hLR _ hxL
    unfold ltM
    omega
   have t2 : ∀ x ∈ L.drop (s - a), ltM p q y x := fun x hx => by
    obtain ⟨i, hi, rfl⟩ := JZ hx
    rw [List.length_drop] at hi
    rw [Xq]
    have := s3 (a + (s - a + i)) (by omega) (by omega)
    rw [show a + (s - a + i) - a = s - a + i by omega, decide_eq_false (show ¬ a + (s - a + i) < s by omega), Bool.not_eq_false', decide_eq_true_eq] at this
    exact .inl this
   refine Hq (abg (hL.sublist (List.take_sublist _ _)) (List.pairwise_cons.2 ⟨t2, hL.sublist (List.drop_sublist _ _)⟩) fun u hu v hv => ?_) hM fun z => ?_
   ·rcases List.mem_cons.1 hv with rfl | hv
    ·exact t1 u hu
    ·exact OY (t1 u hu) (t2 v hv)
   ·rw [hMm]
    conv => rhs; rw [← List.take_append_drop (s - a) L]
    simp only [List.mem_append, List.mem_cons]
    constructor
    ·rintro (h | h | h)
     ·exact .inl (.inl h)
     ·exact .inr h
     ·exact .inl (.inr h)
    ·rintro ((h | h) | h)
     ·exact .inl h
     ·exact .inr (.inr h)
     ·exact .inr (.inl h)
  rw [← this]
  simp
 rw [e0]
 have hmv := adv (α := α) (fun _ _ data8 => r data8) r y (pre ++ L.take (s - a)) (L.drop (s - a)).length (L.drop (s - a)) post k s rfl (by rw [List.length_append, List.length_take]; omega) (by rw [← e0]; omega) (by rw [List.length_drop]; omega)
 rw [show s + (L.drop (s - a)).length = m by rw [List.length_drop]; omega] at hmv
 rw [hmv, e1]
set_option maxHeartbeats 4000000 in
theorem adh {p q : Int} (hr : RatM p q) : ∀ (n : Nat) (L R M pre post : List Int) (k : Nat), L.length + R.length ≤ n → L ≠ [] → R ≠ [] → L.Pairwise (ltM p q) → R.Pairwise (ltM p q) → (∀ x ∈ L, ∀ y ∈ R, x < y) → M.Pairwise (ltM p q) → (∀ z, z ∈ M ↔ z ∈ L ∨ z ∈ R) →
 SmM (pre ++ L ++ R ++ post) → (pre ++ L ++ R ++ post).length ≤ 2000 → n + 10000 < k → ∀ (a m b : Nat), a = pre.length → m = a + L.length → b = m + R.length → ∀ r : List Int → Option α, aQ k (pre ++ L ++ R ++ post) a m b p q r = r (pre ++ M ++ post)
 | n, L, R, M, pre, post, 0, _, _, _, _, _, _, _, _, _, _, hk, _, _, _, _, _, _, _ => by omega
 | n, L, R, M, pre, post, k + 1, hn, hL0, hR0, hL, hR, hLR, hM, hMm, hs, hl, hk, a, m, b, ha, hm, hb, r => by
   have hLl : L.length ≠ 0 := fun e => hL0 (List.eq_nil_of_length_eq_zero e)
   have hRl : R.length ≠ 0 := fun e => hR0 (List.eq_nil_of_length_eq_zero e)
   by_cases c1 : L.length = 1
   ·obtain ⟨x, rfl⟩ : ∃ x, L = [x] := List.length_eq_one_iff.1 c1
    exact ai1 hr k hR (fun y hy => hLR x (by simp) y hy) hM (fun z => by rw [hMm]; simp) hs hl (by omega) ha (by simpa using hm) hb r
   by_cases c2 : R.length = 1
   ·obtain ⟨y, rfl⟩ : ∃ y, R = [y] := List.length_eq_one_iff.1 c2
    exact ahK hr k c1 hL (fun x hx => hLR x hx y (by simp)) hM (fun z => by rw [hMm]; simp) hs hl (by omega) ha hm (by simpa using hb) r
   cases n with
   | zero => omega
   | succ n =>
   have hlen : (pre ++ L ++ R ++ post).length = pre.length + L.length + R.length + post.length := by simp; omega
   let D := pre ++ L ++ R ++ post
   have hYL : ∀ h, a ≤ h → h < m → D[h]? = some (gI L (h - a)) := fun h h1 h2 => by
    have : D = pre ++ L ++ (R ++ post) := by simp [D]
    rw [this, Xk (by omega) (by omega), ha]
   have hYR : ∀ h, m ≤ h → h < b → D[h]? = some (gI R (h - m)) := fun h h1 h2 => by
    show (pre ++ L ++ R ++ post)[h]? = _
    rw [Xk (P := pre ++ L) (by simp; omega) (by simp; omega)]
    congr 2
    simp
    omega
   obtain ⟨mid, hmid⟩ : ∃ mid, mid = (a + b) / 2 := ⟨_, rfl⟩
   obtain ⟨s0, hs0⟩ : ∃ s0, s0 = if mid < m then mid + m - b else a := ⟨_, rfl⟩
   obtain ⟨r0, hr0⟩ : ∃ r0, r0 = if mid < m then mid else m := ⟨_, rfl⟩
   have b0 : a ≤ s0 ∧ s0 ≤ r0 ∧ r0 ≤ m ∧ ∀ c, s0 ≤ c → c < r0 → a ≤ c ∧ c < m ∧ c ≤ mid + m - 1 ∧ m ≤ mid + m - 1 - c ∧ mid + m - 1 - c < b := by
    by_cases h : mid < m
    ·rw [if_pos h] at hs0 hr0
     exact ⟨by omega, by omega, by omega, fun c _ _ => by omega⟩
    ·rw [if_neg h] at hs0 hr0
     exact ⟨by omega, by omega, by omega, fun c _ _ => by omega⟩
   obtain ⟨b1, b2, b3, b4⟩ := b0
   obtain ⟨s, s1, s2, s3⟩ := aam (fun c => !decide (kyM p q (gI R (mid + m - 1 - c - m)) < kyM p q (gI L (c - a)))) (r0 - s0) s0 (fun c c1 c2 hc => by
    obtain ⟨d1, d2, d3, d4, d5⟩ := b4 c c1 (by omega)
    obtain ⟨f1, f2, f3, f4, f5⟩ := b4 (c + 1) (by omega) (by omega)
    have t1 := Ak (OV hL (show c - a < c + 1 - a by omega) (by omega))
    have t2 := Ak (OV hR (show mid + m - 1 - (c + 1) - m < mid + m - 1 - c - m by omega) (by omega))
    simp only [Bool.not_eq_true', decide_eq_false_iff_not] at hc ⊢
    omega)
   have s2' : s ≤ r0 := by omega
   have hsm : s ≤ m := by omega
   have hmids : s ≤ mid := by
    by_cases h : mid < m
    ·rw [if_pos h] at hr0; omega
    ·omega
   obtain ⟨L1, hL1⟩ : ∃ L1, L1 = L.take (s - a) := ⟨_, rfl⟩
   obtain ⟨L2, hL2⟩ : ∃ L2, L2 = L.drop (s - a) := ⟨_, rfl⟩
   obtain ⟨R1, hR1⟩ : ∃ R1, R1 = R.take (mid - s) := ⟨_, rfl⟩
   obtain ⟨R2, hR2⟩ : ∃ R2, R2 = R.drop (mid - s) := ⟨_, rfl⟩
   have hRs : mid - s ≤ R.length := by
    by_cases h : mid < m
    ·rw [if_pos h] at hs0; omega
    ·omega
   have lL1 : L1.length = s - a := by rw [hL1, List.length_take]; omega
   have lL2 : L2.length = m - s := by rw [hL2, List.length_drop]; omega
   have lR1 : R1.length = mid - s := by rw [hR1, List.length_take]; omega
   have lR2 : R2.length = b - (mid + m - s) := by rw [hR2, List.length_drop]; omega
   have eL : L = L1 ++ L2 := by rw [hL1, hL2, List.take_append_drop]
   have eR : R = R1 ++ R2 := by rw [hR1, hR2, List.take_append_drop]
   have q12 : ∀ x ∈ L1, ∀ y ∈ L2, ltM p q x y := fun x hx y hy => by
    rw [eL] at hL
    exact (List.pairwise_append.1 hL).2.2 x hx y hy
   have q34 : ∀ x ∈ R1, ∀ y ∈ R2, ltM p q x y := fun x hx y hy => by
    rw [eR] at hR
    exact (List.pairwise_append.1 hR).2.2 x hx y hy
   have q14 : ∀ x ∈ L1, ∀ y ∈ R2, ltM p q x y := fun x hx y hy => by
    have hxL : x ∈ L := by rw [eL]; exact List.mem_append_left _ hx
    have hyR : y ∈ R := by rw [eR]; exact List.mem_append_right _ hy
    obtain ⟨i, hi, rfl⟩ := JZ hx
    obtain ⟨j, hj, rfl⟩ := JZ hy
    have hs0s : s0 < s := by
     rcases Nat.lt_or_ge s0 s with h | h
     ·exact h
     ·exfalso
      by_cases h' : mid < m
      ·rw [if_pos h'] at hs0; omega
      ·rw [if_neg h'] at hs0; omega
    have hq := s3 (s - 1) (by omega) (by omega)
    rw [decide_eq_true (show s - 1 < s by omega), Bool.not_eq_true', decide_eq_false_iff_not] at hq
    obtain ⟨d1, d2, d3, d4, d5⟩ := b4 (s - 1) (by omega) (by omega)
    have e1 : gI L1 i = gI L i := by rw [hL1, XZ (by omega)]
    have e2 : gI R2 j = gI R (mid - s + j) := by rw [hR2, Xq]
    have k1 : kyM p q (gI L i) ≤ kyM p q (gI L (s - 1 - a)) := by
     by_cases e : i = s - 1 - a
     ·rw [e]; exact Int.le_refl _
     ·exact Ak (OV hL (by omega) (by omega))
    have k2 : kyM p q (gI R (mid + m - 1 - (s - 1) - m)) ≤ kyM p q (gI R (mid - s + j)) := by
     by_cases e : mid + m - 1 - (s - 1) - m = mid - s + j
     ·rw [e]; exact Int.le_refl _
     ·exact Ak (OV hR (by omega) (by omega))
    have := hLR _ hxL _ hyR
    rw [e1, e2] at this ⊢
    unfold ltM
    omega
   have q32 : ∀ x ∈ R1, ∀ y ∈ L2, ltM p q x y := fun x hx y hy => by
    obtain ⟨i, hi, rfl⟩ := JZ hx
    obtain ⟨j, hj, rfl⟩ := JZ hy
    have hsr : s < r0 := by
     rcases Nat.lt_or_ge s r0 with h | h
     ·exact h
     ·exfalso
      by_cases h' : mid < m
      ·rw [if_pos h'] at hr0; omega
      ·rw [if_neg h'] at hr0; omega
    have hq := s3 s (by omega) (by omega)
    rw [decide_eq_false (show ¬ s < s by omega), Bool.not_eq_false', decide_eq_true_eq] at hq
    obtain ⟨d1, d2, d3, d4, d5⟩ := b4 s (by omega) (by omega)
    have e1 : gI R1 i = gI R i := by rw [hR1, XZ (by omega)]
    have e2 : gI L2 j = gI L (s - a + j) := by rw [hL2, Xq]
    have k1 : kyM p q (gI R i) ≤ kyM p q (gI R (mid + m - 1 - s - m)) := by
     by_cases e : i = mid + m - 1 - s - m
     ·rw [e]; exact Int.le_refl _
     ·exact Ak (OV hR (by omega) (by omega))
    have k2 : kyM p q (gI L (s - a)) ≤ kyM p q (gI L (s - a + j)) := by
     by_cases e : j = 0
     ·rw [e]; exact Int.le_refl _
     ·exact Ak (OV hL (by omega) (by omega))
    rw [e1, e2]
    exact .inl (by omega)
   obtain ⟨M1, hM1⟩ : ∃ M1, M1 = M.filter fun z => decide (z ∈ L1 ++ R1) := ⟨_, rfl⟩
   obtain ⟨M2, hM2⟩ : ∃ M2, M2 = M.filter fun z => decide (z ∈ L2 ++ R2) := ⟨_, rfl⟩
   have mM1 : ∀ z, z ∈ M1 ↔ z ∈ L1 ∨ z ∈ R1 := fun z => by
    rw [hM1, List.mem_filter, hMm, decide_eq_true_eq, List.mem_append, eL, eR, List.mem_append, List.mem_append]
    constructor
    ·exact fun h => h.2
    ·exact fun h => ⟨h.elim (fun h => .inl (.inl h)) fun h => .inr (.inl h), h⟩
   have mM2 : ∀ z, z ∈ M2 ↔ z ∈ L2 ∨ z ∈ R2 := fun z => by
    rw [hM2, List.mem_filter, hMm, decide_eq_true_eq, List.mem_append, eL, eR, List.mem_append, List.mem_append]
    constructor
    ·exact fun h => h.2
    ·exact fun h => ⟨h.elim (fun h => .inl (.inr h)) fun h => .inr (.inr h), h⟩
   have pM1 : M1.Pairwise (ltM p q) := hM1 ▸ hM.sublist List.filter_sublist
   have pM2 : M2.Pairwise (ltM p q) := hM2 ▸ hM.sublist List.filter_sublist
   have eM : M1 ++ M2 = M := by
    refine Hq (abg pM1 pM2 fun x hx y hy => ?_) hM fun z => ?_
    ·rcases (mM1 x).1 hx with h1 | h1 <;> rcases (mM2 y).1 hy with h2 | h2
     ·exact q12 x h1 y h2
     ·exact q14 x h1 y h2
     ·exact q32 x h1 y h2
     ·exact q34 x h1 y h2
    ·rw [List.mem_append, mM1, mM2, hMm, eL, eR, List.mem_append, List.mem_append]
     constructor
     ·rintro ((h | h) | (h | h))
      ·exact .inl (.inl h)
      ·exact .inr (.inl h)
      ·exact .inl (.inr h)
      ·exact .inr (.inr h)
     ·rintro ((h | h) | (h | h))
      ·exact .inl (.inl h)
      ·exact .inr (.inl h)
      ·exact .inl (.inr h)
      ·exact .inr (.inr h)
   have pL1 : L1.Pairwise (ltM p q) := hL1 ▸ hL.sublist (List.take_sublist _ _)
   have pL2 : L2.Pairwise (ltM p q) := hL2 ▸ hL.sublist (List.drop_sublist _ _)
   have pR1 : R1.Pairwise (ltM p q) := hR1 ▸ hR.sublist (List.take_sublist _ _)
   have pR2 : R2.Pairwise (ltM p q) := hR2 ▸ hR.sublist (List.drop_sublist _ _)
   have uM1 : L1 = [] ∨ R1 = [] → L1 ++ R1 = M1 := fun h => by
    refine Hq ?_ pM1 fun z => by rw [List.mem_append, mM1]
    rcases h with h | h
    ·rw [h]; exact pR1
    ·rw [h, List.append_nil]; exact pL1
   have uM2 : L2 = [] ∨ R2 = [] → L2 ++ R2 = M2 := fun h => by
    refine Hq ?_ pM2 fun z => by rw [List.mem_append, mM2]
    rcases h with h | h
    ·rw [h]; exact pR2
    ·rw [h, List.append_nil]; exact pL2
   have sub : ∀ z, z ∈ pre ++ L1 ++ R1 ++ L2 ++ R2 ++ post → z ∈ pre ++ L ++ R ++ post := fun z hz => by
    rw [eL, eR]
    simp only [List.mem_append] at hz ⊢
    rcases hz with ((((h | h) | h) | h) | h) | h
    ·exact .inl (.inl (.inl h))
    ·exact .inl (.inl (.inr (.inl h)))
    ·exact .inl (.inr (.inl h))
    ·exact .inl (.inl (.inr (.inr h)))
    ·exact .inl (.inr (.inr h))
    ·exact .inr h
   obtain ⟨en, hen⟩ : ∃ en, en = mid + m - s := ⟨_, rfl⟩
   let B : List Int → Option α := fun v => bif decide ((mid : Int) < (en : Int)) then (bif decide ((en : Int) < (b : Int)) then aQ k v mid en b p q fun v5 => r v5 else r v) else r v
   let A : List Int → Option α := fun v => bif decide ((a : Int) < (s : Int)) then (bif decide ((s : Int) < (mid : Int)) then aQ k v a s mid p q fun v4 => B v4 else B v) else B v
   have hB : B (pre ++ M1 ++ L2 ++ R2 ++ post) = r (pre ++ M ++ post) := by
    have lM1 : M1.length = L1.length + R1.length := by
     have n1 : M1.Nodup := List.nodup_iff_pairwise_ne.2 (pM1.imp fun {x y} h e => by subst e; exact LV h)
     have n2 : (L1 ++ R1).Nodup := by
      refine List.nodup_append.2 ⟨List.nodup_iff_pairwise_ne.2 (pL1.imp fun {x y} h e => by subst e; exact LV h), List.nodup_iff_pairwise_ne.2 (pR1.imp fun {x y} h e => by subst e; exact LV h), fun x hx y hy e => ?_⟩
      have := hLR x (by rw [eL]; exact List.mem_append_left _ hx) y (by rw [eR]; exact List.mem_append_left _ hy)
      omega
     have a1 := n1.length_le_of_subset (l₂ := L1 ++ R1) fun x hx => by rw [List.mem_append]; exact (mM1 x).1 hx
     have a2 := n2.length_le_of_subset (l₂ := M1) fun x hx => by rw [List.mem_append] at hx; exact (mM1 x).2 hx
     rw [List.length_append] at a1 a2
     omega
    show (bif decide ((mid : Int) < (en : Int)) then (bif decide ((en : Int) < (b : Int)) then aQ k (pre ++ M1 ++ L2 ++ R2 ++ post) mid en b p q fun v5 => r v5 else r (pre ++ M1 ++ L2 ++ R2 ++ post)) else r (pre ++ M1 ++ L2 ++ R2 ++ post)) = _
    by_cases h1 : mid < en
    ·by_cases h2 : en < b
     ·rw [cZ (by omega), cZ (by omega), cond_true, cond_true]
      have := adh hr n L2 R2 M2 (pre ++ M1) post k (by omega) (by intro e; rw [e] at lL2; simp at lL2; omega) (by intro e; rw [e] at lR2; simp at lR2; omega) pL2 pR2 (fun x hx y hy => hLR x (by rw [eL]; exact List.mem_append_right _ hx) y (by rw [eR]; exact List.mem_append_right _ hy)) pM2 mM2
       (fun z hz => hs z (sub z (by
         simp only [List.mem_append] at hz ⊢
         rcases hz with (((h | h) | h) | h) | h
         ·exact .inl (.inl (.inl (.inl (.inl h))))
         ·rcases (mM1 z).1 h with h | h
          ·exact .inl (.inl (.inl (.inl (.inr h))))
          ·exact .inl (.inl (.inl (.inr h)))
         ·exact .inl (.inl (.inr h))
         ·exact .inl (.inr h)
         ·exact .inr h))) (by simp; omega) (by omega) mid en b (by simp; omega) (by omega) (by omega) r
      rw [this, List.append_assoc pre, eM]
     ·rw [cZ (by omega), iZ (by omega), cond_true, cond_false]
      have hR2 : R2 = [] := List.eq_nil_of_length_eq_zero (by omega)
      have := uM2 (.inr hR2)
      rw [← eM, ← this]
      simp
    ·rw [iZ (by omega), cond_false]
     have hL2 : L2 = [] := List.eq_nil_of_length_eq_zero (by omega)
     have := uM2 (.inl hL2)
     rw [← eM, ← this]
     simp
   have hA : A (pre ++ L1 ++ R1 ++ L2 ++ R2 ++ post) = r (pre ++ M ++ post) := by
    show (bif decide ((a : Int) < (s : Int)) then (bif decide ((s : Int) < (mid : Int)) then aQ k (pre ++ L1 ++ R1 ++ L2 ++ R2 ++ post) a s mid p q fun v4 => B v4 else B (pre ++ L1 ++ R1 ++ L2 ++ R2 ++ post)) else B (pre ++ L1 ++ R1 ++ L2 ++ R2 ++ post)) = _
    by_cases h1 : a < s
    ·by_cases h2 : s < mid
     ·rw [cZ (by omega), cZ (by omega), cond_true, cond_true]
      have e0 : pre ++ L1 ++ R1 ++ L2 ++ R2 ++ post = pre ++ L1 ++ R1 ++ (L2 ++ R2 ++ post) := by simp
      have e1 : pre ++ M1 ++ (L2 ++ R2 ++ post) = pre ++ M1 ++ L2 ++ R2 ++ post := by simp
      have := adh hr n L1 R1 M1 pre (L2 ++ R2 ++ post) k (by omega) (by intro e; rw [e] at lL1; simp at lL1; omega) (by intro e; rw [e] at lR1; simp at lR1; omega) pL1 pR1 (fun x hx y hy => hLR x (by rw [eL]; exact List.mem_append_left _ hx) y (by rw [eR]; exact List.mem_append_left _ hy)) pM1 mM1
       (fun z hz => hs z (sub z (by rw [e0]; exact hz))) (by simp; omega) (by omega) a s mid ha (by omega) (by omega) B
      rw [e0]
      show aQ k (pre ++ L1 ++ R1 ++ (L2 ++ R2 ++ post)) a s mid p q B = _
      rw [this, e1, hB]
     ·rw [cZ (by omega), iZ (by omega), cond_true, cond_false]
      have hR1 : R1 = [] := List.eq_nil_of_length_eq_zero (by omega)
      have := uM1 (.inr hR1)
      rw [show pre ++ L1 ++ R1 ++ L2 ++ R2 ++ post = pre ++ (L1 ++ R1) ++ L2 ++ R2 ++ post by simp, this]
      exact hB
    ·rw [iZ (by omega), cond_false]
     have hL1 : L1 = [] := List.eq_nil_of_length_eq_zero (by omega)
     have := uM1 (.inl hL1)
     rw [show pre ++ L1 ++ R1 ++ L2 ++ R2 ++ post = pre ++ (L1 ++ R1) ++ L2 ++ R2 ++ post by simp, this]
     exact hB
   have hC : (bif decide ((s : Int) < (m : Int)) then (bif decide ((m : Int) < (en : Int)) then aX k (pre ++ L ++ R ++ post) s m en p q fun v3 => A v3 else A (pre ++ L ++ R ++ post)) else A (pre ++ L ++ R ++ post)) = r (pre ++ M ++ post) := by
    have hD : pre ++ L ++ R ++ post = (pre ++ L1) ++ L2 ++ R1 ++ (R2 ++ post) := by rw [eL, eR]; simp
    by_cases h1 : s < m
    ·by_cases h2 : m < en
     ·rw [cZ (by omega), cZ (by omega), cond_true, cond_true, hD, ajl k (by rw [← hD]; omega) (by omega) (by omega) (by omega) (by simp; omega) (by simp; omega) (by simp; omega)]
      rw [show (pre ++ L1) ++ R1 ++ L2 ++ (R2 ++ post) = pre ++ L1 ++ R1 ++ L2 ++ R2 ++ post by simp]
      exact hA
     ·rw [cZ (by omega), iZ (by omega), cond_true, cond_false, hD]
      have hR1 : R1 = [] := List.eq_nil_of_length_eq_zero (by omega)
      rw [show (pre ++ L1) ++ L2 ++ R1 ++ (R2 ++ post) = pre ++ L1 ++ R1 ++ L2 ++ R2 ++ post by rw [hR1]; simp]
      exact hA
    ·rw [iZ (by omega), cond_false, hD]
     have hL2 : L2 = [] := List.eq_nil_of_length_eq_zero (by omega)
     rw [show (pre ++ L1) ++ L2 ++ R1 ++ (R2 ++ post) = pre ++ L1 ++ R1 ++ L2 ++ R2 ++ post by rw [hL2]; simp]
     exact hA
   have hpp : ((mid + m : Nat) : Int) - 1 = ((mid + m : Nat) : Int) - 1 := rfl
   rw [aQ, sW (by omega) (by omega), decide_eq_false (by omega), cond_false, sW (by omega) (by omega), decide_eq_false (by omega), cond_false, XK (by omega), ← hmid, JW (by omega), Ej (by omega) (by omega)]
   have hfind := fun (b8 : Int → Int → Int → Int → Int → Int → Int → Int → List Int → Int → Int → Option α) => aag hr hs (by omega) b8 r (a3 := (a : Int)) (m3 := (m : Int)) (b9 := (b : Int)) (mid := (mid : Int)) (n1 := ((mid + m : Nat) : Int)) (pp := mid + m - 1) (s := s) (by omega) (fun c => gI L (c - a)) (fun c => gI R (mid + m - 1 - c - m)) (r0 - s0) k s0 r0 (by omega) s1 s2' (by omega) (fun h h1 h2 => by
    obtain ⟨d1, d2, d3, d4, d5⟩ := b4 h h1 h2
    exact ⟨d3, by omega, hYL h d1 d2, hYR _ d4 d5, s3 h h1 (by omega)⟩) (by omega)
   have een : w64 (((mid + m : Nat) : Int) - (s : Int)) = (en : Int) := by rw [sW (by omega) (by omega), hen]
   by_cases h : mid < m
   ·rw [if_pos h] at hs0 hr0
    rw [cZ (by omega), cond_true, sW (by omega) (by omega), ← hs0]
    rw [hr0] at hfind
    rw [hfind]
    simp only [een]
    exact hC
   ·rw [if_neg h] at hs0 hr0
    rw [iZ (by omega), cond_false]
    rw [hr0, hs0] at hfind
    rw [hfind]
    simp only [een]
    exact hC
def insM (p q x : Int) : List Int → List Int
 | [] => [x]
 | y :: l => if kyM p q x < kyM p q y then x :: y :: l else y :: insM p q x l
def sbM (p q : Int) (a : Nat) : Nat → List Int
 | 0 => []
 | n + 1 => insM p q ((a + n : Nat) : Int) (sbM p q a n)
theorem aae {p q x z : Int} : ∀ {l : List Int}, z ∈ insM p q x l ↔ z = x ∨ z ∈ l
 | [] => by simp [insM]
 | y :: l => by
   unfold insM
   split
   ·simp
   ·rw [List.mem_cons, aae, List.mem_cons]
    constructor
    ·rintro (h | h | h)
     ·exact .inr (.inl h)
     ·exact .inl h
     ·exact .inr (.inr h)
    ·rintro (h | h | h)
     ·exact .inr (.inl h)
     ·exact .inl h
     ·exact .inr (.inr h)
theorem ac2 {p q x : Int} : ∀ {l : List Int}, (insM p q x l).length = l.length + 1
 | [] => rfl
 | y :: l => by
   unfold insM
   split
   ·rfl
   ·rw [List.length_cons, ac2, List.length_cons]
theorem aeC {p q x : Int} : ∀ {l : List Int}, l.Pairwise (ltM p q) → (∀ y ∈ l, y < x) → (insM p q x l).Pairwise (ltM p q)
 | [], _, _ => by simp [insM]
 | y :: l, h, hx => by
   obtain ⟨h1, h2⟩ := List.pairwise_cons.1 h
   unfold insM
   split
   ·rename_i hk
    refine List.pairwise_cons.2 ⟨fun z hz => ?_, h⟩
    rcases List.mem_cons.1 hz with rfl | hz
    ·exact .inl hk
    ·exact OY (.inl hk) (h1 z hz)
   ·rename_i hk
    refine List.pairwise_cons.2 ⟨fun z hz => ?_, aeC h2 fun z hz => hx z (List.mem_cons_of_mem _ hz)⟩
    rcases aae.1 hz with rfl | hz
    ·have := hx y (by simp)
     unfold ltM
     omega
    ·exact h1 z hz
theorem oQ {p q : Int} {a : Nat} {z : Int} : ∀ {n : Nat}, z ∈ sbM p q a n ↔ (a : Int) ≤ z ∧ z < ((a + n : Nat) : Int)
 | 0 => by simp [sbM] <;> omega
 | n + 1 => by
   unfold sbM
   rw [aae, oQ]
   omega
theorem jY {p q : Int} {a : Nat} : ∀ {n : Nat}, (sbM p q a n).length = n
 | 0 => rfl
 | n + 1 => by
   unfold sbM
   rw [ac2, jY]
theorem Nk {p q : Int} {a : Nat} : ∀ {n : Nat}, (sbM p q a n).Pairwise (ltM p q)
 | 0 => by simp [sbM]
 | n + 1 => by
   unfold sbM
   exact aeC Nk fun y hy => by have := oQ.1 hy; omega
def idM (a : Nat) : Nat → List Int
 | 0 => []
 | n + 1 => (a : Int) :: idM (a + 1) n
theorem ahd (a n : Nat) : idM a (n + 1) = (a : Int) :: idM (a + 1) n := rfl
theorem LY : ∀ {n a : Nat}, (idM a n).length = n
 | 0, _ => rfl
 | n + 1, a => by unfold idM; rw [List.length_cons, LY]
theorem abm : ∀ {n a : Nat} {z : Int}, z ∈ idM a n ↔ (a : Int) ≤ z ∧ z < ((a + n : Nat) : Int)
 | 0, a, z => by simp [idM] <;> omega
 | n + 1, a, z => by
   unfold idM
   rw [List.mem_cons, abm]
   omega
theorem aa8 : ∀ (m n a : Nat), idM a (m + n) = idM a m ++ idM (a + m) n
 | 0, n, a => by simp [idM]
 | m + 1, n, a => by
   rw [show m + 1 + n = (m + n) + 1 by omega]
   show (a : Int) :: idM (a + 1) (m + n) = (a : Int) :: idM (a + 1) m ++ idM (a + (m + 1)) n
   rw [aa8 m n (a + 1), show a + 1 + m = a + (m + 1) by omega]
   rfl
theorem SmM.of {l : List Int} {n : Nat} (hn : n ≤ 1000) (h : ∀ x ∈ l, 0 ≤ x ∧ x < (n : Int)) : SmM l := fun x hx => by have := h x hx; omega
set_option maxHeartbeats 4000000 in
theorem agP {p q : Int} (hr : RatM p q) (b2 : Int → Int → Int → Int → List Int → Int → Int → Option α) (r0 : List Int → Option α) (pre A : List Int) (x b4 i1 : Int) {a : Nat} (ha : a = pre.length) (hA : ∀ y ∈ A, ¬ kyM p q x < kyM p q y) :
 ∀ (n : Nat) (B S : List Int) (k j : Nat), B.length = n → (∀ y ∈ B, kyM p q x < kyM p q y) → SmM (pre ++ A ++ B ++ x :: S) → (pre ++ A ++ B ++ x :: S).length ≤ 2000 → n < k → j = a + A.length + n →
 bQ k a b4 i1 (j : Int) (pre ++ A ++ B ++ x :: S) p q b2 r0 = b2 a b4 i1 ((a + A.length : Nat) : Int) (pre ++ A ++ x :: (B ++ S)) p q
 | 0, B, S, k + 1, j, hn, hB, hs, hl, hk, hj => by
   have := List.eq_nil_of_length_eq_zero hn
   subst this
   obtain rfl : j = a + A.length := by omega
   simp only [List.append_nil, List.length_append, List.length_cons] at hl
   rw [bQ]
   by_cases hA0 : A = []
   ·subst hA0
    rw [iZ (by simp), cond_false]
    simp
   ·obtain ⟨A', z, rfl⟩ : ∃ A' z, A = A' ++ [z] := ⟨A.dropLast, A.getLast hA0, by rw [List.dropLast_concat_getLast]⟩
    simp only [List.append_nil]
    have hlen : (pre ++ (A' ++ [z]) ++ x :: S).length = pre.length + A'.length + 2 + S.length := by simp; omega
    have hAl : (A' ++ [z]).length = A'.length + 1 := by simp
    have g1 : (pre ++ (A' ++ [z]) ++ x :: S)[a + (A'.length + 1)]? = some x := qx (by simp; omega)
    have g2 : (pre ++ (A' ++ [z]) ++ x :: S)[a + (A'.length + 1) - 1]? = some z := by
     have : pre ++ (A' ++ [z]) ++ x :: S = (pre ++ A') ++ z :: (x :: S) := by simp
     rw [this, qx (by simp; omega)]
    rw [List.append_nil] at hs
    have ej : a + (A' ++ [z]).length = a + (A'.length + 1) := by omega
    rw [ej, cZ (by omega), cond_true, gQ (by omega), cZ (by omega), Bool.and_self, cond_true, Int.toNat_natCast, g1, Option.bind_some, Ej (by omega) (by omega), gQ (by omega), cZ (by omega), Bool.and_self, cond_true, Int.toNat_natCast, g2, Option.bind_some, xk hr k (hs.at g1) (hs.at g2), QW, decide_eq_false (hA z (by simp)), cond_false]
    simp
 | n + 1, B, S, k + 1, j, hn, hB, hs, hl, hk, hj => by
   subst hj
   obtain ⟨B', z, rfl⟩ : ∃ B' z, B = B' ++ [z] := ⟨B.dropLast, B.getLast (by intro e; rw [e] at hn; cases hn), by rw [List.dropLast_concat_getLast]⟩
   have hB' : B'.length = n := by simp at hn; omega
   have hlen : (pre ++ A ++ (B' ++ [z]) ++ x :: S).length = pre.length + A.length + B'.length + 2 + S.length := by simp; omega
   have e0 : pre ++ A ++ (B' ++ [z]) ++ x :: S = (pre ++ A ++ B') ++ z :: ([] ++ x :: S) := by simp
   have g1 : (pre ++ A ++ (B' ++ [z]) ++ x :: S)[a + A.length + (n + 1)]? = some x := qx (by simp; omega)
   have g2 : (pre ++ A ++ (B' ++ [z]) ++ x :: S)[a + A.length + n]? = some z := by rw [e0, qx (by simp; omega)]
   have g3 : ((pre ++ A ++ (B' ++ [z]) ++ x :: S).set (a + A.length + (n + 1)) z)[a + A.length + n]? = some z := by rw [List.getElem?_set_ne (by omega), g2]
   have hset : ((pre ++ A ++ (B' ++ [z]) ++ x :: S).set (a + A.length + (n + 1)) z).set (a + A.length + n) x = pre ++ A ++ B' ++ x :: (z :: S) := by
    rw [e0, ac7 (by simp; omega) (by simp; omega)]
    simp
   have ej : a + A.length + (n + 1) - 1 = a + A.length + n := by omega
   rw [bQ, cZ (by omega), cond_true, gQ (by omega), cZ (by omega), Bool.and_self, cond_true, Int.toNat_natCast, g1, Option.bind_some, Ej (by omega) (by omega), ej, gQ (by omega), cZ (by omega), Bool.and_self, cond_true, Int.toNat_natCast, g2, Option.bind_some, xk hr k (hs.at g1) (hs.at g2), QW, decide_eq_true (hB z (by simp)), cond_true]
   rw [cond_true, Option.bind_some, cond_true, Option.bind_some, cond_true, Option.bind_some, List.length_set, cZ (by omega), Bool.and_self, cond_true, g3, Option.bind_some, hset]
   have ih := agP hr b2 r0 pre A x b4 i1 ha hA n B' (z :: S) k (a + A.length + n) hB' (fun y hy => hB y (List.mem_append_left _ hy)) (fun y hy => hs y (by
    simp only [List.mem_append, List.mem_cons] at hy ⊢
    rcases hy with ((h | h) | h) | (h | h | h)
    ·exact .inl (.inl (.inl h))
    ·exact .inl (.inl (.inr h))
    ·exact .inl (.inr (.inl h))
    ·exact .inr (.inl h)
    ·exact .inl (.inr (.inr (.inl h)))
    ·exact .inr (.inr h))) (by simp; omega) (by omega) rfl
   rw [ih]
   simp
 | _, _, _, 0, _, _, _, _, _, hk, _ => by omega
theorem RZ {p q x : Int} : ∀ (l : List Int), l.Pairwise (ltM p q) → ∃ A B, l = A ++ B ∧ insM p q x l = A ++ x :: B ∧ (∀ y ∈ A, ¬ kyM p q x < kyM p q y) ∧ ∀ y ∈ B, kyM p q x < kyM p q y
 | [], _ => ⟨[], [], rfl, rfl, by simp, by simp⟩
 | y :: l, h => by
   obtain ⟨h1, h2⟩ := List.pairwise_cons.1 h
   unfold insM
   split
   ·rename_i hk
    refine ⟨[], y :: l, rfl, rfl, by simp, fun z hz => ?_⟩
    rcases List.mem_cons.1 hz with rfl | hz
    ·exact hk
    ·have := Ak (h1 z hz)
     omega
   ·rename_i hk
    obtain ⟨A, B, e1, e2, e3, e4⟩ := RZ (x := x) l h2
    refine ⟨y :: A, B, by rw [e1]; rfl, by rw [e2]; rfl, fun z hz => ?_, e4⟩
    rcases List.mem_cons.1 hz with rfl | hz
    ·exact hk
    ·exact e3 z hz
theorem afK {p q : Int} (hr : RatM p q) (b0 : Int → Int → Int → List Int → Int → Int → Option α) (r0 : List Int → Option α) (pre post : List Int) {a b : Nat} (ha : a = pre.length) :
 ∀ (m n k : Nat), n + m = b - a → a ≤ b → SmM (pre ++ post) → b ≤ 1000 → (pre ++ sbM p q a n ++ idM (a + n) m ++ post).length ≤ 2000 → 2000 + m < k →
 aj k a b ((a + n : Nat) : Int) (pre ++ sbM p q a n ++ idM (a + n) m ++ post) p q b0 r0 = b0 a b b (pre ++ sbM p q a (n + m) ++ post) p q
 | 0, n, k + 1, hn, hab, hs, hb, hl, hk => by
   rw [aj, show a + n = b by omega, iZ (by omega), cond_false]
   simp [idM]
 | m + 1, n, k + 1, hn, hab, hs, hb, hl, hk => by
   obtain ⟨A, B, e1, e2, e3, e4⟩ := RZ (x := ((a + n : Nat) : Int)) (sbM p q a n) Nk
   have hAB : A.length + B.length = n := by have := jY (p := p) (q := q) (a := a) (n := n); rw [e1, List.length_append] at this; exact this
   have eD : pre ++ sbM p q a n ++ idM (a + n) (m + 1) ++ post = pre ++ A ++ B ++ ((a + n : Nat) : Int) :: (idM (a + n + 1) m ++ post) := by
    rw [e1, ahd]; simp
   have hsm : SmM (pre ++ A ++ B ++ ((a + n : Nat) : Int) :: (idM (a + n + 1) m ++ post)) := fun z hz => by
    rw [← eD] at hz
    simp only [List.mem_append] at hz
    rcases hz with ((h | h) | h) | h
    ·exact hs z (List.mem_append_left _ h)
    ·have := oQ.1 h; omega
    ·have := abm.1 h; omega
    ·exact hs z (List.mem_append_right _ h)
   have h4 := agP hr (fun a3 b_7 i2 _ data3 b_8 b_9 => aj k a3 b_7 (w64 (i2 + 1)) data3 b_8 b_9 b0 r0) r0 pre A ((a + n : Nat) : Int) (b : Int) ((a + n : Nat) : Int) ha e3 B.length B (idM (a + n + 1) m ++ post) k (a + n) rfl e4 hsm (by rw [← eD]; exact hl) (by omega) (by omega)
   rw [aj, cZ (by omega), cond_true, eD, h4, BQ (by omega)]
   have eN : pre ++ A ++ ((a + n : Nat) : Int) :: (B ++ (idM (a + n + 1) m ++ post)) = pre ++ sbM p q a (n + 1) ++ idM (a + (n + 1)) m ++ post := by
    rw [sbM, e2]; simp [Nat.add_assoc]
   rw [eN]
   have hll : (pre ++ sbM p q a (n + 1) ++ idM (a + (n + 1)) m ++ post).length = (pre ++ sbM p q a n ++ idM (a + n) (m + 1) ++ post).length := by simp [jY, LY]; omega
   have ih := afK hr b0 r0 pre post ha m (n + 1) k (by omega) hab hs hb (by rw [hll]; exact hl) (by omega)
   rw [show n + 1 + m = n + (m + 1) by omega] at ih
   exact ih
 | _, _, 0, _, _, _, _, _, hk => by omega
theorem agy {p q : Int} (hr : RatM p q) (k : Nat) {pre post : List Int} {a m b : Nat} (ha : a = pre.length) (hb : b = a + m) (hs : SmM (pre ++ post)) (hb2 : b ≤ 1000) (hl : (pre ++ idM a m ++ post).length ≤ 2000) (hk : 5000 < k) (r : List Int → Option α) :
 ax k (pre ++ idM a m ++ post) a b p q r = r (pre ++ sbM p q a m ++ post) := by
 unfold ax
 rw [BQ (by omega)]
 cases m with
 | zero =>
   have hk1 : ∃ k', k = k' + 1 := ⟨k - 1, by omega⟩
   obtain ⟨k', rfl⟩ := hk1
   rw [aj, iZ (by omega), cond_false]
   simp [idM, sbM]
 | succ m =>
   have e0 : pre ++ idM a (m + 1) ++ post = pre ++ sbM p q a 1 ++ idM (a + 1) m ++ post := by
    simp [idM, sbM, insM]
   have hm : m ≤ 1000 := by omega
   rw [e0, afK hr _ r pre post ha m 1 k (by omega) (by omega) hs hb2 (by rw [← e0]; exact hl) (by omega), show 1 + m = m + 1 by omega]
def wM (p q : Int) (s n : Nat) : Nat → Nat → List Int
 | 0, _ => []
 | f + 1, a => if n ≤ a then [] else sbM p q a (min s (n - a)) ++ wM p q s n f (a + s)
theorem afx {p q : Int} {s n : Nat} : ∀ {f a : Nat} {z : Int}, z ∈ wM p q s n f a → (a : Int) ≤ z ∧ z < (n : Int)
 | 0, a, z, h => by simp [wM] at h
 | f + 1, a, z, h => by
   unfold wM at h
   split at h
   ·simp at h
   ·rcases List.mem_append.1 h with h | h
    ·have := oQ.1 h; omega
    ·have := afx h; omega
theorem agp {p q : Int} {s n : Nat} (hs : 0 < s) : ∀ {f a : Nat}, n - a ≤ f → (wM p q s n f a).length = n - a
 | 0, a, h => by simp [wM]; omega
 | f + 1, a, h => by
   unfold wM
   split
   ·simp; omega
   ·rw [List.length_append, jY, agp hs (by omega)]
    omega
theorem VW {p q : Int} {s n f a : Nat} (hf : n - a < f) (hs : n - a ≤ s) : wM p q s n f a = sbM p q a (n - a) := by
 cases f with
 | zero => omega
 | succ f =>
   unfold wM
   split
   ·rw [show n - a = 0 by omega]; rfl
   ·rw [Nat.min_eq_right hs]
    have : wM p q s n f (a + s) = [] := by
     cases f with
     | zero => rfl
     | succ f => unfold wM; rw [if_pos (by omega)]
    rw [this, List.append_nil]
theorem Qy {p q : Int} {s n f a : Nat} (h : a + s ≤ n) (hs : 0 < s) : wM p q s n (f + 1) a = sbM p q a s ++ wM p q s n f (a + s) := by
 conv => lhs; unfold wM
 rw [if_neg (by omega), Nat.min_eq_left (by omega)]
theorem acP {p q : Int} (hr : RatM p q) (k : Nat) {pre post : List Int} {a s t m b : Nat} (ha : a = pre.length) (hm : m = a + s) (hb : b = m + t) (hs : 0 < s) (ht : 0 < t) (hsm : SmM (pre ++ post)) (hb2 : b ≤ 1000) (hl : (pre ++ sbM p q a s ++ sbM p q m t ++ post).length ≤ 2000) (hk : 20000 < k) (r : List Int → Option α) :
 aQ k (pre ++ sbM p q a s ++ sbM p q m t ++ post) a m b p q r = r (pre ++ sbM p q a (s + t) ++ post) := by
 simp only [List.length_append, jY] at hl
 refine adh hr (s + t) (sbM p q a s) (sbM p q m t) (sbM p q a (s + t)) pre post k (by rw [jY, jY]; omega) (fun e => ?_) (fun e => ?_) Nk Nk (fun x hx y hy => ?_) Nk (fun z => ?_) (fun z hz => ?_) ?_ ?_ a m b ha ?_ ?_ r
 ·have := jY (p := p) (q := q) (a := a) (n := s); rw [e] at this; simp at this; omega
 ·have := jY (p := p) (q := q) (a := m) (n := t); rw [e] at this; simp at this; omega
 ·have := oQ.1 hx
  have := oQ.1 hy
  omega
 ·rw [oQ, oQ, oQ]
  omega
 ·simp only [List.mem_append] at hz
  rcases hz with ((h | h) | h) | h
  ·exact hsm z (List.mem_append_left _ h)
  ·have := oQ.1 h; omega
  ·have := oQ.1 h; omega
  ·exact hsm z (List.mem_append_right _ h)
 ·simp [jY]; omega
 ·omega
 ·rw [jY]; omega
 ·rw [jY]; omega
set_option maxHeartbeats 4000000 in
theorem aec {p q : Int} (hr : RatM p q) {n : Nat} (hn : n ≤ 500) (b0 : Int → Int → Int → Int → List Int → Int → Int → Option α) (r0 : List Int → Option α) (T : List Int) (z : Option α)
 (hb : ∀ (a : Nat) (P : List Int) (b' : Int), P.length = a → a ≤ n → n < a + 20 → SmM P → T = P ++ sbM p q a (n - a) → b0 n 20 a b' (P ++ idM a (n - a)) p q = z) :
 ∀ (m k a f : Nat) (P : List Int), n - a ≤ m → P.length = a → a ≤ n → SmM P → T = P ++ wM p q 20 n f a → n - a < f → 20000 + m < k →
 bW k n 20 a ((a + 20 : Nat) : Int) (P ++ idM a (n - a)) p q b0 r0 = z
 | m, k + 1, a, f, P, hm, hP, ha, hs, hT, hf, hk => by
   rw [bW]
   by_cases h : a + 20 ≤ n
   ·have e0 : P ++ idM a (n - a) = P ++ idM a 20 ++ idM (a + 20) (n - (a + 20)) := by
     rw [List.append_assoc, ← aa8, show 20 + (n - (a + 20)) = n - a by omega]
    cases f with
    | zero => omega
    | succ f =>
      cases m with
      | zero => omega
      | succ m =>
        have hsp : SmM (P ++ idM (a + 20) (n - (a + 20))) := fun z hz => by
         rcases List.mem_append.1 hz with h | h
         ·exact hs z h
         ·have := abm.1 h; omega
        have w20 : w64 (((a + 20 : Nat) : Int) + 20) = ((a + 20 + 20 : Nat) : Int) := by rw [lJ (by omega) (by omega)]; omega
        rw [gQ (by omega), cond_true, e0, agy hr k hP.symm (show a + 20 = a + 20 from rfl) hsp (by omega) (by simp [LY]; omega) (by omega), w20]
        exact aec hr hn b0 r0 T z hb m k (a + 20) f (P ++ sbM p q a 20) (by omega) (by simp [jY]; omega) h (fun z hz => by
         rcases List.mem_append.1 hz with h | h
         ·exact hs z h
         ·have := oQ.1 h; omega) (by rw [hT, Qy h (by omega), List.append_assoc]) (by omega) (by omega)
   ·rw [adA (by omega), cond_false]
    exact hb a P _ hP ha (by omega) hs (by rw [hT, VW hf (by omega)])
 | _, 0, _, _, _, _, _, _, _, _, _, hk => by omega
set_option maxHeartbeats 4000000 in
theorem aeF {p q : Int} (hr : RatM p q) {n s : Nat} (hn : n ≤ 500) (hs0 : 0 < s) (hs1 : s ≤ 500) (b4 : Int → Int → Int → Int → List Int → Int → Int → Option α) (r0 : List Int → Option α) (T : List Int) (z : Option α)
 (hb : ∀ (a : Nat) (P : List Int) (b' : Int) (f : Nat), P.length = a → a ≤ n → n < a + 2 * s → SmM P → T = P ++ sbM p q a (n - a) → n - a < f → b4 n s a b' (P ++ wM p q s n f a) p q = z) :
 ∀ (m k a f g : Nat) (P : List Int), n - a ≤ m → P.length = a → a ≤ n → SmM P → T = P ++ wM p q (2 * s) n g a → n - a < f → n - a < g → 20000 + m < k →
 bZ k n s a ((a + 2 * s : Nat) : Int) (P ++ wM p q s n f a) p q b4 r0 = z
 | m, k + 1, a, f, g, P, hm, hP, ha, hs, hT, hf, hg, hk => by
   rw [bZ]
   by_cases h : a + 2 * s ≤ n
   ·cases f with
    | zero => omega
    | succ f =>
      cases f with
      | zero => omega
      | succ f =>
        cases m with
        | zero => omega
        | succ m =>
          cases g with
          | zero => omega
          | succ g =>
            have e0 : P ++ wM p q s n (f + 1 + 1) a = P ++ sbM p q a s ++ sbM p q (a + s) s ++ wM p q s n f (a + s + s) := by
             rw [Qy (by omega) hs0, Qy (by omega) hs0]; simp
            have hsp : SmM (P ++ wM p q s n f (a + s + s)) := fun z hz => by
             rcases List.mem_append.1 hz with h | h
             ·exact hs z h
             ·have := afx h; omega
            have wl := agp (p := p) (q := q) (n := n) hs0 (f := f) (a := a + s + s) (by omega)
            have w2 : w64 (2 * (s : Int)) = ((2 * s : Nat) : Int) := by rw [lJ (by omega) (by omega)]; omega
            rw [gQ (by omega), cond_true, JW (by omega), e0, acP hr k hP.symm (show a + s = a + s from rfl) (show a + 2 * s = a + s + s by omega) hs0 hs0 hsp (by omega) (by simp [jY, wl]; omega) (by omega), w2, JW (by omega)]
            have := aeF hr hn hs0 hs1 b4 r0 T z hb m k (a + 2 * s) f g (P ++ sbM p q a (2 * s)) (by omega) (by simp [jY]; omega) h (fun z hz => by
             rcases List.mem_append.1 hz with h | h
             ·exact hs z h
             ·have := oQ.1 h; omega) (by rw [hT, Qy h (by omega), List.append_assoc]) (by omega) (by omega) (by omega)
            rw [show s + s = 2 * s by omega, show a + s + s = a + 2 * s by omega]
            exact this
   ·rw [adA (by omega), cond_false]
    exact hb a P _ f hP ha (by omega) hs (by rw [hT, VW hg (by omega)]) hf
 | _, 0, _, _, _, _, _, _, _, _, _, _, _, hk => by omega
set_option maxHeartbeats 4000000 in
theorem aep {p q : Int} (hr : RatM p q) {n : Nat} (hn : n ≤ 500) (r0 : List Int → Option α) :
 ∀ (m k s f : Nat), n - s ≤ m → 0 < s → s ≤ 1000 → n < f → 30000 + m < k →
 aK k n s (wM p q s n f 0) p q (fun _ _ data6 _ _ => r0 data6) r0 = r0 (sbM p q 0 n)
 | m, k + 1, s, f, hm, hs0, hs1, hf, hk => by
   rw [aK]
   by_cases h : s < n
   ·cases m with
    | zero => omega
    | succ m =>
      have w2 : w64 (2 * (s : Int)) = ((0 + 2 * s : Nat) : Int) := by rw [lJ (by omega) (by omega)]; omega
      have ws : w64 ((s : Int) * 2) = ((2 * s : Nat) : Int) := by rw [lJ (by omega) (by omega)]; omega
      have ih := aep hr hn r0 m k (2 * s) (n + 1) (by omega) (by omega) (by omega) (by omega) (by omega)
      have h9 := aeF (α := α) hr hn hs0 (by omega) (fun n_5 blockSize4 a3 _ data5 b_12 b_13 =>
       bif decide ((w64 (a3 + blockSize4)) < n_5) then
        aQ k data5 a3 (w64 (a3 + blockSize4)) n_5 b_12 b_13 fun v3 =>
        aK k n_5 (w64 (blockSize4 * 2)) v3 b_12 b_13 (fun _ _ data6 _ _ => r0 data6) r0
       else
        aK k n_5 (w64 (blockSize4 * 2)) data5 b_12 b_13 (fun _ _ data6 _ _ => r0 data6) r0) r0 (wM p q (2 * s) n (n + 1) 0) (r0 (sbM p q 0 n))
       (fun a P b' f' hP ha hlt hsP hT hf' => by
         rw [JW (by omega), ws]
         by_cases h2 : a + s < n
         ·rw [cZ (by omega), cond_true]
          have e0 : P ++ wM p q s n f' a = P ++ sbM p q a s ++ sbM p q (a + s) (n - (a + s)) ++ [] := by
           cases f' with
           | zero => omega
           | succ f' => rw [Qy (by omega) hs0, VW (by omega) (by omega)]; simp
          rw [e0, acP hr k hP.symm (show a + s = a + s from rfl) (show n = a + s + (n - (a + s)) by omega) hs0 (by omega) (by simpa using hsP) (by omega) (by simp [jY]; omega) (by omega), List.append_nil, show s + (n - (a + s)) = n - a by omega, ← hT]
          exact ih
         ·rw [iZ (by omega), cond_false, VW hf' (by omega), ← hT]
          exact ih)
       n k 0 f (n + 1) [] (by omega) rfl (by omega) (by simp [SmM]) rfl (by omega) (by omega) (by omega)
      simp only [Int.natCast_zero, List.nil_append] at h9
      rw [cZ (by omega), cond_true, w2]
      exact h9
   ·rw [iZ (by omega), cond_false, VW (by omega) (by omega)]
    rfl
 | _, 0, _, _, _, _, _, _, hk => by omega
theorem ag3 {p q : Int} (hr : RatM p q) {n : Nat} (hn : n ≤ 500) (k : Nat) (hk : 100000 < k) (r : List Int → Option α) : bY k (idM 0 n) p q r = r (sbM p q 0 n) := by
 unfold bY fV
 rw [LY]
 have := aec (α := α) hr hn (fun n_2 blockSize1 a1 _ data2 b_4 b_5 =>
  ax k data2 a1 n_2 b_4 b_5 fun v1 =>
  aK k n_2 blockSize1 v1 b_4 b_5 (fun _ _ data6 _ _ => r data6) r) r (wM p q 20 n (n + 1) 0) (aK k n 20 (wM p q 20 n (n + 1) 0) p q (fun _ _ data6 _ _ => r data6) r)
  (fun a P b' hP ha hlt hsP hT => by
    have e0 : P ++ idM a (n - a) = P ++ idM a (n - a) ++ [] := by simp
    rw [e0, agy hr k hP.symm (show n = a + (n - a) by omega) (by simpa using hsP) (by omega) (by simp [LY]; omega) (by omega), List.append_nil, ← hT]) n k 0 (n + 1) [] (by omega) rfl (by omega) (by simp [SmM]) rfl (by omega) (by omega)
 simp only [Int.natCast_zero, List.nil_append, Nat.sub_zero] at this
 have h7 := aep (α := α) hr hn r n k 20 (n + 1) (by omega) (by omega) (by omega) (by omega) (by omega)
 rw [← h7]
 exact this
theorem afF {p q : Int} (hr : RatM p q) (b2 : Int → Int → Int → Int → Int → Int → List Int → Option α) (r0 : List Int → Option α) (n2 k1 : Int) {x : Int} (A : List Int) (hA : ∀ y ∈ A, ¬ kyM p q x < kyM p q y) : ∀ (m : Nat) (B S : List Int) (k : Nat), B.length = m → (∀ y ∈ B, kyM p q x < kyM p q y) → SmM (A ++ B ++ S) → (A ++ B ++ S).length ≤ 2000 → m < k →
 jv k p q n2 k1 (kyM p q x) ((A.length + m : Nat) : Int) (A ++ B ++ S) b2 r0 = b2 p q n2 k1 (kyM p q x) (A.length : Int) (A ++ B ++ S)
 | 0, B, S, k + 1, hm, hB, hs, hl, hk => by
   have := List.eq_nil_of_length_eq_zero hm
   subst this
   rw [jv]
   by_cases hA0 : A = []
   ·subst hA0
    rw [iZ (by simp), cond_false]
    rfl
   ·obtain ⟨A', z, rfl⟩ : ∃ A' z, A = A' ++ [z] := ⟨A.dropLast, A.getLast hA0, by rw [List.dropLast_concat_getLast]⟩
    have hAl : (A' ++ [z]).length = A'.length + 1 := by simp
    have hlen : (A' ++ [z] ++ [] ++ S).length = A'.length + 1 + S.length := by simp; omega
    have g2 : (A' ++ [z] ++ [] ++ S)[A'.length]? = some z := by
     have : A' ++ [z] ++ [] ++ S = A' ++ z :: S := by simp
     rw [this, qx rfl]
    obtain ⟨m1, m2, m3⟩ := hr.mul (hs.at g2).1 (hs.at g2).2
    have := hr.q1
    have := hr.q2
    rw [hAl, Nat.add_zero, cZ (by omega), cond_true, Ej (by omega) (by omega), Nat.add_sub_cancel, gQ (by omega), cZ (by omega), Bool.and_self, cond_true, Int.toNat_natCast, g2, Option.bind_some, m1, Gq k _ _ _ (by omega) (by omega)]
    rw [show decide (kyM p q x < z * p % q) = false from decide_eq_false (hA z (by simp)), cond_false]
 | m + 1, B, S, k + 1, hm, hB, hs, hl, hk => by
   obtain ⟨B', z, rfl⟩ : ∃ B' z, B = B' ++ [z] := ⟨B.dropLast, B.getLast (by intro e; rw [e] at hm; cases hm), by rw [List.dropLast_concat_getLast]⟩
   have hB' : B'.length = m := by simp at hm; omega
   have hlen : (A ++ (B' ++ [z]) ++ S).length = A.length + B'.length + 1 + S.length := by simp; omega
   have g2 : (A ++ (B' ++ [z]) ++ S)[A.length + m]? = some z := by
    have : A ++ (B' ++ [z]) ++ S = (A ++ B') ++ z :: S := by simp
    rw [this, qx (by simp; omega)]
   obtain ⟨m1, m2, m3⟩ := hr.mul (hs.at g2).1 (hs.at g2).2
   have := hr.q1
   have := hr.q2
   rw [jv, cZ (by omega), cond_true, Ej (by omega) (by omega), show A.length + (m + 1) - 1 = A.length + m by omega, gQ (by omega), cZ (by omega), Bool.and_self, cond_true, Int.toNat_natCast, g2, Option.bind_some, m1, Gq k _ _ _ (by omega) (by omega)]
   rw [show decide (kyM p q x < z * p % q) = true from decide_eq_true (hB z (by simp)), cond_true]
   have e0 : A ++ (B' ++ [z]) ++ S = A ++ B' ++ ([z] ++ S) := by simp
   rw [e0]
   exact afF hr b2 r0 n2 k1 A hA m B' ([z] ++ S) k hB' (fun y hy => hB y (List.mem_append_left _ hy)) (by rw [← e0]; exact hs) (by rw [← e0]; exact hl) (by omega)
 | _, _, _, 0, _, _, _, _, hk => by omega
theorem aiZ (k : Nat) (l : List Int) (hl : l.length ≤ 100000) (r : List Int → Option α) : qQ k l r = r l := by
 unfold qQ
 rw [show decide (0 + l.length ≤ big) = true from OW (by rw [YZ]; omega), cond_true, List.nil_append]
theorem ag1 {p q : Int} (hr : RatM p q) {n : Nat} (hn : n ≤ 500) (b0 : Int → Int → Int → Int → List Int → Option α) (r0 : List Int → Option α) : ∀ (m k i : Nat), i + m = n → 2000 + m < k →
 jw k p q n i (sbM p q 0 i) b0 r0 = b0 p q n n (sbM p q 0 n)
 | 0, k + 1, i, hm, hk => by
   have : i = n := by omega
   rw [jw, this, iZ (by omega), cond_false]
 | m + 1, k + 1, i, hm, hk => by
   obtain ⟨A, B, e1, e2, e3, e4⟩ := RZ (x := (i : Int)) (sbM p q 0 i) Nk
   have hAB : A.length + B.length = i := by have := jY (p := p) (q := q) (a := 0) (n := i); rw [e1, List.length_append] at this; exact this
   have hs : SmM (A ++ B ++ []) := fun z hz => by
    rw [List.append_nil, ← e1] at hz
    have := oQ.1 hz
    omega
   obtain ⟨m1, m2, m3⟩ := hr.mul (x := (i : Int)) (by omega) (by omega)
   have := hr.q1
   have := hr.q2
   have hins : sbM p q 0 (i + 1) = A ++ (i : Int) :: B := by rw [sbM, Nat.zero_add, e2]
   rw [jw, cZ (by omega), cond_true, m1, Gq k _ _ _ (by omega) (by omega), jY]
   have h6 := afF hr (fun p_3 q_3 n_3 k_2 _ at_1 out2 =>
    bif (decide (0 ≤ at_1) && decide (at_1 ≤ (out2.length : Int))) then
     bif decide ((1 + (List.length (List.take ((List.length out2) - at_1.toNat) (List.drop at_1.toNat out2)))) ≤ big) then
      bif (decide (0 ≤ at_1) && decide (at_1 ≤ (out2.length : Int))) then
       qQ k (List.take (at_1.toNat - 0) (List.drop 0 out2)) fun v2 =>
       bif decide (((List.length v2) + (List.length ([k_2] ++ (List.take ((List.length out2) - at_1.toNat) (List.drop at_1.toNat out2))))) ≤ big) then
        jw k p_3 q_3 n_3 (w64 (k_2 + 1)) (v2 ++ ([k_2] ++ (List.take ((List.length out2) - at_1.toNat) (List.drop at_1.toNat out2)))) b0 r0
       else
        none
      else
       none
     else
      none
    else
     none) r0 (n : Int) (i : Int) A e3 B.length B [] k rfl e4 hs (by simp; omega) (by omega)
   rw [List.append_nil, ← e1, hAB] at h6
   show jv k p q n i (kyM p q i) i (sbM p q 0 i) _ r0 = _
   rw [h6]
   have hlen : (sbM p q 0 i).length = i := jY
   rw [gQ (by omega), gQ (by omega), Bool.and_self, cond_true, cond_true, Int.toNat_natCast]
   have t1 : List.take ((sbM p q 0 i).length - A.length) (List.drop A.length (sbM p q 0 i)) = B := by
    rw [hlen, e1, List.drop_append_of_le_length (Nat.le_refl _), List.drop_length, List.nil_append, List.take_of_length_le (by omega)]
   have t2 : List.take (A.length - 0) (List.drop 0 (sbM p q 0 i)) = A := by
    rw [Nat.sub_zero, List.drop_zero, e1, List.take_append_of_le_length (Nat.le_refl _), List.take_length]
   rw [t1, t2]
   rw [show decide (1 + B.length ≤ big) = true from OW (by rw [YZ]; omega), cond_true, aiZ k A (by omega), show decide (A.length + ([(i : Int)] ++ B).length ≤ big) = true from OW (by rw [YZ]; simp; omega), cond_true, BQ (by omega)]
   rw [show A ++ ([(i : Int)] ++ B) = sbM p q 0 (i + 1) by rw [hins]; rfl]
   exact ag1 hr hn b0 r0 m k (i + 1) (by omega) (by omega)
 | _, 0, _, _, hk => by omega
theorem ahN {p q : Int} (hr : RatM p q) {n : Nat} (hn : n ≤ 500) (k : Nat) (hk : 100000 < k) (r : List Int → Option α) : uj k p q n r = r (sbM p q 0 n) := by
 unfold uj
 have := ag1 (α := α) hr hn (fun _ _ _ _ out3 => r out3) r n k 0 (by omega) (by omega)
 exact this
theorem aeq {p q : Int} {n : Nat} (hn : n ≤ 500) (b0 : Int → Int → Int → Int → List Int → Option α) (r0 : List Int → Option α) : ∀ (m k i : Nat), i + m = n → m < k →
 lX k n i p q (idM 0 i) b0 r0 = b0 n n p q (idM 0 n)
 | 0, k + 1, i, hm, hk => by
   have : i = n := by omega
   rw [lX, this, iZ (by omega), cond_false]
 | m + 1, k + 1, i, hm, hk => by
   rw [lX, cZ (by omega), cond_true, LY, show decide (i + 1 ≤ big) = true from OW (by rw [YZ]; omega), cond_true, BQ (by omega)]
   have : idM 0 i ++ [(i : Int)] = idM 0 (i + 1) := by rw [aa8 i 1 0]; simp [idM]
   rw [this]
   exact aeq hn b0 r0 m k (i + 1) (by omega) (by omega)
 | _, 0, _, _, hk => by omega
theorem adD {p q : Int} (hr : RatM p q) {n : Nat} (hn : n ≤ 500) (k : Nat) (hk : 100000 < k) (r : List Int → Option α) : tY k p q n r = r (sbM p q 0 n) := by
 unfold tY
 have := aeq (α := α) (p := p) (q := q) hn (fun _ _ p_2 q_2 out1 => bY k out1 p_2 q_2 fun v => r v) r n k 0 (by omega) (by omega)
 rw [show (idM 0 0) = [] from rfl, Int.natCast_zero] at this
 rw [this]
 exact ag3 hr hn k hk _
def mid (a : Int) : Prop := -1000000000000 ≤ a ∧ a ≤ 1000000000000
def ddI : Int → List Int → List Int
 | _, [] => []
 | p, y :: r => if y = p then ddI y r else y :: ddI y r
def ddJ : List Int → List Int
 | [] => []
 | x :: r => x :: ddI x r
theorem acD (l : List Int) (hl : l.length ≤ 1000000) : ∀ (rest : List Int) (k w k0 p : Nat) (cur : List Int) (prev : Int), l.drop p = rest → 1 ≤ k0 → k0 < p → p ≤ l.length → w + 1 ≤ p → cur.length = l.length → cur.drop w = l.drop w → l[p - 1]? = some prev → rest.length < k →
 ∃ w' cur' k2, cur'.length = l.length ∧ w' ≤ l.length ∧ cur'.take w' = cur.take w ++ ddI prev rest ∧ ∀ (b : Int → Nat → Nat → Int → List Int → Option α) (r : List Int → Option α),
   dY k (w : Int) k0 (l.length - k0) ((p - k0 : Nat) : Int) cur b r = b (w' : Nat) k0 (l.length - k0) k2 cur'
 | [], k + 1, w, k0, p, cur, prev, hd, h1, hp, hpl, hw, hc, hs, hprev, _ => by
   have hlp : p = l.length := by have := aab hd; omega
   refine ⟨w, cur, ((p - k0 : Nat) : Int), hc, by omega, by simp [ddI], fun b r => ?_⟩
   rw [dY, iZ (by omega)]
   rfl
 | y :: rest, k + 1, w, k0, p, cur, prev, hd, h1, hp, hpl, hw, hc, hs, hprev, hk => by
   obtain ⟨g1, g2, g3⟩ := Uy hd
   have en : w64 (((p - k0 : Nat) : Int) + 1) = ((p + 1 - k0 : Nat) : Int) := by rw [lJ (by omega) (by omega)]; omega
   have em : w64 (((p - k0 : Nat) : Int) - 1) = ((p - 1 - k0 : Nat) : Int) := by rw [lJ (by omega) (by omega)]; omega
   have ew : w64 ((w : Int) + 1) = ((w + 1 : Nat) : Int) := by rw [lJ (by omega) (by omega)]; omega
   have m1 : ∀ q : Nat, k0 ≤ q → jq k0 (q - k0) 1 = q := fun q hq => by
    unfold jq
    have : Nat.beq k0 0 = false := by cases hb : Nat.beq k0 0 with | false => rfl | true => have := Nat.eq_of_beq_eq_true hb; omega
    rw [this, cond_false]
    omega
   have at_ : ∀ q, w ≤ q → cur[q]? = l[q]? := fun q hq => by
    have e1 : (cur.drop w)[q - w]? = (l.drop w)[q - w]? := by rw [hs]
    rw [List.getElem?_drop, List.getElem?_drop, show w + (q - w) = q by omega] at e1
    exact e1
   have hy : cur[p]? = some y := by rw [at_ p (by omega)]; exact g1
   have hp1 : cur[p - 1]? = some prev := by rw [at_ (p - 1) (by omega)]; exact hprev
   have hnext : l[p + 1 - 1]? = some y := by rw [Nat.add_sub_cancel]; exact g1
   have hwc : w < cur.length := by omega
   obtain ⟨cw, hcw⟩ : ∃ c, cur[w]? = some c := ⟨cur[w], List.getElem?_eq_getElem hwc⟩
   by_cases e : y = prev
   ·obtain ⟨w', cur', k2, i1, i2, i3, i4⟩ := acD l hl rest k w k0 (p + 1) cur y g2 h1 (by omega) (by omega) (by omega) hc hs hnext (by simp at hk; omega)
    refine ⟨w', cur', k2, i1, i2, ?_, fun b r => ?_⟩
    ·rw [i3]
     congr 1
     conv => rhs; unfold ddI
     rw [if_pos e]
    ·rw [dY, cZ (by omega), gQ (by omega), cond_true, Bool.and_self, cond_true, Int.toNat_natCast, m1 p (by omega), hy, Option.bind_some, em, gQ (by omega), cZ (by omega), Bool.and_self, cond_true, Int.toNat_natCast, m1 (p - 1) (by omega), hp1, Option.bind_some, decide_eq_true e, Bool.not_true, cond_false, en]
     exact i4 b r
   ·have hset : (cur.set w y).length = l.length := by rw [List.length_set]; exact hc
    have hdrop : (cur.set w y).drop (w + 1) = l.drop (w + 1) := by
     have e1 : (cur.drop w).drop 1 = (l.drop w).drop 1 := by rw [hs]
     rw [List.drop_drop, List.drop_drop] at e1
     rw [List.drop_set, if_pos (by omega)]
     exact e1
    obtain ⟨w', cur', k2, i1, i2, i3, i4⟩ := acD l hl rest k (w + 1) k0 (p + 1) (cur.set w y) y g2 h1 (by omega) (by omega) (by omega) hset hdrop hnext (by simp at hk; omega)
    refine ⟨w', cur', k2, i1, i2, ?_, fun b r => ?_⟩
    ·have ht : (cur.set w y).take (w + 1) = cur.take w ++ [y] := by
      have hlw : (cur.take w).length = w := by rw [List.length_take]; omega
      rw [List.take_set, List.take_add_one, hcw, List.set_append_right _ _ (by omega), hlw, Nat.sub_self]
      rfl
     rw [i3, ht, List.append_assoc]
     congr 1
     conv => rhs; unfold ddI
     rw [if_neg e]
     rfl
    ·rw [dY, cZ (by omega), gQ (by omega), cond_true, Bool.and_self, cond_true, Int.toNat_natCast, m1 p (by omega), hy, Option.bind_some, em, gQ (by omega), cZ (by omega), Bool.and_self, cond_true, Int.toNat_natCast, m1 (p - 1) (by omega), hp1, Option.bind_some, decide_eq_false e, Bool.not_false, cond_true, cond_true, Option.bind_some, Int.toNat_natCast, gQ (by omega), cZ (by omega), Bool.and_self, cond_true, hcw, Option.bind_some, en, ew]
     exact i4 b r
 | _, 0, _, _, _, _, _, _, _, _, _, _, _, _, _, hk => by omega
theorem agH (l : List Int) (hl : l.length ≤ 1000000) (r : List Int → Option α) : ∀ (rest : List Int) (k p : Nat) (prev : Int), l.drop p = rest → 1 ≤ p → p ≤ l.length → l[p - 1]? = some prev → 2 * rest.length + 2 < k →
 fZ k (p : Int) l (fun _ s => r s) r = r (l.take p ++ ddI prev rest)
 | [], k + 1, p, prev, hd, h1, hpl, hprev, _ => by
   have hlp : p = l.length := by have := aab hd; omega
   rw [fZ, iZ (by omega), cond_false]
   simp [ddI, hlp]
 | y :: rest, k + 1, p, prev, hd, h1, hpl, hprev, hk => by
   obtain ⟨g1, g2, g3⟩ := Uy hd
   have en : w64 ((p : Int) + 1) = ((p + 1 : Nat) : Int) := by rw [lJ (by omega) (by omega)]; omega
   have em : w64 ((p : Int) - 1) = ((p - 1 : Nat) : Int) := by rw [lJ (by omega) (by omega)]; omega
   have hnext : l[p + 1 - 1]? = some y := by rw [Nat.add_sub_cancel]; exact g1
   have ht : l.take (p + 1) = l.take p ++ [y] := by
    rw [List.take_add_one, g1]
    rfl
   rw [fZ, cZ (by omega), gQ (by omega), cond_true, Bool.and_self, cond_true, Int.toNat_natCast, g1, Option.bind_some, em, gQ (by omega), cZ (by omega), Bool.and_self, cond_true, Int.toNat_natCast, hprev, Option.bind_some]
   by_cases e : y = prev
   ·rw [decide_eq_true e, cond_true, gQ (show ((p : Nat) : Int) ≤ (l.length : Nat) by omega), Bool.and_self, cond_true]
    obtain ⟨w', cur', k2, i1, i2, i3, i4⟩ := acD (α := α) l hl rest k p p (p + 1) l y g2 h1 (by omega) (by omega) (by omega) rfl rfl hnext (by simp at hk; omega)
    have i5 := fun b r => i4 b r
    rw [show ((p + 1 - p : Nat) : Int) = 1 by omega] at i5
    rw [i5, gQ (by omega), gQ (by omega), Bool.and_self, cond_true, Int.toNat_natCast]
    have hlen : ((cur'.take w' ++ List.replicate (cur'.length - w') (0 : Int)) ++ cur'.drop (w' + (cur'.length - w'))).length = cur'.length := by simp; omega
    rw [hlen, gQ (by omega), Bool.and_self, cond_true]
    have htk : ((cur'.take w' ++ List.replicate (cur'.length - w') (0 : Int)) ++ cur'.drop (w' + (cur'.length - w'))).take (w' - 0) = cur'.take w' := by
     rw [Nat.sub_zero, List.append_assoc, List.take_append_of_le_length (by simp; omega), List.take_take, Nat.min_self]
    rw [htk, i3]
    congr 2
    conv => rhs; unfold ddI
    rw [if_pos e]
   ·rw [decide_eq_false e, cond_false, en, agH l hl r rest k (p + 1) y g2 (by omega) (by omega) hnext (by simp at hk; omega), ht, List.append_assoc]
    congr 2
    conv => rhs; unfold ddI
    rw [if_neg e]
    rfl
 | _, 0, _, _, _, _, _, _, hk => by omega
theorem adV (k : Nat) {l : List Int} (hl : l.length ≤ 1000000) (hk : 2000010 < k) (r : List Int → Option α) : jV k l r = r (ddJ l) := by
 unfold jV
 match l with
 | [] => rfl
 | [x] => rfl
 | x :: y :: t =>
   rw [iZ (by simp; omega), cond_false]
   have := agH (α := α) (x :: y :: t) hl r (y :: t) k 1 x rfl (by omega) (by simp) rfl (by simp only [List.length_cons] at hl ⊢; omega)
   simpa [ddJ] using this
theorem afy (B : Int → List Int → List Int → Option α) (r : Bool → Option α) (a b : List Int) (hl : a.length ≤ 1000000) (hab : a.length = b.length) : ∀ (rest : List Int) (k i : Nat), a.drop i = rest → rest.length < k → i ≤ a.length →
 (a.drop i = b.drop i → jZ k (i : Int) a b B r = B (a.length : Nat) a b) ∧ (a.drop i ≠ b.drop i → jZ k (i : Int) a b B r = r false)
 | [], k + 1, i, hd, _, hi => by
   have hla := aab hd
   have e : i = a.length := by omega
   subst e
   have hb : b.drop a.length = [] := List.drop_eq_nil_iff.2 (by omega)
   refine ⟨fun _ => ?_, fun h => absurd (by rw [hd, hb]) h⟩
   rw [jZ, iZ (by omega), cond_false]
 | x :: rest, k + 1, i, hd, hk, hi => by
   obtain ⟨g1, g2, g3⟩ := Uy hd
   obtain ⟨y, hy⟩ : ∃ y, b[i]? = some y := ⟨b[i], List.getElem?_eq_getElem (by omega)⟩
   have hbd : b.drop i = y :: b.drop (i + 1) := by
    rw [List.drop_eq_getElem_cons (by omega)]
    have : b[i] = y := by rw [List.getElem?_eq_getElem (by omega)] at hy; exact Option.some.inj hy
    rw [this]
   have en : w64 ((i : Int) + 1) = ((i + 1 : Nat) : Int) := by rw [lJ (by omega) (by omega)]; omega
   have ih := afy B r a b hl hab rest k (i + 1) g2 (by simp at hk; omega) (by omega)
   have main : jZ (k + 1) (i : Int) a b B r = bif (!decide (x = y)) then r false else jZ k ((i + 1 : Nat) : Int) a b B r := by
    rw [jZ, cZ (by omega), gQ (by omega), cond_true, Bool.and_self, cond_true, Int.toNat_natCast, g1, Option.bind_some, cZ (by omega), Bool.and_self, cond_true, hy, Option.bind_some, en]
   rw [main, hd, hbd]
   by_cases e : x = y
   ·subst e
    rw [decide_eq_true rfl, Bool.not_true, cond_false]
    refine ⟨fun h => ih.1 ?_, fun h => ih.2 ?_⟩
    ·rw [g2]
     exact (List.cons.inj h).2
    ·rw [g2]
     intro e
     exact h (by rw [e])
   ·rw [decide_eq_false e, Bool.not_false, cond_true]
    exact ⟨fun h => absurd (List.cons.inj h).1 e, fun _ => rfl⟩
 | _, 0, _, _, hk, _ => by omega
theorem ajr (k : Nat) (a b : List Int) (hl : a.length ≤ 1000000) (hk : 1000010 < k) (r : Bool → Option α) : uz k a b r = r (decide (a = b)) := by
 unfold uz
 by_cases h : a.length = b.length
 ·rw [decide_eq_true (show ((a.length : Nat) : Int) = (b.length : Nat) by omega), Bool.not_true, cond_false]
  have := afy (fun _ _ _ => r true) r a b hl h a k 0 rfl (by omega) (by omega)
  have h0 : ((0 : Nat) : Int) = 0 := rfl
  rw [h0, List.drop_zero, List.drop_zero] at this
  by_cases e : a = b
  ·rw [this.1 e, decide_eq_true e]
  ·rw [this.2 e, decide_eq_false e]
 ·rw [decide_eq_false (show ¬ ((a.length : Nat) : Int) = (b.length : Nat) by omega), Bool.not_false, cond_true, decide_eq_false]
  intro e
  exact h (by rw [e])
theorem akp (k : Nat) (hk : 10 < k) (x y m : Int) (hm : 0 ≤ m) (hm1 : m ≤ 1000000) (r : Int → List Int → Option α) : rY k [x, y] m r = r (m + 2) [m, m + 1] := by
 obtain ⟨k, rfl⟩ : ∃ j, k = j + 3 := ⟨k - 3, by omega⟩
 have w1 : w64 (m + 1) = m + 1 := lJ (by omega) (by omega)
 have w2 : w64 (m + 1 + 1) = m + 1 + 1 := lJ (by omega) (by omega)
 unfold rY
 rw [kY, show decide ((0 : Int) < (([x, y].length : Nat) : Int)) = true from rfl, cond_true, show (decide ((0 : Int) ≤ 0) && true) = true from rfl, cond_true, show [x, y][Int.toNat 0]? = some x from rfl, Option.bind_some, w1, show w64 (0 + 1) = 1 from rfl, show [x, y].set (Int.toNat 0) m = [m, y] from rfl]
 rw [kY, show decide ((1 : Int) < (([m, y].length : Nat) : Int)) = true from rfl, cond_true, show (decide ((0 : Int) ≤ 1) && true) = true from rfl, cond_true, show [m, y][Int.toNat 1]? = some y from rfl, Option.bind_some, w2, show w64 (1 + 1) = 2 from rfl, show [m, y].set (Int.toNat 1) (m + 1) = [m, m + 1] from rfl]
 rw [kY, show decide ((2 : Int) < (([m, m + 1].length : Nat) : Int)) = false from rfl, cond_false]
 show r (m + 1 + 1) [m, m + 1] = _
 rw [show m + 1 + 1 = m + 2 by omega]
theorem aks (k : Nat) (hk : 10 < k) (m : Int) (hm : 0 ≤ m) (hm1 : m ≤ 1000000) (r : Int → Option α) : rV k [m, m + 1] m r = r (m + 2) := by
 obtain ⟨k, rfl⟩ : ∃ j, k = j + 3 := ⟨k - 3, by omega⟩
 have w1 : w64 (m + 1) = m + 1 := lJ (by omega) (by omega)
 have w2 : w64 (m + 1 + 1) = m + 1 + 1 := lJ (by omega) (by omega)
 unfold rV
 rw [iy]
 show (bif !decide (m = m) then r (-1) else iy (k + 2) (w64 (m + 1)) (w64 (0 + 1)) [m, m + 1] _ _) = _
 rw [decide_eq_true rfl, Bool.not_true, cond_false, w1, show w64 (0 + 1) = 1 from rfl, iy]
 show (bif !decide (m + 1 = m + 1) then r (-1) else iy (k + 1) (w64 (m + 1 + 1)) (w64 (1 + 1)) [m, m + 1] _ _) = _
 rw [decide_eq_true rfl, Bool.not_true, cond_false, w2, show w64 (1 + 1) = 2 from rfl, iy]
 show r (m + 1 + 1) = _
 rw [show m + 1 + 1 = m + 2 by omega]
def cmp2 (a b c d : Int) : Int := if a < c then -1 else if c < a then 1 else if b < d then -1 else if d < b then 1 else 0
theorem aek (k : Nat) (x y : Int) (r : Int → Option α) : gq k x y r = r (if x < y then -1 else if y < x then 1 else 0) := by
 unfold gq oz
 simp only [decide_true, Bool.not_true, cond_false]
 by_cases c1 : x < y
 ·rw [if_pos c1, decide_eq_true c1, cond_true]
 ·rw [if_neg c1, decide_eq_false c1, cond_false]
  by_cases c2 : y < x
  ·rw [if_pos c2, decide_eq_true c2, cond_true]
  ·rw [if_neg c2, decide_eq_false c2, cond_false]
theorem ahM (k : Nat) (hk : 10 < k) (a b c d : Int) (r : Int → Option α) : jK k [a, b] [c, d] r = r (cmp2 a b c d) := by
 obtain ⟨k, rfl⟩ : ∃ j, k = j + 3 := ⟨k - 3, by omega⟩
 unfold jK cmp2
 rw [dK]
 show (gq (k + 2) a c fun v => bif !decide (v = 0) then r v else dK (k + 2) 2 (w64 (0 + 1)) [a, b] [c, d] _ _) = _
 rw [aek]
 by_cases c1 : a < c
 ·rw [if_pos c1, if_pos c1]; rfl
 ·rw [if_neg c1, if_neg c1]
  by_cases c2 : c < a
  ·rw [if_pos c2, if_pos c2]; rfl
  ·rw [if_neg c2, if_neg c2]
   rw [show (!decide ((0 : Int) = 0)) = false from rfl, cond_false, show w64 (0 + 1) = 1 from rfl, dK]
   show (gq (k + 1) b d fun v => bif !decide (v = 0) then r v else dK (k + 1) 2 (w64 (1 + 1)) [a, b] [c, d] _ _) = _
   rw [aek]
   by_cases c3 : b < d
   ·rw [if_pos c3]; rfl
   ·rw [if_neg c3]
    by_cases c4 : d < b
    ·rw [if_pos c4]; rfl
    ·rw [if_neg c4]
     rw [show (!decide ((0 : Int) = 0)) = false from rfl, cond_false, show w64 (1 + 1) = 2 from rfl, dK]
     rfl
end Go.Sh
