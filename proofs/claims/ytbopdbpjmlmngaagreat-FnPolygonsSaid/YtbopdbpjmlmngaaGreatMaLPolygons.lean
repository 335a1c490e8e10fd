/- Plain laws: what the readings without memory answer. -/
import Derived.Test.YtbopdbpjmlmngaaGreatMap0LPolygons
namespace Go.Sh
open Go Go.Ev
variable {α : Type}
theorem FP.succ {β : Type} {R : β → β → Prop} {x y : β} : ∀ {l : List β}, FP R (l ++ [y]) → x ∈ l → ∃ z, R x z ∧ z ∈ l ++ [y]
 | [a], h, k => by
   simp at k
   subst k
   exact ⟨y, h.1, by simp⟩
 | a :: b :: l, h, k => by
   rcases List.mem_cons.1 k with rfl | k
   ·exact ⟨b, h.1, by simp⟩
   ·obtain ⟨z, h1, h2⟩ := FP.succ (l := b :: l) h.2 k
    exact ⟨z, h1, List.mem_cons_of_mem _ h2⟩
theorem FP.pairwise {β : Type} {R : β → β → Prop} (ht : ∀ a b c, R a b → R b c → R a c) : ∀ {l : List β}, FP R l → l.Pairwise R
 | [], _ => List.Pairwise.nil
 | [_], _ => by simp
 | a :: b :: l, h => by
   have ih := FP.pairwise ht h.2
   refine List.pairwise_cons.2 ⟨fun z hz => ?_, ih⟩
   rcases List.mem_cons.1 hz with rfl | hz
   ·exact h.1
   ·exact ht _ _ _ h.1 ((List.pairwise_cons.1 ih).1 z hz)
structure Ed (S : Int × Int → Prop) (a q : Int × Int) : Prop where
 ma : S a
 mq : S q
 ne : q ≠ a
 left : ∀ r, S r → EdL a q r
theorem Cj.path {S : Int × Int → Prop} : ∀ {st : List (Int × Int)}, Cj S st → FP (fun a b => ltP a b ∧ Ed S a b) st.reverse
 | [], h => h.elim
 | [_], _ => trivial
 | b :: a :: r, h => by
   have ih := Cj.path h.2.2.2.2
   rw [List.reverse_cons] at ih
   rw [List.reverse_cons, List.reverse_cons]
   refine FP.snoc ih ⟨h.2.1, h.2.2.2.2.in, h.1, fun e => ?_, h.2.2.1⟩
   subst e
   exact TQ h.2.1
theorem Cj.mem {S : Int × Int → Prop} : ∀ {st : List (Int × Int)}, Cj S st → ∀ x ∈ st, S x
 | [], h, _, _ => h.elim
 | [a], h, x, hx => by
   simp at hx
   subst hx
   exact h.1
 | b :: a :: r, h, x, hx => by
   rcases List.mem_cons.1 hx with rfl | hx
   ·exact h.1
   ·exact Cj.mem h.2.2.2.2 x hx
def ngP (a : Int × Int) : Int × Int := (-a.1, -a.2)
theorem auq (a : Int × Int) : ngP (ngP a) = a := by simp [ngP]
theorem ajk {a b : Int × Int} (h : ngP a = ngP b) : a = b := by rw [← auq a, h, auq]
theorem ayQ (a b c : Int × Int) : o3 (ngP a) (ngP b) (ngP c) = o3 a b c := by
 unfold o3 ngP
 grind
theorem apC {a b : Int × Int} : ltP (ngP a) (ngP b) ↔ ltP b a := by
 simp only [aeb, ngP]
 omega
theorem aBM {a q r : Int × Int} (h : EdL (ngP a) (ngP q) (ngP r)) : EdL a q r := by
 unfold EdL at h ⊢
 rw [ayQ] at h
 refine ⟨h.1, fun e => ?_⟩
 have := h.2 e
 unfold Seg ngP at this
 unfold Seg
 have e1 : (-r.1 - -a.1) * (-q.1 - -r.1) = (r.1 - a.1) * (q.1 - r.1) := by grind
 have e2 : (-r.2 - -a.2) * (-q.2 - -r.2) = (r.2 - a.2) * (q.2 - r.2) := by grind
 simp only [e1, e2] at this
 exact this
theorem arv (c : Int × Int) : ∀ st : List (Int × Int), popH (ngP c) (st.map ngP) = (popH c st).map ngP
 | [] => rfl
 | [_] => rfl
 | b :: a :: r => by
   simp only [List.map_cons, popH, ayQ]
   split
   ·exact arv c (a :: r)
   ·rfl
theorem amZ : ∀ (l st : List (Int × Int)), vY (st.map ngP) (l.map ngP) = (vY st l).map ngP
 | [], st => rfl
 | c :: l, st => by
   rw [List.map_cons, vY, vY, arv, ← List.map_cons, amZ l]
theorem Cj.back {l : List (Int × Int)} {st : List (Int × Int)} (h : Cj (· ∈ l.map ngP) (st.map ngP)) : FP (fun a b => ltP b a ∧ Ed (· ∈ l) a b) st.reverse := by
 have hp := h.path
 rw [← List.map_reverse] at hp
 have key : ∀ m : List (Int × Int), FP (fun a b => ltP a b ∧ Ed (· ∈ l.map ngP) a b) (m.map ngP) → FP (fun a b => ltP b a ∧ Ed (· ∈ l) a b) m := by
  intro m
  induction m with
  | nil => intro _; trivial
  | cons x m ih =>
    cases m with
    | nil => intro _; trivial
    | cons y m =>
      intro h
      obtain ⟨⟨h1, h2⟩, h3⟩ := h
      have hm : ∀ z, ngP z ∈ l.map ngP → z ∈ l := fun z hz => by
       obtain ⟨u, hu, e⟩ := List.mem_map.1 hz
       exact ajk e ▸ hu
      exact ⟨⟨apC.1 h1, hm _ h2.ma, hm _ h2.mq, fun e => h2.ne (by rw [e]), fun r hr => aBM (h2.left (ngP r) (List.mem_map.2 ⟨r, hr, rfl⟩))⟩, ih h3⟩
 exact key _ hp
theorem Ed.uniq {S : Int × Int → Prop} {a q q' : Int × Int} (h : Ed S a q) (k : Ed S a q') : q = q' := by
 have h1 := h.left q' k.mq
 have h2 := k.left q h.mq
 unfold EdL at h1 h2
 have e : o3 a q' q = -(o3 a q q') := by rw [EX, EX]; grind
 have z : o3 a q q' = 0 := by omega
 have s1 := h1.2 z
 have s2 := h2.2 (by omega)
 unfold Seg at s1 s2
 have sq : ∀ x y c : Int, 0 ≤ (y - c) * (x - y) → 0 ≤ (x - c) * (y - x) → x = y := by
  intro x y c g1 g2
  have : (y - c) * (x - y) + (x - c) * (y - x) = -((x - y) * (x - y)) := by grind
  rcases Int.lt_or_le (x - y) 0 with h | h
  ·have := Int.mul_pos_of_neg_of_neg h h
   omega
  ·rcases Int.lt_or_le 0 (x - y) with h' | h'
   ·have := Int.mul_pos h' h'
    omega
   ·omega
 exact Prod.ext (sq _ _ _ s1.1 s2.1) (sq _ _ _ s1.2 s2.2)
theorem auU {a b : Int × Int} {l : List (Int × Int)} (h : (a :: b :: l).Pairwise ltP) :
 ∃ rest, (vY [] (a :: b :: l)).tail.reverse ++ (vY [] (a :: b :: l).reverse).tail.reverse = a :: rest ∧ rest ≠ [] ∧ FP (Ed (· ∈ a :: b :: l)) (a :: rest ++ [a]) ∧ (a :: rest).Nodup ∧ ∀ x ∈ a :: rest, x ∈ a :: b :: l := by
 generalize hs : a :: b :: l = s at h ⊢
 have hne : s ≠ [] := by rw [← hs]; simp
 obtain ⟨lo1, lo2⟩ := amA (a := a) (l := b :: l) (by rw [hs]; exact h)
 rw [hs] at lo1 lo2
 have hrev : (s.reverse.map ngP).Pairwise ltP := by
  rw [List.pairwise_map]
  exact (List.pairwise_reverse.2 h).imp fun {x y} k => apC.2 k
 obtain ⟨z, m, hz⟩ : ∃ z m, s.reverse = z :: m := by
  cases e : s.reverse with
  | nil => simp at e; exact absurd e hne
  | cons z m => exact ⟨z, m, rfl⟩
 have hup := amA (a := ngP z) (l := m.map ngP) (by rw [← List.map_cons, ← hz]; exact hrev)
 rw [← List.map_cons, ← hz] at hup
 have hcm := amZ s.reverse []
 rw [List.map_nil] at hcm
 rw [hcm] at hup
 obtain ⟨up1, up2⟩ := hup
 generalize hL : vY [] s = L at lo1 lo2 ⊢
 generalize hU : vY [] s.reverse = U at up1 up2 ⊢
 have pl := lo1.path
 have pu0 := up1.back
 have pu : FP (fun a b => ltP b a ∧ Ed (· ∈ s) a b) U.reverse := pu0.mono fun x y k => ⟨k.1, ⟨by simpa using k.2.ma, by simpa using k.2.mq, k.2.ne, fun r hr => k.2.left r (by simpa using hr)⟩⟩
 obtain ⟨c, L0, rfl⟩ : ∃ c L0, L = c :: L0 := by
  cases L with
  | nil => exact lo1.elim
  | cons c L0 => exact ⟨c, L0, rfl⟩
 obtain ⟨d, U0, rfl⟩ : ∃ d U0, U = d :: U0 := by
  cases U with
  | nil => exact up1.elim
  | cons d U0 => exact ⟨d, U0, rfl⟩
 have hc : s.getLast? = some c := by rw [← lo2]; rfl
 have hd : d = a := by
  have : ((d :: U0).map ngP).head? = (s.reverse.map ngP).getLast? := up2
  rw [List.map_cons, List.head?_cons, List.getLast?_map, List.getLast?_reverse, ← hs] at this
  simp at this
  exact ajk this
 subst hd
 obtain ⟨x1, e1, m1, g1⟩ := lo1.last
 have hx1 : x1 = d := by
  rcases g1 d (by rw [← hs]; simp) with k | k
  ·exact k.symm
  ·rw [← hs] at m1 h
   rcases List.mem_cons.1 m1 with e | e
   ·exact e
   ·exact absurd (JV k ((List.pairwise_cons.1 h).1 _ e)) TQ
 subst hx1
 obtain ⟨x2, e2, m2, g2⟩ := up1.last
 have hcmem : c ∈ s := List.mem_of_getLast? hc
 have hx2 : x2 = ngP c := by
  rcases g2 (ngP c) (List.mem_map.2 ⟨c, by simpa using hcmem, rfl⟩) with k | k
  ·exact k.symm
  ·obtain ⟨u, hu, rfl⟩ := List.mem_map.1 m2
   have hu : u ∈ s := by simpa using hu
   have k := apC.1 k
   have hl : s = s.dropLast ++ [c] := by
    obtain ⟨ys, hy⟩ := List.getLast?_eq_some_iff.1 hc
    rw [hy]; simp
   rw [hl] at hu h
   rcases List.mem_append.1 hu with e | e
   ·exact absurd (JV k ((List.pairwise_append.1 h).2.2 u e c (by simp))) TQ
   ·simp at e
    rw [e]
 simp only [List.tail_cons]
 have hab : x1 ≠ c := by
  intro e
  have : b ∈ s := by rw [← hs]; simp
  have k1 : ltP x1 b := by rw [← hs] at h; exact (List.pairwise_cons.1 h).1 b (by simp)
  have hl : s = s.dropLast ++ [c] := by
   obtain ⟨ys, hy⟩ := List.getLast?_eq_some_iff.1 hc
   rw [hy]; simp
  rw [hl] at this h
  rcases List.mem_append.1 this with g | g
  ·exact absurd (JV k1 (e ▸ (List.pairwise_append.1 h).2.2 b g c (by simp))) TQ
  ·simp at g
   subst g
   exact absurd (e ▸ k1) TQ
 rw [List.reverse_cons] at pl pu
 obtain ⟨M, hM⟩ : ∃ M, L0.reverse = x1 :: M := by
  cases L0 with
  | nil => simp at e1; exact absurd e1.symm hab
  | cons y L1 =>
    rw [List.getLast?_cons_cons] at e1
    obtain ⟨ys, hy⟩ := List.getLast?_eq_some_iff.1 e1
    exact ⟨ys.reverse, by rw [hy]; simp⟩
 obtain ⟨N, hN⟩ : ∃ N, U0.reverse = c :: N := by
  cases U0 with
  | nil =>
    simp at e2
    rw [hx2] at e2
    exact absurd (ajk e2) hab
  | cons y U1 =>
    rw [List.map_cons, List.map_cons, List.getLast?_cons_cons, ← List.map_cons, List.getLast?_map, Option.map_eq_some_iff] at e2
    obtain ⟨w, e2, e3⟩ := e2
    rw [hx2] at e3
    have e3 := ajk e3
    subst e3
    obtain ⟨ys, hy⟩ := List.getLast?_eq_some_iff.1 e2
    exact ⟨ys.reverse, by rw [hy]; simp⟩
 rw [hM] at pl ⊢
 rw [hN] at pu ⊢
 have pE : FP (Ed (· ∈ s)) ((x1 :: M) ++ c :: (N ++ [x1])) := FP.join (pl.mono fun _ _ k => k.2) (pu.mono fun _ _ k => k.2)
 refine ⟨M ++ c :: N, by simp, by simp, ?_, ?_, ?_⟩
 ·simpa using pE
 ·have w1 : ((x1 :: M) ++ [c]).Pairwise ltP := FP.pairwise (R := ltP) (fun _ _ _ => JV) (pl.mono fun _ _ k => k.1)
  have w2 : ((c :: N) ++ [x1]).Pairwise (fun x y => ltP y x) := FP.pairwise (R := fun x y => ltP y x) (fun _ _ _ k k' => JV k' k) (pu.mono fun _ _ k => k.1)
  have n1 : (x1 :: M).Nodup := List.nodup_iff_pairwise_ne.2 ((List.pairwise_append.1 w1).1.imp fun {x y} k e => by subst e; exact TQ k)
  have n2 : (c :: N).Nodup := List.nodup_iff_pairwise_ne.2 ((List.pairwise_append.1 w2).1.imp fun {x y} k e => by subst e; exact TQ k)
  have : x1 :: (M ++ c :: N) = (x1 :: M) ++ (c :: N) := by simp
  rw [this]
  refine List.nodup_append.2 ⟨n1, n2, fun x hx y hy e => ?_⟩
  subst e
  obtain ⟨u, hu, _⟩ := pl.succ hx
  obtain ⟨v, hv, _⟩ := pu.succ hy
  have := hu.2.uniq hv.2
  subst this
  exact TQ (JV hu.1 hv.1)
 ·intro x hx
  have hm : ∀ {ll : List (Int × Int)} {y : Int × Int}, FP (Ed (· ∈ s)) (ll ++ [y]) → ∀ x ∈ ll, x ∈ s := by
   intro ll y hf x hx
   obtain ⟨z, hz, _⟩ := hf.succ hx
   exact hz.ma
  exact hm (ll := x1 :: (M ++ c :: N)) (y := x1) (by simpa using pE) x hx
theorem amE {x y : Int × Int} (h1 : oK x y = false) (h2 : oK y x = false) : x = y := amG (by simp [h1]) (by simp [h2])
theorem arc {l : List (Int × Int)} (hl : l.length ≤ 4000) : ∀ (m k i : Nat) (b r : List (Int × Int) → Option α), m + 2 * i = l.length → m < k →
 kV k i ((l.length : Int) - 1 - i) (revI l i) (fun _ _ s => b s) r = b l.reverse
 | 0, k + 1, i, b, r, hm, hk => by
   rw [kV, rZ, iW (by omega)]
   simp only [cond_false]
   congr 1
   apply Zw (by simp [GZ])
   intro t ht
   rw [GZ] at ht
   rw [Kq l i ht, Sz ht, if_pos (by omega)]
 | 1, k + 1, i, b, r, hm, hk => by
   rw [kV, rZ, iW (by omega)]
   simp only [cond_false]
   congr 1
   apply Zw (by simp [GZ])
   intro t ht
   rw [GZ] at ht
   rw [Kq l i ht, Sz ht]
   split
   ·rfl
   ·have : t = i := by omega
    subst this
    congr 1
    omega
 | m + 2, k + 1, i, b, r, hm, hk => by
   have ej : (l.length : Int) - 1 - i = ((l.length - 1 - i : Nat) : Int) := by omega
   have en : w64 ((i : Int) + 1) = ((i + 1 : Nat) : Int) := by rw [aK (by omega) (by omega)]; omega
   have ep : w64 (((l.length - 1 - i : Nat) : Int) - 1) = (l.length : Int) - 1 - ((i + 1 : Nat) : Int) := by rw [aK (by omega) (by omega)]; omega
   have hrl := GZ l i
   rw [ej, kV, rZ, dY (by omega), hrl, gW (by omega), dY (by omega), gW (by omega), dY (by omega)]
   simp only [Bool.and_self, cond_true, Int.toNat_natCast]
   rw [uz (l := revI l i) (i := l.length - 1 - i) (by rw [hrl]; omega), uz (l := revI l i) (i := i) (by rw [hrl]; omega)]
   simp only [Option.bind_some]
   have hlt : ((l.length - 1 - i : Nat) : Int) < (l.length : Int) := by omega
   simp only [List.length_set, hrl, hlt, decide_true, Bool.and_self, cond_true]
   rw [uz (l := (revI l i).set i _) (by rw [List.length_set, hrl]; omega)]
   simp only [Option.bind_some, Bool.and_self, cond_true]
   rw [en, ep]
   have he : ((revI l i).set i ((gP (revI l i) (l.length - 1 - i)).1, (gP (revI l i) (l.length - 1 - i)).2)).set (l.length - 1 - i) ((gP (revI l i) i).1, (gP (revI l i) i).2) = revI l (i + 1) := by
    apply Zw (by simp [GZ])
    intro t ht
    simp only [List.length_set, hrl] at ht
    rw [alf _ (by rw [List.length_set, hrl]; omega), alf _ (by rw [hrl]; omega), Kq l (i + 1) ht]
    by_cases h1 : t = l.length - 1 - i
    ·rw [if_pos h1, if_pos (by omega), Kq l i (by omega), if_neg (by omega)]
     rw [h1, show l.length - 1 - (l.length - 1 - i) = i by omega]
    ·rw [if_neg h1]
     by_cases h2 : t = i
     ·rw [if_pos h2, if_pos (by omega), Kq l i (by omega), if_neg (by omega), h2]
     ·rw [if_neg h2, Kq l i ht]
      by_cases h3 : t < i ∨ l.length ≤ t + i
      ·rw [if_pos h3, if_pos (by omega)]
      ·rw [if_neg h3, if_neg (by omega)]
   rw [he]
   exact arc hl m k (i + 1) b r (by omega) (by omega)
 | _, 0, _, _, _, _, hk => by omega
theorem ajU (k : Nat) {l : List (Int × Int)} (hl : l.length ≤ 4000) (hk : 4001 < k) (r : List (Int × Int) → Option α) : pq k l r = r l.reverse := by
 unfold pq Dq
 have h0 : revI l 0 = l := by
  apply Zw (GZ l 0)
  intro t ht
  rw [GZ] at ht
  rw [Kq l 0 ht, if_neg (by omega)]
 have := arc (α := α) hl l.length k 0 r r (by omega) (by omega)
 rw [h0] at this
 simp only [Int.natCast_zero, Int.sub_zero] at this
 rw [aK (by omega) (by omega)]
 exact this
def ddRP : (Int × Int) → List (Int × Int) → List (Int × Int)
 | _, [] => []
 | p, y :: r => if y = p then ddRP y r else y :: ddRP y r
def ddSP : List (Int × Int) → List (Int × Int)
 | [] => []
 | x :: r => x :: ddRP x r
theorem anY : ∀ (p : Int × Int) (l : List (Int × Int)) (z : Int × Int), z = p ∨ z ∈ ddRP p l ↔ z = p ∨ z ∈ l
 | p, [], z => by simp [ddRP]
 | p, y :: r, z => by
   have ih := anY y r z
   unfold ddRP
   by_cases h : y = p
   ·rw [if_pos h]
    subst h
    rw [ih]
    simp
   ·rw [if_neg h]
    simp only [List.mem_cons]
    constructor
    ·rintro (h | h | h)
     ·exact .inl h
     ·exact .inr (.inl h)
     ·rcases ih.1 (.inr h) with h | h
      ·exact .inr (.inl h)
      ·exact .inr (.inr h)
    ·rintro (h | h | h)
     ·exact .inl h
     ·exact .inr (.inl h)
     ·rcases ih.2 (.inr h) with h | h
      ·exact .inr (.inl h)
      ·exact .inr (.inr h)
theorem aoY (l : List (Int × Int)) (z : Int × Int) : z ∈ ddSP l ↔ z ∈ l := by
 cases l with
 | nil => simp [ddSP]
 | cons x r =>
   unfold ddSP
   simp only [List.mem_cons]
   exact anY x r z
theorem aps : ∀ (p : Int × Int) (l : List (Int × Int)), (p :: l).Pairwise (fun x y => oK y x = false) → (p :: ddRP p l).Pairwise fun x y => oK x y = true
 | p, [], _ => by simp [ddRP]
 | p, y :: r, h => by
   have h1 := List.pairwise_cons.1 h
   have h2 := List.pairwise_cons.1 h1.2
   have ih := aps y r h1.2
   unfold ddRP
   by_cases e : y = p
   ·rw [if_pos e]
    subst e
    exact ih
   ·rw [if_neg e]
    refine List.pairwise_cons.2 ⟨fun z hz => ?_, ih⟩
    have hyp : oK p y = true := by
     cases hb : oK p y with
     | true => rfl
     | false => exact absurd (amE (h1.1 y List.mem_cons_self) hb) e
    rcases List.mem_cons.1 hz with rfl | hz
    ·exact hyp
    ·exact XK hyp ((List.pairwise_cons.1 ih).1 z hz)
theorem aoL {l : List (Int × Int)} (h : l.Pairwise fun x y => oK y x = false) : (ddSP l).Pairwise fun x y => oK x y = true := by
 cases l with
 | nil => exact List.Pairwise.nil
 | cons x r => exact aps x r h
theorem amj (l : List (Int × Int)) (hl : l.length ≤ 1000000) : ∀ (rest : List (Int × Int)) (k w k0 p : Nat) (cur : List (Int × Int)) (prev : Int × Int), l.drop p = rest → 1 ≤ k0 → k0 < p → p ≤ l.length → w + 1 ≤ p → cur.length = l.length → cur.drop w = l.drop w → l[p - 1]? = some prev → rest.length < k →
 ∃ w' cur' k2, cur'.length = l.length ∧ w' ≤ l.length ∧ cur'.take w' = cur.take w ++ ddRP prev rest ∧ ∀ (b : Int → Nat → Nat → Int → List (Int × Int) → Option α) (r : List (Int × Int) → Option α),
   jY k (w : Int) k0 (l.length - k0) ((p - k0 : Nat) : Int) cur b r = b (w' : Nat) k0 (l.length - k0) k2 cur'
 | [], k + 1, w, k0, p, cur, prev, hd, h1, hp, hpl, hw, hc, hs, hprev, _ => by
   have hlp : p = l.length := by have := yK hd; omega
   refine ⟨w, cur, ((p - k0 : Nat) : Int), hc, by omega, by simp [ddRP], fun b r => ?_⟩
   rw [jY, qw, iW (by omega)]
   rfl
 | y :: rest, k + 1, w, k0, p, cur, prev, hd, h1, hp, hpl, hw, hc, hs, hprev, hk => by
   obtain ⟨g1, g2, g3⟩ := wJ hd
   have en : w64 (((p - k0 : Nat) : Int) + 1) = ((p + 1 - k0 : Nat) : Int) := by rw [aK (by omega) (by omega)]; omega
   have em : w64 (((p - k0 : Nat) : Int) - 1) = ((p - 1 - k0 : Nat) : Int) := by rw [aK (by omega) (by omega)]; omega
   have ew : w64 ((w : Int) + 1) = ((w + 1 : Nat) : Int) := by rw [aK (by omega) (by omega)]; omega
   have m1 : ∀ q : Nat, k0 ≤ q → AY k0 (q - k0) 1 = q := fun q hq => by
    unfold AY
    have : Nat.beq k0 0 = false := by cases hb : Nat.beq k0 0 with | false => rfl | true => have := Nat.eq_of_beq_eq_true hb; omega
    rw [this, cond_false]
    omega
   have at_ : ∀ q, w ≤ q → cur[q]? = l[q]? := fun q hq => by
    have e1 : (cur.drop w)[q - w]? = (l.drop w)[q - w]? := by rw [hs]
    rw [List.getElem?_drop, List.getElem?_drop, show w + (q - w) = q by omega] at e1
    exact e1
   have hy : cur[p]? = some y := by rw [at_ p (by omega)]; exact g1
   have hp1 : cur[p - 1]? = some prev := by rw [at_ (p - 1) (by omega)]; exact hprev
   have hnext : l[p + 1 - 1]? = some y := by rw [Nat.add_sub_cancel]; exact g1
   have hwc : w < cur.length := by omega
   obtain ⟨cw, hcw⟩ : ∃ c, cur[w]? = some c := ⟨cur[w], List.getElem?_eq_getElem hwc⟩
   have hstep : (decide (y.1 = prev.1) && decide (y.2 = prev.2)) = decide (y = prev) := by
    rw [Bool.eq_iff_iff]
    simp [Prod.ext_iff]
   by_cases e : y = prev
   ·obtain ⟨w', cur', k2, i1, i2, i3, i4⟩ := amj l hl rest k w k0 (p + 1) cur y g2 h1 (by omega) (by omega) (by omega) hc hs hnext (by simp at hk; omega)
    refine ⟨w', cur', k2, i1, i2, ?_, fun b r => ?_⟩
    ·rw [i3]
     congr 1
     conv => rhs; unfold ddRP
     rw [if_pos e]
    ·rw [jY, qw, dY (by omega), gW (by omega), cond_true, Bool.and_self, cond_true, Int.toNat_natCast, m1 p (by omega), hy, Option.bind_some, em, gW (by omega), dY (by omega), Bool.and_self, cond_true, Int.toNat_natCast, m1 (p - 1) (by omega), hp1, Option.bind_some, hstep, decide_eq_true e, Bool.not_true, cond_false, en]
     exact i4 b r
   ·have hset : (cur.set w (y.1, y.2)).length = l.length := by rw [List.length_set]; exact hc
    have hdrop : (cur.set w (y.1, y.2)).drop (w + 1) = l.drop (w + 1) := by
     have e1 : (cur.drop w).drop 1 = (l.drop w).drop 1 := by rw [hs]
     rw [List.drop_drop, List.drop_drop] at e1
     rw [List.drop_set, if_pos (by omega)]
     exact e1
    obtain ⟨w', cur', k2, i1, i2, i3, i4⟩ := amj l hl rest k (w + 1) k0 (p + 1) (cur.set w (y.1, y.2)) y g2 h1 (by omega) (by omega) (by omega) hset hdrop hnext (by simp at hk; omega)
    refine ⟨w', cur', k2, i1, i2, ?_, fun b r => ?_⟩
    ·have ht : (cur.set w (y.1, y.2)).take (w + 1) = cur.take w ++ [y] := by
      have hlw : (cur.take w).length = w := by rw [List.length_take]; omega
      rw [List.take_set, List.take_add_one, hcw, List.set_append_right _ _ (by omega), hlw, Nat.sub_self]
      rfl
     rw [i3, ht, List.append_assoc]
     congr 1
     conv => rhs; unfold ddRP
     rw [if_neg e]
     rfl
    ·rw [jY, qw, dY (by omega), gW (by omega), cond_true, Bool.and_self, cond_true, Int.toNat_natCast, m1 p (by omega), hy, Option.bind_some, em, gW (by omega), dY (by omega), Bool.and_self, cond_true, Int.toNat_natCast, m1 (p - 1) (by omega), hp1, Option.bind_some, hstep, decide_eq_false e, Bool.not_false, cond_true, cond_true, Option.bind_some, Int.toNat_natCast, gW (by omega), dY (by omega), Bool.and_self, cond_true, hcw, Option.bind_some, en, ew]
     exact i4 b r
 | _, 0, _, _, _, _, _, _, _, _, _, _, _, _, _, hk => by omega
theorem arH (l : List (Int × Int)) (hl : l.length ≤ 1000000) (r : List (Int × Int) → Option α) : ∀ (rest : List (Int × Int)) (k p : Nat) (prev : Int × Int), l.drop p = rest → 1 ≤ p → p ≤ l.length → l[p - 1]? = some prev → 2 * rest.length + 2 < k →
 kW k (p : Int) l (fun _ s => r s) r = r (l.take p ++ ddRP prev rest)
 | [], k + 1, p, prev, hd, h1, hpl, hprev, _ => by
   have hlp : p = l.length := by have := yK hd; omega
   rw [kW, vz, iW (by omega), cond_false]
   simp [ddRP, hlp]
 | y :: rest, k + 1, p, prev, hd, h1, hpl, hprev, hk => by
   obtain ⟨g1, g2, g3⟩ := wJ hd
   have en : w64 ((p : Int) + 1) = ((p + 1 : Nat) : Int) := by rw [aK (by omega) (by omega)]; omega
   have em : w64 ((p : Int) - 1) = ((p - 1 : Nat) : Int) := by rw [aK (by omega) (by omega)]; omega
   have hnext : l[p + 1 - 1]? = some y := by rw [Nat.add_sub_cancel]; exact g1
   have hstep : (decide (y.1 = prev.1) && decide (y.2 = prev.2)) = decide (y = prev) := by
    rw [Bool.eq_iff_iff]
    simp [Prod.ext_iff]
   have ht : l.take (p + 1) = l.take p ++ [y] := by
    rw [List.take_add_one, g1]
    rfl
   rw [kW, vz, dY (by omega), gW (by omega), cond_true, Bool.and_self, cond_true, Int.toNat_natCast, g1, Option.bind_some, em, gW (by omega), dY (by omega), Bool.and_self, cond_true, Int.toNat_natCast, hprev, Option.bind_some, hstep]
   by_cases e : y = prev
   ·rw [decide_eq_true e, cond_true, gW (show ((p : Nat) : Int) ≤ (l.length : Nat) by omega), Bool.and_self, cond_true]
    obtain ⟨w', cur', k2, i1, i2, i3, i4⟩ := amj (α := α) l hl rest k p p (p + 1) l y g2 h1 (by omega) (by omega) (by omega) rfl rfl hnext (by simp at hk; omega)
    have i5 := fun b r => i4 b r
    rw [show ((p + 1 - p : Nat) : Int) = 1 by omega] at i5
    rw [i5, gW (by omega), gW (by omega), Bool.and_self, cond_true, Int.toNat_natCast]
    have hlen : ((cur'.take w' ++ List.replicate (cur'.length - w') ((0 : Int), (0 : Int))) ++ cur'.drop (w' + (cur'.length - w'))).length = cur'.length := by simp; omega
    rw [hlen, gW (by omega), Bool.and_self, cond_true]
    have htk : ((cur'.take w' ++ List.replicate (cur'.length - w') ((0 : Int), (0 : Int))) ++ cur'.drop (w' + (cur'.length - w'))).take (w' - 0) = cur'.take w' := by
     rw [Nat.sub_zero, List.append_assoc, List.take_append_of_le_length (by simp; omega), List.take_take, Nat.min_self]
    rw [htk, i3]
    congr 2
    conv => rhs; unfold ddRP
    rw [if_pos e]
   ·rw [decide_eq_false e, cond_false, en, arH l hl r rest k (p + 1) y g2 (by omega) (by omega) hnext (by simp at hk; omega), ht, List.append_assoc]
    congr 2
    conv => rhs; unfold ddRP
    rw [if_neg e]
    rfl
 | _, 0, _, _, _, _, _, _, hk => by omega
theorem apU (k : Nat) {l : List (Int × Int)} (hl : l.length ≤ 1000000) (hk : 2000010 < k) (r : List (Int × Int) → Option α) : lW k l r = r (ddSP l) := by
 unfold lW DK
 match l with
 | [] => rfl
 | [x] => rfl
 | x :: y :: t =>
   rw [iW (by simp; omega), cond_false]
   have := arH (α := α) (x :: y :: t) hl r (y :: t) k 1 x rfl (by omega) (by simp) rfl (by simp only [List.length_cons] at hl ⊢; omega)
   simpa [ddSP] using this
def crdP (p : Int × Int) : Prop := crd p.1 = true ∧ crd p.2 = true
theorem aoS {c : Int × Int} : ∀ {st : List (Int × Int)} {x : Int × Int}, x ∈ popH c st → x ∈ st
 | [], _, h => h
 | [_], _, h => h
 | b :: a :: r, x, h => by
   unfold popH at h
   split at h
   ·exact List.mem_cons_of_mem _ (aoS h)
   ·exact h
theorem aid {c : Int × Int} : ∀ {st : List (Int × Int)}, (popH c st).length ≤ st.length
 | [] => by simp [popH]
 | [_] => by simp [popH]
 | b :: a :: r => by
   unfold popH
   split
   ·have := aid (c := c) (st := a :: r)
    simp only [List.length_cons] at this ⊢
    omega
   ·simp
theorem ao5 {c c1 : Int} (hc : crdP (c, c1)) (x3 x4 : Int) (x5 : List (Int × Int)) (b : Int → Int → List (Int × Int) → Int → Int → List (Int × Int) → Option α) (r0 : List (Int × Int) → Option α) :
 ∀ (st : List (Int × Int)) (k : Nat), (∀ x ∈ st, crdP x) → st.length ≤ 4000 → st.length < k → FY k x3 x4 st.reverse c c1 x5 b r0 = b x3 x4 (popH (c, c1) st).reverse c c1 x5
 | [], k + 1, _, _, _ => by
   rw [FY, aah, iW (by simp)]
   rfl
 | [a], k + 1, _, _, _ => by
   rw [FY, aah, iW (by simp)]
   rfl
 | p :: q :: st, k + 1, hs, hl, hk => by
   simp only [List.length_cons] at hl hk
   have hlen : ((p :: q :: st).reverse.length : Int) = (st.length : Int) + 2 := by simp <;> omega
   have e2 : w64 (((p :: q :: st).reverse.length : Nat) - 2 : Int) = (st.length : Int) := by rw [hlen, aK (by omega) (by omega)]; omega
   have e1 : w64 (((p :: q :: st).reverse.length : Nat) - 1 : Int) = ((st.length + 1 : Nat) : Int) := by rw [hlen, aK (by omega) (by omega)]; omega
   have g2 : (p :: q :: st).reverse[st.length]? = some q := by
    rw [List.getElem?_reverse (by simp <;> omega)]
    simp
   have g1 : (p :: q :: st).reverse[st.length + 1]? = some p := by
    rw [List.getElem?_reverse (by simp <;> omega)]
    simp
   have hp := hs p (by simp)
   have hq := hs q (by simp)
   rw [FY, aah, dY (by omega), cond_true, e2, e1, gW (by omega), dY (by omega), Bool.and_self, cond_true, Int.toNat_natCast, g2, Option.bind_some, gW (by omega), dY (by omega), Bool.and_self, cond_true, Int.toNat_natCast, g1, Option.bind_some, afO hq.1 hq.2 hp.1 hp.2 hc.1 hc.2]
   rw [popH]
   show (bif decide (o3 q p (c, c1) ≤ 0) then _ else _) = _
   by_cases h : o3 q p (c, c1) ≤ 0
   ·rw [decide_eq_true h, cond_true, if_pos h, gW (by omega), Bool.and_self, cond_true]
    have ht : List.take (st.length + 1 - 0) (p :: q :: st).reverse = (q :: st).reverse := by
     rw [List.reverse_cons, Nat.sub_zero, List.take_append_of_le_length (by simp), List.take_of_length_le (by simp)]
    rw [ht]
    exact ao5 hc x3 x4 x5 b r0 (q :: st) k (fun x hx => hs x (List.mem_cons_of_mem _ hx)) (by simp; omega) (by simp; omega)
   ·rw [decide_eq_false h, cond_false, if_neg h]
theorem anQ {l : List (Int × Int)} (hl : l.length ≤ 4000) (hc : ∀ x ∈ l, crdP x) (b : Int → Int → List (Int × Int) → List (Int × Int) → Option α) (r0 : List (Int × Int) → Option α) :
 ∀ (rest : List (Int × Int)) (k i : Nat) (st : List (Int × Int)), l.drop i = rest → (∀ x ∈ st, x ∈ l) → st.length ≤ i → i ≤ l.length → 4001 + rest.length < k → IY k l.length i st.reverse l b r0 = b l.length l.length (vY st rest).reverse l
 | [], k + 1, i, st, hd, _, _, hi, _ => by
   have := yK hd
   have e : (i : Int) = l.length := by omega
   rw [IY, ace, e, iW (by omega)]
   rfl
 | c :: rest, k + 1, i, st, hd, hs, hsi, hi, hk => by
   obtain ⟨g1, g2, g3⟩ := wJ hd
   have hcm : c ∈ l := List.mem_of_getElem? g1
   have hpl := aid (c := c) (st := st)
   have hpl2 := aid (c := (c.1, c.2)) (st := st)
   have en : w64 ((i : Int) + 1) = ((i + 1 : Nat) : Int) := by rw [aK (by omega) (by omega)]; omega
   rw [IY, ace, dY (by omega), gW (by omega), Bool.and_self, cond_true, cond_true, Int.toNat_natCast, g1, Option.bind_some, ao5 (hc c hcm) _ _ _ _ _ st k (fun x hx => hc x (hs x hx)) (by omega) (by simp at hk; omega)]
   rw [show decide ((popH (c.1, c.2) st).reverse.length + 1 ≤ big) = true from DV (by rw [List.length_reverse, nJ]; omega), cond_true, en]
   rw [show (popH (c.1, c.2) st).reverse ++ [(c.1, c.2)] = (c :: popH c st).reverse by simp]
   rw [anQ hl hc b r0 rest k (i + 1) (c :: popH c st) g2 (fun x hx => by
    rcases List.mem_cons.1 hx with rfl | hx
    ·exact hcm
    ·exact hs x (aoS hx)) (by simp; omega) (by omega) (by simp at hk; omega)]
   rfl
 | _, 0, _, _, _, _, _, _, hk => by omega
theorem afj : ∀ (l st : List (Int × Int)), (vY st l).length ≤ st.length + l.length
 | [], st => by simp [vY]
 | c :: l, st => by
   rw [vY]
   have h1 := afj l (c :: popH c st)
   have h2 := aid (c := c) (st := st)
   simp only [List.length_cons] at h1 ⊢
   omega
theorem ahU (k : Nat) {l : List (Int × Int)} (hl : l.length ≤ 4000) (hc : ∀ x ∈ l, crdP x) (hk : 8010 < k) (r : List (Int × Int) → Option α) : aas k l r = r (vY [] l).tail.reverse := by
 unfold aas afH
 have h0 := anQ (α := α) hl hc (fun _ _ out3 _ =>
  bif (decide (0 ≤ (max (w64 ((out3.length : Int) - 1)) 0)) && decide ((max (w64 ((out3.length : Int) - 1)) 0) ≤ (out3.length : Int))) then
   r (List.take ((max (w64 ((out3.length : Int) - 1)) 0).toNat - 0) out3)
  else
   none) r l k 0 [] rfl (by simp) (by simp) (by omega) (by omega)
 simp only [Int.natCast_zero, List.reverse_nil] at h0
 rw [h0]
 have hln := afj l []
 generalize vY [] l = st at hln ⊢
 simp only [List.length_nil, Nat.zero_add] at hln
 cases st with
 | nil =>
   have : w64 (-1) = -1 := by decide
   have e2 : max (-1 : Int) 0 = 0 := by decide
   simp [this, e2]
 | cons c st =>
   simp only [List.length_cons] at hln
   have e : w64 (((c :: st).reverse.length : Nat) - 1 : Int) = (st.length : Int) := by rw [aK (by simp <;> omega) (by simp <;> omega)]; simp
   have em : max ((st.length : Nat) : Int) 0 = (st.length : Int) := by omega
   simp only [e, em]
   rw [gW (by omega), gW (by simp <;> omega), Bool.and_self, cond_true, Int.toNat_natCast, Nat.sub_zero, List.reverse_cons, List.take_append_of_le_length (by simp), List.take_of_length_le (by simp)]
   rfl
theorem alN {a b : Int} (ha : crd a = true) (hb : crd b = true) : w64 (a + w64 (-1 * b)) = a - b := by
 rw [uq] at ha hb
 exact UW hb ha
def farP (a b : Int × Int) : Int := max (b.1 - a.1) (a.1 - b.1) + max (b.2 - a.2) (a.2 - b.2)
theorem arb (k : Nat) {a b c d : Int} (ha : crd a = true) (hb : crd b = true) (hc : crd c = true) (hd : crd d = true) (r : Int → Option α) : Rz k a b c d r = r (farP (a, b) (c, d)) := by
 rw [uq] at ha hb hc hd
 simp only [Rz, ae9, farP]
 rw [aK (n := c - a) (by omega) (by omega), aK (n := d - b) (by omega) (by omega), aK (n := 0 - (c - a)) (by omega) (by omega), aK (n := 0 - (d - b)) (by omega) (by omega), aK (by omega) (by omega)]
 congr 1
 omega
def upsS (now nx p : Int × Int) : Bool := decide (o3 now nx p < 0) || (decide (o3 now nx p = 0) && decide (farP now nx < farP now p))
def aa7 (now : Int × Int) : List (Int × Int) → Option (Int × Int) → Option (Int × Int)
 | [], o => o
 | p :: l, o => if p = now then aa7 now l o else match o with
   | none => aa7 now l (some p)
   | some nx => if upsS now nx p = true then aa7 now l (some p) else aa7 now l (some nx)
theorem seg1 {u v : Int} (h : 0 ≤ u * (v - u)) : (0 ≤ u ∧ u ≤ v) ∨ (u ≤ 0 ∧ v ≤ u) := by
 rcases Int.lt_or_le u 0 with hu | hu
 ·right
  refine ⟨by omega, ?_⟩
  rcases Int.lt_or_le u v with h1 | h1
  ·have := Int.mul_neg_of_neg_of_pos hu (show 0 < v - u by omega)
   omega
  ·exact h1
 ·rcases Int.lt_or_le v u with h1 | h1
  ·rcases Int.lt_or_le 0 u with h2 | h2
   ·have := Int.mul_neg_of_pos_of_neg h2 (show v - u < 0 by omega)
    omega
   ·right; omega
  ·left; omega
theorem aqu {a q p : Int × Int} (h : Seg a q p) : farP a p ≤ farP a q ∧ (farP a p = farP a q → p = q) := by
 obtain ⟨h1, h2⟩ := h
 have e1 : q.1 - p.1 = (q.1 - a.1) - (p.1 - a.1) := by omega
 have e2 : q.2 - p.2 = (q.2 - a.2) - (p.2 - a.2) := by omega
 rw [e1] at h1
 rw [e2] at h2
 have g1 := seg1 h1
 have g2 := seg1 h2
 unfold farP
 refine ⟨by omega, fun e => Prod.ext ?_ ?_⟩ <;> omega
theorem ad8 {S : Int × Int → Prop} {now q : Int × Int} (h : Ed S now q) : ∀ (l : List (Int × Int)) (o : Option (Int × Int)), (∀ x ∈ l, S x) → (∀ x ∈ o, S x ∧ x ≠ now) → (q ∈ l ∨ o = some q) → aa7 now l o = some q
 | [], o, _, _, hq => by
   rcases hq with hq | hq
   ·simp at hq
   ·exact hq
 | p :: l, o, hS, ho, hq => by
   have hl : ∀ x ∈ l, S x := fun x hx => hS x (List.mem_cons_of_mem _ hx)
   have hp := hS p (by simp)
   unfold aa7
   by_cases e : p = now
   ·rw [if_pos e]
    refine ad8 h l o hl ho ?_
    rcases hq with hq | hq
    ·rcases List.mem_cons.1 hq with rfl | hq
     ·exact absurd e h.ne
     ·exact .inl hq
    ·exact .inr hq
   ·rw [if_neg e]
    cases o with
    | none =>
      refine ad8 h l (some p) hl (by simpa using ⟨hp, e⟩) ?_
      rcases hq with hq | hq
      ·rcases List.mem_cons.1 hq with rfl | hq
       ·exact .inr rfl
       ·exact .inl hq
      ·cases hq
    | some nx =>
      obtain ⟨hn1, hn2⟩ := ho nx rfl
      by_cases hnq : nx = q
      ·subst hnq
       have hu : upsS now nx p = false := by
        obtain ⟨k1, k2⟩ := h.left p hp
        unfold upsS
        rw [iW k1, Bool.false_or]
        by_cases z : o3 now nx p = 0
        ·have := (aqu (k2 z)).1
         rw [iW this, Bool.and_false]
        ·rw [decide_eq_false z, Bool.false_and]
       simp only [hu, Bool.false_eq_true, if_false]
       exact ad8 h l (some nx) hl (by simpa using ⟨hn1, hn2⟩) (.inr rfl)
      ·by_cases hpq : p = q
       ·subst hpq
        have hu : upsS now nx p = true := by
         obtain ⟨k1, k2⟩ := h.left nx hn1
         have e2 : o3 now nx p = -(o3 now p nx) := by rw [EX, EX]; grind
         unfold upsS
         rcases Int.lt_or_le (o3 now nx p) 0 with z | z
         ·rw [dY z, Bool.true_or]
         ·have z0 : o3 now p nx = 0 := by omega
          obtain ⟨f1, f2⟩ := aqu (k2 z0)
          have hf : farP now nx < farP now p := by
           rcases Int.lt_or_le (farP now nx) (farP now p) with f | f
           ·exact f
           ·exact absurd (f2 (by omega)) hnq
          rw [decide_eq_true (show o3 now nx p = 0 by omega), decide_eq_true hf, Bool.and_self, Bool.or_true]
        simp only [hu, if_true]
        exact ad8 h l (some p) hl (by simpa using ⟨hp, e⟩) (.inr rfl)
       ·have hq : q ∈ l := by
         rcases hq with hq | hq
         ·rcases List.mem_cons.1 hq with hq | hq
          ·exact absurd hq.symm hpq
          ·exact hq
         ·exact absurd (Option.some.inj hq) hnq
        show (if upsS now nx p = true then aa7 now l (some p) else aa7 now l (some nx)) = some q
        split
        ·exact ad8 h l (some p) hl (by simpa using ⟨hp, e⟩) (.inl hq)
        ·exact ad8 h l (some nx) hl (by simpa using ⟨hn1, hn2⟩) (.inl hq)
theorem ad5 {l : List (Int × Int)} (hl : l.length ≤ 4000) (hc : ∀ x ∈ l, crdP x) {now now1 : Int} (hn : crdP (now, now1)) (f6 f7 : Int) (out : List (Int × Int)) (b : Bool → Int → List (Int × Int) → Int → Int → List (Int × Int) → Int → Int → Int → Int → Option α) (r0 : List (Int × Int) → Option α) :
 ∀ (rest : List (Int × Int)) (k i : Nat) (o : Option (Int × Int)), l.drop i = rest → i ≤ l.length → (∀ x ∈ o, crdP x) → rest.length < k →
 uw k o.isSome i l f6 f7 out now now1 (o.getD (0, 0)).1 (o.getD (0, 0)).2 b r0 = b (aa7 (now, now1) rest o).isSome l.length l f6 f7 out now now1 ((aa7 (now, now1) rest o).getD (0, 0)).1 ((aa7 (now, now1) rest o).getD (0, 0)).2
 | [], k + 1, i, o, hd, hi, _, _ => by
   have := yK hd
   have e : (i : Int) = l.length := by omega
   rw [uw, Yv, e, iW (by omega)]
   rfl
 | p :: rest, k + 1, i, o, hd, hi, ho, hk => by
   obtain ⟨g1, g2, g3⟩ := wJ hd
   have hcm := hc p (List.mem_of_getElem? g1)
   have en : w64 ((i : Int) + 1) = ((i + 1 : Nat) : Int) := by rw [aK (by omega) (by omega)]; omega
   have hk' : rest.length < k := by simp at hk; omega
   have heq : (decide (p.1 = now) && decide (p.2 = now1)) = decide (p = (now, now1)) := by
    rw [Bool.eq_iff_iff]
    simp [Prod.ext_iff]
   rw [uw, Yv, dY (by omega), gW (by omega), Bool.and_self, cond_true, cond_true, Int.toNat_natCast, g1, Option.bind_some, heq, en]
   unfold aa7
   by_cases e : p = (now, now1)
   ·rw [decide_eq_true e, cond_true, if_pos e]
    exact ad5 hl hc hn f6 f7 out b r0 rest k (i + 1) o g2 (by omega) ho hk'
   ·rw [decide_eq_false e, cond_false, if_neg e]
    cases o with
    | none =>
      simp only [Option.isSome_none, Bool.not_false, cond_true, Option.bind_some]
      exact ad5 hl hc hn f6 f7 out b r0 rest k (i + 1) (some p) g2 (by omega) (by simpa using hcm) hk'
    | some nx =>
      have hnx := ho nx rfl
      simp only [Option.isSome_some, Bool.not_true, cond_false, cond_true, Option.bind_some, Option.getD_some]
      have hdet : ∀ r : Int → Option α, (jy k nx.1 nx.2 now now1 (-1) fun v1 v2 => jy k p.1 p.2 now now1 (-1) fun v3 v4 => uQ k v1 v2 v3 v4 r) = r (o3 (now, now1) nx p) := fun r => by
       simp only [jy, Fj, uQ, Vj]
       rw [alN hnx.1 hn.1, alN hnx.2 hn.2, alN hcm.1 hn.1, alN hcm.2 hn.2]
       obtain ⟨a1, a2⟩ := hn
       obtain ⟨b1, b2⟩ := hnx
       obtain ⟨c1, c2⟩ := hcm
       rw [uq] at a1 a2 b1 b2 c1 c2
       rw [ahu (by omega) (by omega) (by omega) (by omega), EX]
      rw [hdet, arb k hn.1 hn.2 hcm.1 hcm.2, arb k hn.1 hn.2 hnx.1 hnx.2]
      have i1 := ad5 hl hc hn f6 f7 out b r0 rest k (i + 1) (some p) g2 (by omega) (by simpa using hcm) hk'
      have i2 := ad5 hl hc hn f6 f7 out b r0 rest k (i + 1) (some nx) g2 (by omega) (by simpa using hnx) hk'
      simp only [Option.isSome_some, Option.getD_some] at i1 i2
      rw [i1, i2]
      unfold upsS
      rcases Int.lt_or_le (o3 (now, now1) nx p) 0 with z | z
      ·simp [dY z]
      ·rw [iW z, cond_false, Bool.false_or]
       by_cases z0 : o3 (now, now1) nx p = 0
       ·rw [decide_eq_true z0, cond_true, Bool.true_and]
        by_cases f : farP (now, now1) nx < farP (now, now1) p
        ·simp [f]
        ·simp [f]
       ·simp [z0]
 | _, 0, _, _, _, _, _, hk => by omega
theorem ao3 {l : List (Int × Int)} (hl : l.length ≤ 4000) (hc : ∀ x ∈ l, crdP x) (first : Int × Int) (r : List (Int × Int) → Option α) :
 ∀ (rest : List (Int × Int)) (k : Nat) (pre : List (Int × Int)) (now : Int × Int), FP (Ed (· ∈ l)) (now :: rest ++ [first]) → first ∉ rest → pre.length + 1 + rest.length ≤ l.length → 4001 + rest.length < k →
 uy k l first.1 first.2 (pre ++ [now]) r = r (pre ++ now :: rest)
 | rest, k + 1, pre, now, hf, hfr, hlen, hk => by
   have hlp : ((pre ++ [now]).length : Int) = (pre.length : Int) + 1 := by simp
   have e1 : w64 (((pre ++ [now]).length : Nat) - 1 : Int) = (pre.length : Int) := by rw [hlp, aK (by omega) (by omega)]; omega
   have g1 : (pre ++ [now])[pre.length]? = some now := by simp
   rw [uy, Yy, e1, gW (by omega), dY (by omega), Bool.and_self, cond_true, Int.toNat_natCast, g1, Option.bind_some]
   have hnow : now ∈ l := by
    cases rest with
    | nil => exact hf.1.ma
    | cons a rest => exact hf.1.ma
   have step : ∀ q, Ed (· ∈ l) now q → ∀ b : Bool → Int → List (Int × Int) → Int → Int → List (Int × Int) → Int → Int → Int → Int → Option α, uw k false 0 l first.1 first.2 (pre ++ [now]) now.1 now.2 0 0 b r = b true l.length l first.1 first.2 (pre ++ [now]) now.1 now.2 q.1 q.2 := fun q hq b => by
    have := ad5 hl hc (now := now.1) (now1 := now.2) (hc now hnow) first.1 first.2 (pre ++ [now]) b r l k 0 none rfl (by omega) (by simp) (by omega)
    rw [ad8 (S := (· ∈ l)) (now := (now.1, now.2)) hq l none (fun _ h => h) (by simp) (.inl hq.mq)] at this
    exact this
   cases rest with
   | nil =>
     rw [step first hf.1]
     simp
   | cons q rest =>
     rw [step q hf.1]
     have hqf : q ≠ first := fun e => hfr (by simp [e])
     have hne : (decide (q.1 = first.1) && decide (q.2 = first.2)) = false := by
      cases h : (decide (q.1 = first.1) && decide (q.2 = first.2)) with
      | false => rfl
      | true =>
        simp only [Bool.and_eq_true, decide_eq_true_eq] at h
        exact absurd (Prod.ext h.1 h.2) hqf
     simp only [List.length_cons] at hlen hk
     rw [Bool.not_true, cond_false, hne, cond_false, show decide ((pre ++ [now]).length + 1 ≤ big) = true from DV (by rw [nJ]; simp; omega), cond_true, iW (by simp; omega), cond_false]
     have := ao3 hl hc first r rest k (pre ++ [now]) q hf.2 (fun h => hfr (List.mem_cons_of_mem _ h)) (by simp; omega) (by omega)
     rw [show (q.1, q.2) = q from rfl, this]
     simp
 | _, 0, _, _, _, _, _, hk => by omega
theorem ajD {l : List (Int × Int)} (hl : l.length ≤ 4000) (b : Int → List (Int × Int) → Int → Int → Option α) (r0 : List (Int × Int) → Option α) :
 ∀ (rest : List (Int × Int)) (k i : Nat) (cur : Int × Int), l.drop i = rest → i ≤ l.length → rest.length < k →
 ∃ m, (m = cur ∨ m ∈ rest) ∧ (∀ x, x = cur ∨ x ∈ rest → oK x m = false) ∧ yQ k i l cur.1 cur.2 b r0 = b l.length l m.1 m.2
 | [], k + 1, i, cur, hd, hi, _ => by
   have := yK hd
   have e : (i : Int) = l.length := by omega
   refine ⟨cur, .inl rfl, fun x hx => ?_, ?_⟩
   ·rcases hx with rfl | hx
    ·exact aak _
    ·simp at hx
   ·rw [yQ, TJ, e, iW (by omega)]
    rfl
 | p :: rest, k + 1, i, cur, hd, hi, hk => by
   obtain ⟨g1, g2, g3⟩ := wJ hd
   have en : w64 ((i : Int) + 1) = ((i + 1 : Nat) : Int) := by rw [aK (by omega) (by omega)]; omega
   have hk' : rest.length < k := by simp at hk; omega
   cases hb : oK p cur with
   | true =>
     obtain ⟨m, m1, m2, m3⟩ := ajD hl b r0 rest k (i + 1) p g2 (by omega) hk'
     refine ⟨m, ?_, fun x hx => ?_, ?_⟩
     ·rcases m1 with rfl | m1
      ·exact .inr (by simp)
      ·exact .inr (List.mem_cons_of_mem _ m1)
     ·rcases hx with rfl | hx
      ·cases h : oK x m with
       | false => rfl
       | true =>
         have := XK hb h
         rw [m2 p (.inl rfl)] at this
         exact this.symm
      ·rcases List.mem_cons.1 hx with rfl | hx
       ·exact m2 _ (.inl rfl)
       ·exact m2 _ (.inr hx)
     ·rw [yQ, TJ, dY (by omega), gW (by omega), Bool.and_self, cond_true, cond_true, Int.toNat_natCast, g1, Option.bind_some, aaD]
      rw [show oK (p.1, p.2) (cur.1, cur.2) = true from hb, cond_true, Option.bind_some, en]
      exact m3
   | false =>
     obtain ⟨m, m1, m2, m3⟩ := ajD hl b r0 rest k (i + 1) cur g2 (by omega) hk'
     refine ⟨m, ?_, fun x hx => ?_, ?_⟩
     ·rcases m1 with rfl | m1
      ·exact .inl rfl
      ·exact .inr (List.mem_cons_of_mem _ m1)
     ·rcases hx with rfl | hx
      ·exact m2 _ (.inl rfl)
      ·rcases List.mem_cons.1 hx with rfl | hx
       ·cases h : oK x m with
        | false => rfl
        | true =>
          rcases m1 with rfl | m1
          ·rw [hb] at h; cases h
          ·have hcm := m2 cur (.inl rfl)
           have := ahO h (by rw [hcm]; simp)
           rw [hb] at this
           exact this.symm
       ·exact m2 _ (.inr hx)
     ·rw [yQ, TJ, dY (by omega), gW (by omega), Bool.and_self, cond_true, cond_true, Int.toNat_natCast, g1, Option.bind_some, aaD]
      rw [show oK (p.1, p.2) (cur.1, cur.2) = false from hb, cond_false, en]
      exact m3
 | _, 0, _, _, _, _, hk => by omega
theorem agz {x y : Int × Int} : oK x y = true ↔ ltP x y := by rw [aeT, aeb]
theorem anr (k : Nat) (hk : 4 ≤ k) : alk (fun (p q : Int × Int) => oZ (α := Int) k p.1 p.2 q.1 q.2) ∧ ∀ x y, Go.Proofs.ltOf (cfOf fun (p q : Int × Int) => oZ (α := Int) k p.1 p.2 q.1 q.2) x y = oK x y := by
 have hc : ∀ x y, cfOf (fun (p q : Int × Int) => oZ (α := Int) k p.1 p.2 q.1 q.2) x y = ordP x y := fun x y => by
  show (oZ (α := Int) k x.1 x.2 y.1 y.2 some).getD 0 = ordP x y
  rw [Pv k (by omega)]
  rfl
 have hb : ∀ x y, Go.Proofs.ltOf (cfOf fun (p q : Int × Int) => oZ (α := Int) k p.1 p.2 q.1 q.2) x y = oK x y := fun x y => by
  unfold Go.Proofs.ltOf
  rw [hc, akv]
 refine ⟨⟨fun x y => ⟨ordP x y, Pv k (by omega) _ _ _ _ _⟩, ⟨fun x => by rw [hb]; exact aak x, fun x y z h1 h2 => ?_, fun x y z h1 h2 => ?_⟩, fun x y h1 h2 => ?_⟩, hb⟩
 ·rw [hb] at *
  exact XK h1 h2
 ·rw [hb] at *
  cases h : oK x z with
  | false => rfl
  | true =>
    have := ahO h (z := y) (by rw [h2]; simp)
    rw [h1] at this
    exact this.symm
 ·rw [hb] at h1 h2
  exact amE h1 h2
theorem asc (k : Nat) (hk : 4 ≤ k) {l : List (Int × Int)} (hl : l.length ≤ 1000000) : ∃ s : List (Int × Int), s.length = l.length ∧ s.Pairwise (fun x y => oK y x = false) ∧ (∀ z, z ∈ s ↔ z ∈ l) ∧ ∀ r : List (Int × Int) → Option α, iK k l r = r s := by
 obtain ⟨h1, h2⟩ := anr k hk
 refine ⟨aeX (cfOf fun (p q : Int × Int) => oZ k p.1 p.2 q.1 q.2) l, List.length_mergeSort _, ?_, fun z => (List.mergeSort_perm _ _).mem_iff, fun r => ?_⟩
 ·have := List.pairwise_mergeSort (le := fun x y => !(oK y x)) (fun a b c h1 h2 => by
   simp only [Bool.not_eq_true'] at *
   cases h : oK c a with
   | false => rfl
   | true =>
     have := ahO h (z := b) (by rw [h1]; simp)
     rw [h2] at this
     exact this.symm) (fun a b => by
   cases h1 : oK b a with
   | false => rfl
   | true =>
     have : oK a b = false := by
      cases h2 : oK a b with
      | false => rfl
      | true =>
        have := XK h1 h2
        rw [aak] at this
        exact this.symm
     simp [this]) l
  unfold aeX
  have e : (fun x y => !(Go.Proofs.ltOf (cfOf fun (p q : Int × Int) => oZ (α := Int) k p.1 p.2 q.1 q.2)) y x) = fun x y => !(oK y x) := by
   funext x y
   rw [h2]
  rw [e]
  exact this.imp fun h => by simpa using h
 ·unfold iK anI
  rw [if_pos ⟨h1, by omega⟩]
theorem asf (k : Nat) (a b : List (Int × Int)) (h0 : 0 < a.length + b.length) (hl : a.length + b.length ≤ 100000) (r : List (Int × Int) → Option α) : kJ k a b r = r (a ++ b) := by
 unfold kJ vZ
 simp only [uZ, wz, Int.zero_add]
 rw [aK (n := (a.length : Int)) (by omega) (by omega), aK (n := (a.length : Int) + b.length) (by omega) (by omega), Int.sub_zero, aK (n := (a.length : Int) + b.length) (by omega) (by omega)]
 have n1 : decide (((a.length : Nat) : Int) < 0) = false := iW (by omega)
 have n2 : decide (((a.length : Nat) : Int) + b.length < 0) = false := iW (by omega)
 have n3 : decide (0 < ((a.length : Nat) : Int) + b.length) = true := dY (by omega)
 have n4 : decide (1 ≤ ((a.length : Nat) : Int) + b.length) = true := gW (by omega)
 have n5 : decide (((a.length : Nat) : Int) + b.length ≤ (big : Int)) = true := gW (by rw [nJ]; omega)
 have n6 : decide (a.length ≤ big) = true := DV (by rw [nJ]; omega)
 have n7 : decide (a.length + b.length ≤ big) = true := DV (by rw [nJ]; omega)
 have n8 : decide (0 ≤ max (((a.length : Nat) : Int) + b.length) 0) = true := gW (by omega)
 simp [n1, n2, n3, n4, n5, n6, n7, n8]
theorem ag0 (k : Nat) (r : List (Int × Int) → Option α) : kJ k [] [] r = r [] := by
 unfold kJ vZ
 simp only [uZ, wz, List.length_nil]
 have h2 : w64 0 = 0 := by decide
 simp [h2]
def WV (s : List (Int × Int)) : List (Int × Int) := (vY [] s).tail.reverse ++ (vY [] s.reverse).tail.reverse
theorem alI (k : Nat) (hk : 2000010 < k) {l : List (Int × Int)} (hl : l.length ≤ 4000) : ∃ s : List (Int × Int), s.Pairwise ltP ∧ (∀ z, z ∈ s ↔ z ∈ l) ∧ s.length ≤ l.length ∧
 ∀ r : List (Int × Int) → Option α, (iK k l fun v => lW k v r) = r s := by
 obtain ⟨s, h1, h2, h3, h4⟩ := asc (α := α) k (by omega) (l := l) (by omega)
 refine ⟨ddSP s, (aoL h2).imp fun h => agz.1 h, fun z => by rw [aoY, h3], ?_, fun r => by rw [h4, apU k (by omega) hk]⟩
 have hn : (ddSP s).Nodup := List.nodup_iff_pairwise_ne.2 ((aoL h2).imp fun {x y} h e => by subst e; rw [aak] at h; cases h)
 have := hn.length_le_of_subset fun x hx => (aoY s x).1 hx
 omega
def akG (l v : List (Int × Int)) : Prop := (∃ a, v = [a] ∧ ∀ x ∈ l, x = a) ∨ (2 ≤ v.length ∧ v.Nodup ∧ ∀ i, i < v.length → Ed (· ∈ l) (gP v i) (gP v ((i + 1) % v.length)))
theorem FP.get {β : Type} {R : β → β → Prop} : ∀ {l : List β}, FP R l → ∀ (i : Nat) (x y : β), l[i]? = some x → l[i + 1]? = some y → R x y
 | [], _, i, x, y, h, _ => by simp at h
 | [a], _, i, x, y, _, h => by simp at h
 | a :: b :: r, hf, 0, x, y, h1, h2 => by
   simp at h1 h2
   subst h1 h2
   exact hf.1
 | a :: b :: r, hf, i + 1, x, y, h1, h2 => FP.get (l := b :: r) hf.2 i x y (by simpa using h1) (by simpa using h2)
theorem auX {S : Int × Int → Prop} {a : Int × Int} {rest : List (Int × Int)} (h : FP (Ed S) (a :: rest ++ [a])) : ∀ i, i < (a :: rest).length → Ed S (gP (a :: rest) i) (gP (a :: rest) ((i + 1) % (a :: rest).length)) := by
 intro i hi
 have h1 : (a :: rest ++ [a])[i]? = some (gP (a :: rest) i) := by
  rw [List.getElem?_append_left hi]
  exact uz hi
 refine h.get i _ _ h1 ?_
 by_cases e : i + 1 < (a :: rest).length
 ·rw [List.getElem?_append_left e, Nat.mod_eq_of_lt e]
  exact uz e
 ·have e2 : i + 1 = (a :: rest).length := by omega
  rw [e2, Nat.mod_self, List.getElem?_append_right (Nat.le_refl _), Nat.sub_self]
  rfl
theorem amB (k : Nat) (hk : 2000010 < k) {l : List (Int × Int)} (hl : l.length ≤ 4000) (hc : ∀ x ∈ l, crdP x) : ∃ v : List (Int × Int), v.length ≤ l.length ∧ (∀ x ∈ v, x ∈ l) ∧ (l ≠ [] → akG l v ∧ ∀ x ∈ l, x = gP v 0 ∨ ltP (gP v 0) x) ∧
 (∀ r : List (Int × Int) → Option α, Ey k l r = r v) ∧ ∀ (r0 : Int → Option α) (r1 : List (Int × Int) → Int → Option α), EY k l r0 r1 = if v.length < 3 then r0 5 else bif kZ v then r1 v 0 else r0 3 := by
 have fin : ∀ (v : List (Int × Int)) (r0 : Int → Option α) (r1 : List (Int × Int) → Int → Option α), v.length ≤ 100000 → (bif decide ((v.length : Int) < 3) then r0 5 else ay k v fun v3 => bif (!v3) then r0 3 else r1 v 0) = if v.length < 3 then r0 5 else bif kZ v then r1 v 0 else r0 3 := by
  intro v r0 r1 _
  by_cases h : v.length < 3
  ·rw [dY (by omega), if_pos h]
   rfl
  ·rw [iW (by omega), if_neg h, cond_false, zy k (by omega)]
   cases kZ v <;> rfl
 cases l with
 | nil =>
   refine ⟨[], by simp, by simp, fun h => absurd rfl h, fun r => rfl, fun r0 r1 => ?_⟩
   have hr : EY k [] r0 r1 = r0 5 := by
    unfold EY aeD vV yV
    have hb : decide (0 + ([] : List (Int × Int)).length ≤ big) = true := DV (by simp)
    have e1 : (mX k <|
     wV k <|
     IK k fun v =>
     lq k <|
     IK k fun v1 =>
     kJ k v v1 fun v2 =>
     bif decide ((v2.length : Int) < 3) then r0 5 else ay k v2 fun v3 => bif (!v3) then r0 3 else r1 v2 0) = r0 5 := by
     have hcn : ∀ r : List (Int × Int) → Option α, IK k r = r [] := fun r => by
      unfold IK adr
      have : w64 (-1) = -1 := by decide
      have e2 : max (-1 : Int) 0 = 0 := by decide
      simp [this, e2]
     have hrn : ∀ r : Option α, lq k r = r := fun r => by
      unfold lq Aj
      rfl
     show (IK k fun v => lq k <| IK k fun v1 => _) = _
     simp only [hcn, hrn, ag0]
     simp
    obtain ⟨s, g1, g2, g3, g4⟩ := alI (α := α) k hk (l := []) (by simp)
    have hs : s = [] := List.eq_nil_of_length_eq_zero (by simpa using g3)
    subst hs
    have e2 : (iK k ([] ++ []) fun v5 =>
     lW k v5 fun v6 =>
     aas k v6 fun v7 =>
     pq k v6 fun v8 =>
     aas k v8 fun v9 =>
     kJ k v7 v9 fun v10 =>
     bif decide ((v10.length : Int) < 3) then r0 5 else ay k v10 fun v11 => bif (!v11) then r0 3 else r1 v10 0) = r0 5 := by
     rw [List.append_nil, g4, ahU k (by simp) (by simp) (by omega), ajU k (by simp) (by omega), ahU k (by simp) (by simp) (by omega), show (vY [] ([] : List (Int × Int))).tail.reverse = [] from rfl, show (vY [] ([] : List (Int × Int)).reverse).tail.reverse = [] from rfl, ag0]
     simp
    have e3 : ∀ (X Y : Option α), X = r0 5 → Y = r0 5 → (bif Nat.beq ([] : List (Int × Int)).length 0 then both X (bif decide (0 + ([] : List (Int × Int)).length ≤ big) then Y else none) else (bif decide (0 + ([] : List (Int × Int)).length ≤ big) then Y else none)) = r0 5 := by
     rintro X Y rfl rfl
     rw [hb, cond_true]
     simp [both]
    exact e3 _ _ e1 e2
   rw [hr]
   rfl
 | cons p0 l0 =>
   generalize hL : p0 :: l0 = l at hl hc ⊢
   have hne : l.length ≠ 0 := by rw [← hL]; simp
   obtain ⟨s, g1, g2, g3, g4⟩ := alI (α := α) k hk hl
   have hcs : ∀ x ∈ s, crdP x := fun x hx => hc x ((g2 x).1 hx)
   have hs0 : s ≠ [] := by
    intro e
    have := (g2 p0).2 (by rw [← hL]; simp)
    rw [e] at this
    simp at this
   have hrl : (WV s).length ≤ 2 * s.length := by
    have h1 := afj s []
    have h2 := afj s.reverse []
    unfold WV
    simp at h1 h2 ⊢
    omega
   have himpl : ∀ (r0 : Int → Option α) (r1 : List (Int × Int) → Int → Option α), EY k l r0 r1 = if (WV s).length < 3 then r0 5 else bif kZ (WV s) then r1 (WV s) 0 else r0 3 := by
    intro r0 r1
    unfold EY aeD vV yV
    have hn : Nat.beq l.length 0 = false := by
     cases h : Nat.beq l.length 0 with
     | false => rfl
     | true => exact absurd (Nat.eq_of_beq_eq_true h) hne
    rw [hn, cond_false, show decide (0 + l.length ≤ big) = true from DV (by rw [nJ]; omega), cond_true, List.nil_append]
    show (iK k l fun v5 => lW k v5 _) = _
    rw [g4, ahU k (by omega) hcs (by omega), ajU k (by omega) (by omega), ahU k (by rw [List.length_reverse]; omega) (fun x hx => hcs x (by simpa using hx)) (by omega)]
    by_cases hz : (WV s).length = 0
    ·have h1 : (vY [] s).tail.reverse = [] := List.eq_nil_of_length_eq_zero (by unfold WV at hz; rw [List.length_append] at hz; omega)
     have h2 : (vY [] s.reverse).tail.reverse = [] := List.eq_nil_of_length_eq_zero (by unfold WV at hz; rw [List.length_append] at hz; omega)
     rw [h1, h2, ag0, if_pos (by omega)]
     rfl
    ·rw [asf k _ _ (by unfold WV at hz; rw [List.length_append] at hz; omega) (by unfold WV at hrl; rw [List.length_append] at hrl; omega)]
     exact fin (WV s) r0 r1 (by omega)
   have hsp : ∃ m, m ∈ l ∧ (∀ x ∈ l, x = m ∨ ltP m x) ∧ ∀ r : List (Int × Int) → Option α, Ey k l r = uy k l m.1 m.2 [m] r := by
    have hp0 : l[0]? = some p0 := by rw [← hL]; rfl
    obtain ⟨m, m1, m2, _⟩ := ajD (α := α) hl (fun _ _ _ _ => none) (fun _ => none) l k 0 p0 rfl (by omega) (by omega)
    have hm : m ∈ l := by
     rcases m1 with rfl | m1
     ·exact List.mem_of_getElem? hp0
     ·exact m1
    have huniq : ∀ x ∈ l, x = m ∨ ltP m x := fun x hx => by
     rcases al3 x m with h | h | h
     ·have := m2 x (.inr hx)
      rw [agz.2 h] at this
      cases this
     ·exact .inl h
     ·exact .inr h
    refine ⟨m, hm, huniq, fun r => ?_⟩
    obtain ⟨m', m1', m2', m3'⟩ := ajD (α := α) hl (fun _ list2 first2 first3 => uy k list2 first2 first3 [(first2, first3)] r) r l k 0 p0 rfl (by omega) (by omega)
    have hm' : m' ∈ l := by
     rcases m1' with rfl | m1'
     ·exact List.mem_of_getElem? hp0
     ·exact m1'
    have : m' = m := by
     rcases huniq m' hm' with h | h
     ·exact h
     ·have := m2' m (.inr hm)
      rw [agz.2 h] at this
      cases this
    subst this
    unfold Ey ad2
    have e0 : decide (((l.length : Nat) : Int) = 0) = false := decide_eq_false (by omega)
    rw [e0, cond_false, dY (by omega), Bool.and_self, cond_true, hp0, Option.bind_some]
    simp only [Int.natCast_zero] at m3'
    exact m3'
   obtain ⟨m, hm, hmin, hspec⟩ := hsp
   cases s with
   | nil => exact absurd rfl hs0
   | cons a s1 =>
     have ham : a = m := by
      have ha := (g2 a).1 (by simp)
      have hms := (g2 m).2 hm
      rcases hmin a ha with h | h
      ·exact h
      ·rcases List.mem_cons.1 hms with e | e
       ·exact e.symm
       ·exact absurd (JV h ((List.pairwise_cons.1 g1).1 m e)) TQ
     subst ham
     cases s1 with
     | nil =>
       have hone : ∀ x ∈ l, x = a := fun x hx => by simpa using (g2 x).2 hx
       have hr : WV [a] = [] := by simp [WV, vY, popH]
       have hk1 : ∃ k', k = k' + 1 := ⟨k - 1, by omega⟩
       obtain ⟨k', rfl⟩ := hk1
       refine ⟨[a], by simp; omega, by simpa using hm, fun _ => ⟨.inl ⟨a, rfl, hone⟩, hmin⟩, fun r => ?_, fun r0 r1 => ?_⟩
       ·rw [hspec, uy, Yy]
        have hsc : ∀ rest : List (Int × Int), (∀ x ∈ rest, x = a) → aa7 a rest none = none := by
         intro rest
         induction rest with
         | nil => intro _; rfl
         | cons x rest ih =>
           intro h
           unfold aa7
           rw [if_pos (h x (by simp))]
           exact ih fun y hy => h y (List.mem_cons_of_mem _ hy)
        have h13 := fun b => ad5 (α := α) hl hc (now := a.1) (now1 := a.2) (hc a hm) a.1 a.2 [a] b r l k' 0 none rfl (by omega) (by simp) (by omega)
        simp only [Option.isSome_none, Option.getD_none, hsc l hone, Int.natCast_zero] at h13
        have e1 : w64 (((1 : Nat) : Int) - 1) = 0 := by decide
        rw [show ([a] : List (Int × Int)).length = 1 from rfl, e1]
        show (uw k' false 0 l a.1 a.2 [a] a.1 a.2 0 0 _ _) = _
        rw [h13]
        rfl
       ·rw [himpl, hr]
        simp
     | cons b s2 =>
       obtain ⟨rest, r1, r2, r3, r4, r5⟩ := auU g1
       have hl2 : (a :: rest).length ≤ l.length := by
        have := r4.length_le_of_subset fun x hx => (g2 x).1 (r5 x hx)
        exact this
       have hE : FP (Ed (· ∈ l)) (a :: rest ++ [a]) := r3.mono fun x y h => ⟨(g2 x).1 h.ma, (g2 y).1 h.mq, h.ne, fun z hz => h.left z ((g2 z).2 hz)⟩
       have h2len : 2 ≤ (a :: rest).length := by
        cases rest with
        | nil => exact absurd rfl r2
        | cons _ _ => simp
       refine ⟨a :: rest, hl2, fun x hx => (g2 x).1 (r5 x hx), fun _ => ⟨.inr ⟨h2len, r4, auX hE⟩, hmin⟩, fun r => ?_, fun r0 r1' => ?_⟩
       ·rw [hspec]
        have := ao3 hl hc a r rest k [] a hE (List.nodup_cons.1 r4).1 (by simp at hl2 ⊢; omega) (by simp at hl2; omega)
        exact this
       ·rw [himpl]
        have : WV (a :: b :: s2) = a :: rest := r1
        rw [this]
theorem agD (k : Nat) (hk : 2000010 < k) {l : List (Int × Int)} (hl : l.length ≤ 4000) (hc : ∀ x ∈ l, crdP x) : ∃ v : List (Int × Int), v.length ≤ l.length ∧ (∀ x ∈ v, x ∈ l) ∧ (l ≠ [] → akG l v) ∧
 (∀ r : List (Int × Int) → Option α, Ey k l r = r v) ∧ ∀ (r0 : Int → Option α) (r1 : List (Int × Int) → Int → Option α), EY k l r0 r1 = if v.length < 3 then r0 5 else bif kZ v then r1 v 0 else r0 3 := by
 obtain ⟨v, h1, h2, h3, h4, h5⟩ := amB (α := α) k hk hl hc
 exact ⟨v, h1, h2, fun h => (h3 h).1, h4, h5⟩
theorem az7 (k : Nat) (hk : 2000010 < k) {l : List (Int × Int)} (hl : l.length ≤ 4000) (hc : ∀ x ∈ l, crdP x) : (∃ z, (∀ r0 r1, vW (α := α) k l r0 r1 = r0 z) ∧ ∀ r0 r1, EY (α := α) k l r0 r1 = r0 z) ∨
 ∃ v, v.length ≤ 12 ∧ (∀ r0 r1, vW (α := α) k l r0 r1 = r1 v 0) ∧ ∀ r0 r1, EY (α := α) k l r0 r1 = r1 v 0 := by
 obtain ⟨v, h1, h2, _, h3, h4⟩ := agD (α := α) k hk hl hc
 have hs : ∀ (r0 : Int → Option α) (r1 : List (Int × Int) → Int → Option α), vW k l r0 r1 = if v.length < 3 then r0 5 else bif kZ v then r1 v 0 else r0 3 := fun r0 r1 => by
  unfold vW acb
  rw [h3]
  by_cases h : v.length < 3
  ·rw [dY (by omega), if_pos h]
   rfl
  ·rw [iW (by omega), if_neg h, cond_false, LZ k (by omega)]
   cases kZ v <;> rfl
 by_cases h : v.length < 3
 ·exact .inl ⟨5, fun r0 r1 => by rw [hs, if_pos h], fun r0 r1 => by rw [h4, if_pos h]⟩
 ·cases hp : kZ v with
  | false => exact .inl ⟨3, fun r0 r1 => by rw [hs, if_neg h, hp]; rfl, fun r0 r1 => by rw [h4, if_neg h, hp]; rfl⟩
  | true =>
    obtain ⟨_, p2⟩ := nX hp
    exact .inr ⟨v, p2, fun r0 r1 => by rw [hs, if_neg h, hp]; rfl, fun r0 r1 => by rw [h4, if_neg h, hp]; rfl⟩
theorem mid1 {u1 u2 v1 v2 w1 w2 : Int} (h1 : 0 ≤ u1 * v1) (hc : v1 * u2 = v2 * u1) (hu : u1 ≠ 0) (hv : v1 ≠ 0 ∨ v2 ≠ 0)
 (k1 : w1 * u2 - w2 * u1 ≤ 0) (k2 : 0 ≤ w1 * v2 - w2 * v1) (z1 : w1 * u2 - w2 * u1 = 0 → 0 ≤ -u1 * (w1 + u1)) (z2 : w1 * v2 - w2 * v1 = 0 → 0 ≤ v1 * (w1 - v1)) : False := by
 have hv1 : v1 ≠ 0 := by
  intro e
  subst e
  rw [Int.zero_mul] at hc
  rcases Int.mul_eq_zero.1 hc.symm with h | h
  ·subst h; simp at hv
  ·exact hu h
 have key : v1 * (w1 * u2 - w2 * u1) = u1 * (w1 * v2 - w2 * v1) := by grind
 rcases Int.lt_or_le 0 u1 with hp | hp
 ·have hvp : 0 < v1 := by
   rcases Int.lt_or_le 0 v1 with h | h
   ·exact h
   ·have := Int.mul_neg_of_pos_of_neg hp (show v1 < 0 by omega)
    omega
  have g2 := Int.mul_nonneg (Int.le_of_lt hp) k2
  have g1 := Int.mul_nonneg (Int.le_of_lt hvp) (show 0 ≤ -(w1 * u2 - w2 * u1) by omega)
  rw [Int.mul_neg] at g1
  have e1 : v1 * (w1 * u2 - w2 * u1) = 0 := by omega
  have e2 : u1 * (w1 * v2 - w2 * v1) = 0 := by omega
  have y1 := z1 ((Int.mul_eq_zero.1 e1).resolve_left hv1)
  have y2 := z2 ((Int.mul_eq_zero.1 e2).resolve_left hu)
  rw [Int.neg_mul] at y1
  rcases Int.lt_or_le 0 w1 with h | h
  ·have := Int.mul_pos hp (show 0 < w1 + u1 by omega)
   omega
  ·have := Int.mul_neg_of_pos_of_neg hvp (show w1 - v1 < 0 by omega)
   omega
 ·have hun : u1 < 0 := by omega
  have hvn : v1 < 0 := by
   rcases Int.lt_or_le v1 0 with h | h
   ·exact h
   ·have := Int.mul_neg_of_neg_of_pos hun (show 0 < v1 by omega)
    omega
  have g2 := Int.mul_nonneg (show 0 ≤ -u1 by omega) k2
  have g1 := Int.mul_nonneg (show 0 ≤ -v1 by omega) (show 0 ≤ -(w1 * u2 - w2 * u1) by omega)
  rw [Int.neg_mul] at g1 g2
  rw [Int.mul_neg] at g1
  have e1 : v1 * (w1 * u2 - w2 * u1) = 0 := by omega
  have e2 : u1 * (w1 * v2 - w2 * v1) = 0 := by omega
  have y1 := z1 ((Int.mul_eq_zero.1 e1).resolve_left hv1)
  have y2 := z2 ((Int.mul_eq_zero.1 e2).resolve_left hu)
  rcases Int.lt_or_le 0 w1 with h | h
  ·have := Int.mul_neg_of_neg_of_pos hvn (show 0 < w1 - v1 by omega)
   omega
  ·have := Int.mul_neg_of_pos_of_neg (show 0 < -u1 by omega) (show w1 + u1 < 0 by omega)
   omega
theorem aDg {S : Int × Int → Prop} {a b r q : Int × Int} (h : Ed S r q) (ha : S a) (hb : S b) (hs : Seg a b r) (h0 : o3 a b r = 0) (hra : r ≠ a) (hrb : r ≠ b) : False := by
 obtain ⟨s1, s2⟩ := hs
 obtain ⟨l1, l2⟩ := h.left a ha
 obtain ⟨m1, m2⟩ := h.left b hb
 unfold Seg at l2 m2
 have hu : r.1 - a.1 ≠ 0 ∨ r.2 - a.2 ≠ 0 := by
  rcases Decidable.em (r.1 - a.1 = 0) with h1 | h1
  ·rcases Decidable.em (r.2 - a.2 = 0) with h2 | h2
   ·exact absurd (Prod.ext (by omega) (by omega)) hra
   ·exact .inr h2
  ·exact .inl h1
 have hv : b.1 - r.1 ≠ 0 ∨ b.2 - r.2 ≠ 0 := by
  rcases Decidable.em (b.1 - r.1 = 0) with h1 | h1
  ·rcases Decidable.em (b.2 - r.2 = 0) with h2 | h2
   ·exact absurd (Prod.ext (by omega) (by omega)) hrb
   ·exact .inr h2
  ·exact .inl h1
 have hc : (b.1 - r.1) * (r.2 - a.2) = (b.2 - r.2) * (r.1 - a.1) := by
  unfold o3 at h0
  grind
 have e1 : o3 r q a = -((q.1 - r.1) * (r.2 - a.2) - (q.2 - r.2) * (r.1 - a.1)) := by unfold o3; grind
 have e2 : o3 r q b = (q.1 - r.1) * (b.2 - r.2) - (q.2 - r.2) * (b.1 - r.1) := by unfold o3; grind
 have n1 : (a.1 - r.1) * (q.1 - a.1) = -(r.1 - a.1) * ((q.1 - r.1) + (r.1 - a.1)) := by grind
 have n2 : (a.2 - r.2) * (q.2 - a.2) = -(r.2 - a.2) * ((q.2 - r.2) + (r.2 - a.2)) := by grind
 have n3 : (b.1 - r.1) * (q.1 - b.1) = (b.1 - r.1) * ((q.1 - r.1) - (b.1 - r.1)) := by grind
 have n4 : (b.2 - r.2) * (q.2 - b.2) = (b.2 - r.2) * ((q.2 - r.2) - (b.2 - r.2)) := by grind
 rw [n1, n2] at l2
 rw [n3, n4] at m2
 rcases hu with hu | hu
 ·exact mid1 s1 hc hu hv (w1 := q.1 - r.1) (w2 := q.2 - r.2) (by omega) (by omega) (fun z => (l2 (by omega)).1) (fun z => (m2 (by omega)).1)
 ·
   have s2' : 0 ≤ (b.2 - r.2) * (r.2 - a.2) := by rw [Int.mul_comm]; exact s2
   by_cases hv2 : b.2 - r.2 = 0
   ·have : b.1 - r.1 ≠ 0 := by
     rcases hv with h | h
     ·exact h
     ·exact absurd hv2 h
    rw [hv2, Int.zero_mul] at hc
    rcases Int.mul_eq_zero.1 hc with h | h
    ·exact this h
    ·exact hu h
   ·have key : (b.2 - r.2) * ((q.1 - r.1) * (r.2 - a.2) - (q.2 - r.2) * (r.1 - a.1)) = (r.2 - a.2) * ((q.1 - r.1) * (b.2 - r.2) - (q.2 - r.2) * (b.1 - r.1)) := by grind
    generalize hA : (q.1 - r.1) * (r.2 - a.2) - (q.2 - r.2) * (r.1 - a.1) = A at *
    generalize hB : (q.1 - r.1) * (b.2 - r.2) - (q.2 - r.2) * (b.1 - r.1) = B at *
    generalize hU : r.2 - a.2 = u at *
    generalize hV : b.2 - r.2 = v at *
    generalize hW : q.2 - r.2 = w at *
    have hA0 : A ≤ 0 := by omega
    have hB0 : 0 ≤ B := by omega
    rcases Int.lt_or_le 0 u with hp | hp
    ·have hvp : 0 < v := by
      rcases Int.lt_or_le 0 v with h | h
      ·exact h
      ·have := Int.mul_neg_of_neg_of_pos (show v < 0 by omega) hp
       omega
     have g2 := Int.mul_nonneg (Int.le_of_lt hp) hB0
     have g1 := Int.mul_nonneg (Int.le_of_lt hvp) (show 0 ≤ -A by omega)
     rw [Int.mul_neg] at g1
     have a0 := (Int.mul_eq_zero.1 (show v * A = 0 by omega)).resolve_left hv2
     have b0 := (Int.mul_eq_zero.1 (show u * B = 0 by omega)).resolve_left hu
     have y1 := (l2 (by omega)).2
     have y2 := (m2 (by omega)).2
     rw [Int.neg_mul] at y1
     rcases Int.lt_or_le 0 w with h | h
     ·have := Int.mul_pos hp (show 0 < w + u by omega)
      omega
     ·have := Int.mul_neg_of_pos_of_neg hvp (show w - v < 0 by omega)
      omega
    ·have hun : u < 0 := by omega
     have hvn : v < 0 := by
      rcases Int.lt_or_le v 0 with h | h
      ·exact h
      ·have := Int.mul_neg_of_pos_of_neg (show 0 < v by omega) hun
       omega
     have g2 := Int.mul_nonneg (show 0 ≤ -u by omega) hB0
     have g1 := Int.mul_nonneg (show 0 ≤ -v by omega) (show 0 ≤ -A by omega)
     rw [Int.neg_mul] at g1 g2
     rw [Int.mul_neg] at g1
     have a0 := (Int.mul_eq_zero.1 (show v * A = 0 by omega)).resolve_left hv2
     have b0 := (Int.mul_eq_zero.1 (show u * B = 0 by omega)).resolve_left hu
     have y1 := (l2 (by omega)).2
     have y2 := (m2 (by omega)).2
     rcases Int.lt_or_le 0 w with h | h
     ·have := Int.mul_neg_of_neg_of_pos hvn (show 0 < w - v by omega)
      omega
     ·have := Int.mul_neg_of_pos_of_neg (show 0 < -u by omega) (show w + u < 0 by omega)
      omega
theorem ake {l : List (Int × Int)} (h : l.Nodup) {i j : Nat} (hi : i < l.length) (hj : j < l.length) (e : gP l i = gP l j) : i = j := by
 have h1 := uz hi
 have h2 := uz hj
 rw [e] at h1
 rw [List.getElem?_eq_getElem hi] at h1
 rw [List.getElem?_eq_getElem hj] at h2
 exact (List.getElem_inj h).1 ((Option.some.inj h1).trans (Option.some.inj h2).symm)
theorem au6 (l : List (Int × Int)) (i j : Nat) : ori (jw l) (jq l) i j = o3 (gP l (i % l.length)) (gP l ((i + 1) % l.length)) (gP l (j % l.length)) := by
 unfold ori o3
 simp only [aaX]
theorem aiR {l v : List (Int × Int)} (h3 : 3 ≤ v.length) (h12 : v.length ≤ 12) (hs : ∀ x ∈ v, sm x.1 = true ∧ sm x.2 = true) (hnd : v.Nodup) (hv : ∀ x ∈ v, x ∈ l) (hE : ∀ i, i < v.length → Ed (· ∈ l) (gP v i) (gP v ((i + 1) % v.length))) : kZ v = true := by
 have hg : Glob v.length (jw v) (jq v) := by
  rw [← akl h3, Qq]
  intro i _ hi
  rw [Qq]
  intro j _ hj
  rw [aeJ, Bool.or_eq_true, Bool.or_eq_true, decide_eq_true_eq, decide_eq_true_eq, decide_eq_true_eq]
  by_cases e1 : j = i
  ·exact .inl e1
  ·by_cases e2 : j = (i + 1) % v.length
   ·exact .inr (.inl e2)
   ·refine .inr (.inr ?_)
    have hi' : i < v.length := by omega
    have hj' : j < v.length := by omega
    have hm : (i + 1) % v.length < v.length := Nat.mod_lt _ (by omega)
    rw [au6, Nat.mod_eq_of_lt hi', Nat.mod_eq_of_lt hj']
    have hei := hE i hi'
    obtain ⟨k1, k2⟩ := hei.left _ (hv _ (pX hj'))
    rcases Int.lt_or_le 0 (o3 (gP v i) (gP v ((i + 1) % v.length)) (gP v j)) with h | h
    ·exact h
    ·exfalso
     have h0 : o3 (gP v i) (gP v ((i + 1) % v.length)) (gP v j) = 0 := by omega
     exact aDg (hE j hj') hei.ma hei.mq (k2 h0) h0 (fun e => e1 (ake hnd hj' hi' e)) (fun e => e2 (ake hnd hj' hm e))
 have hloc := (ako (ag4 h3)).2 hg
 rw [← alS h3] at hloc
 unfold kZ
 rw [hloc.1, hloc.2, afD.2 ⟨by omega, by omega⟩]
 simp only [Bool.true_and, decide_true, Bool.and_true, List.all_eq_true]
 intro x hx
 rw [(hs x hx).1, (hs x hx).2]
 rfl
theorem ah1 {l v : List (Int × Int)} (h : akG l v) {p0 p1 p2 : Int × Int} (h0 : p0 ∈ l) (h1 : p1 ∈ l) (h2 : p2 ∈ l) (ho : o3 p0 p1 p2 ≠ 0) : 3 ≤ v.length ∧ v.Nodup ∧ ∀ i, i < v.length → Ed (· ∈ l) (gP v i) (gP v ((i + 1) % v.length)) := by
 rcases h with ⟨a, rfl, ha⟩ | ⟨hl, hn, hE⟩
 ·rw [ha p0 h0, ha p1 h1, ha p2 h2] at ho
  exact absurd (by unfold o3; grind) ho
 ·refine ⟨?_, hn, hE⟩
  rcases Nat.lt_or_ge v.length 3 with h | h
  ·exfalso
   have e : v.length = 2 := by omega
   have a1 := hE 0 (by omega)
   have a2 := hE 1 (by omega)
   rw [e] at a1 a2
   have ea : (0 + 1) % 2 = 1 := rfl
   have eb : (1 + 1) % 2 = 0 := rfl
   rw [ea] at a1
   rw [eb] at a2
   generalize gP v 0 = x at a1 a2
   generalize gP v 1 = y at a1 a2
   have z : ∀ r ∈ l, (y.1 - x.1) * (r.2 - x.2) - (y.2 - x.2) * (r.1 - x.1) = 0 := fun r hr => by
    have k1 := (a1.left r hr).1
    have k2 := (a2.left r hr).1
    have e1 : o3 y x r = -(o3 x y r) := by unfold o3; grind
    rw [← EX]
    omega
   have z0 := z p0 h0
   have z1 := z p1 h1
   have z2 := z p2 h2
   have hne : y.1 - x.1 ≠ 0 ∨ y.2 - x.2 ≠ 0 := by
    rcases Decidable.em (y.1 - x.1 = 0) with h1 | h1
    ·rcases Decidable.em (y.2 - x.2 = 0) with h2 | h2
     ·exact absurd (Prod.ext (by omega) (by omega)) a1.ne
     ·exact .inr h2
    ·exact .inl h1
   have w1 : (y.1 - x.1) * (p1.2 - p0.2) = (y.2 - x.2) * (p1.1 - p0.1) := by grind
   have w2 : (y.1 - x.1) * (p2.2 - p1.2) = (y.2 - x.2) * (p2.1 - p1.1) := by grind
   apply ho
   unfold o3
   rcases hne with hne | hne
   ·have : (y.1 - x.1) * ((p1.1 - p0.1) * (p2.2 - p1.2) - (p1.2 - p0.2) * (p2.1 - p1.1)) = 0 := by grind
    exact (Int.mul_eq_zero.1 this).resolve_left hne
   ·have : (y.2 - x.2) * ((p1.1 - p0.1) * (p2.2 - p1.2) - (p1.2 - p0.2) * (p2.1 - p1.1)) = 0 := by grind
    exact (Int.mul_eq_zero.1 this).resolve_left hne
  ·exact h
theorem acL {l : List (Int × Int)} (h : kZ l = true) : ∀ e ∈ l, sm e.1 = true ∧ sm e.2 = true := by
 unfold kZ at h
 simp only [Bool.and_eq_true, List.all_eq_true] at h
 exact fun e he => h.2.1 e he
theorem apI (k : Nat) (hk : 2000010 < k) {l : List (Int × Int)} (hl : l.length ≤ 1048576) : (∃ z, (∀ r0 r1, iY (α := α) k l r0 r1 = r0 z) ∧ ∀ r0 r1, iJ (α := α) k l r0 r1 = r0 z) ∨
 ∃ v, v.length ≤ 12 ∧ (∀ r0 r1, iY (α := α) k l r0 r1 = r1 v 0) ∧ ∀ r0 r1, iJ (α := α) k l r0 r1 = r1 v 0 := by
 have hb : l.length ≤ big := by rw [nJ]; omega
 simp only [iY, ae1, iJ, acE, ab4, acU, aq9 k l hb (by omega), TZ k l hb (by omega)]
 cases hc : l.all fun e => crd e.1 && crd e.2 with
 | false => exact .inl ⟨1, fun _ _ => by simp, fun _ _ => by simp⟩
 | true =>
   by_cases h : 100 < (l.length : Int)
   ·exact .inl ⟨2, fun _ _ => by simp [h], fun _ _ => by simp [h]⟩
   ·have hcp : ∀ x ∈ l, crdP x := fun x hx => by
     have := List.all_eq_true.1 hc x hx
     simpa [crdP] using this
    rcases az7 (α := α) k hk (l := l) (by omega) hcp with ⟨z, h1, h2⟩ | ⟨v, hv, h1, h2⟩
    ·exact .inl ⟨z, fun r0 r1 => by simp [h, h1], fun r0 r1 => by simp [h, h2]⟩
    ·exact .inr ⟨v, hv, fun r0 r1 => by simp [h, h1], fun r0 r1 => by simp [h, h2]⟩
def mapQ (m m1 m2 m3 b b1 : Int) (e : Int × Int) : Int × Int := (m * e.1 + m1 * e.2 + b, m2 * e.1 + m3 * e.2 + b1)
theorem ajB {m m1 a a1 : Int} (h1 : crd m = true) (h2 : crd m1 = true) (h3 : sm a = true) (h4 : sm a1 = true) : w64 (w64 (m * a) + w64 (m1 * a1)) = m * a + m1 * a1 ∧ -2000000000 ≤ m * a + m1 * a1 ∧ m * a + m1 * a1 ≤ 2000000000 := by
 rw [uq] at h1 h2
 unfold sm at h3 h4
 rw [afD] at h3 h4
 have g1 := uk h1.1 h1.2 h3.1 h3.2
 have g2 := uk h2.1 h2.2 h4.1 h4.2
 rw [aK (n := m * a) (by omega) (by omega), aK (n := m1 * a1) (by omega) (by omega), aK (by omega) (by omega)]
 exact ⟨rfl, by omega, by omega⟩
theorem ave (k : Nat) {m m1 m2 m3 b b1 : Int} (hm : crd m = true ∧ crd m1 = true ∧ crd m2 = true ∧ crd m3 = true) (hb : crd b = true ∧ crd b1 = true) {x y : Int} (hx : sm x = true) (hy : sm y = true) (r : Int → Int → Option α) :
 (LW k m m1 m2 m3 x y fun v4 v5 => yX k v4 v5 b b1 1 r) = r (mapQ m m1 m2 m3 b b1 (x, y)).1 (mapQ m m1 m2 m3 b b1 (x, y)).2 := by
 obtain ⟨e1, e2, e3⟩ := ajB hm.1 hm.2.1 hx hy
 obtain ⟨f1, f2, f3⟩ := ajB hm.2.2.1 hm.2.2.2 hx hy
 obtain ⟨g1, g2⟩ := hb
 rw [uq] at g1 g2
 simp only [LW, aa4, yX, LY, e1, f1, Int.one_mul]
 rw [aK (n := b) (by omega) (by omega), aK (n := b1) (by omega) (by omega), aK (by omega) (by omega), aK (by omega) (by omega)]
 rfl
theorem as9 (k : Nat) {m m1 m2 m3 b b1 : Int} (hm : crd m = true ∧ crd m1 = true ∧ crd m2 = true ∧ crd m3 = true) (hb : crd b = true ∧ crd b1 = true) {x y : Int} (hx : sm x = true) (hy : sm y = true) (r : Int → Int → Option α) :
 (zk k m m1 m2 m3 x y fun v4 v5 => jy k v4 v5 b b1 1 r) = r (mapQ m m1 m2 m3 b b1 (x, y)).1 (mapQ m m1 m2 m3 b b1 (x, y)).2 := by
 obtain ⟨e1, e2, e3⟩ := ajB hm.1 hm.2.1 hx hy
 obtain ⟨f1, f2, f3⟩ := ajB hm.2.2.1 hm.2.2.2 hx hy
 obtain ⟨g1, g2⟩ := hb
 rw [uq] at g1 g2
 simp only [zk, WJ, jy, Fj, e1, f1, Int.one_mul]
 rw [aK (n := b) (by omega) (by omega), aK (n := b1) (by omega) (by omega), aK (by omega) (by omega), aK (by omega) (by omega)]
 rfl
theorem aok {l : List (Int × Int)} (hl : l.length ≤ 12) (hs : ∀ e ∈ l, sm e.1 = true ∧ sm e.2 = true) {m m1 m2 m3 b b1 : Int} (hm : crd m = true ∧ crd m1 = true ∧ crd m2 = true ∧ crd m3 = true) (hb : crd b = true ∧ crd b1 = true)
 (c : Int → Int → Int → Int → Int → Int → Int → Int → List (Int × Int) → List (Int × Int) → Option α) (r0 : Int → Option α) (r1 : List (Int × Int) → Int → Option α) :
 ∀ (rest : List (Int × Int)) (k i : Nat) (out : List (Int × Int)), l.drop i = rest → i ≤ l.length → out.length ≤ i → rest.length < k →
 BQ k l.length i m m1 m2 m3 b b1 out l c r0 r1 = c l.length l.length m m1 m2 m3 b b1 (out ++ rest.map (mapQ m m1 m2 m3 b b1)) l
 | [], k + 1, i, out, hd, hi, _, _ => by
   have := yK hd
   have e : (i : Int) = l.length := by omega
   rw [BQ, Uj, e, iW (by omega), cond_false]
   simp
 | x :: rest, k + 1, i, out, hd, hi, ho, hk => by
   obtain ⟨g1, g2, g3⟩ := wJ hd
   have hx := hs x (List.mem_of_getElem? g1)
   have en : w64 ((i : Int) + 1) = ((i + 1 : Nat) : Int) := by rw [aK (by omega) (by omega)]; omega
   simp only [List.length_cons] at hk
   rw [BQ, Uj, dY (by omega), gW (by omega), Bool.and_self, cond_true, cond_true, Int.toNat_natCast, g1, Option.bind_some, ave k hm hb hx.1 hx.2, show decide (out.length + 1 ≤ big) = true from DV (by rw [nJ]; omega), cond_true, en,
    aok hl hs hm hb c r0 r1 rest k (i + 1) _ g2 (by omega) (by simp; omega) (by omega), List.map_cons, List.append_assoc]
   rfl
 | _, 0, _, _, _, _, _, hk => by omega
theorem aq7 {l : List (Int × Int)} (hl : l.length ≤ 12) (hs : ∀ e ∈ l, sm e.1 = true ∧ sm e.2 = true) {m m1 m2 m3 b b1 : Int} (hm : crd m = true ∧ crd m1 = true ∧ crd m2 = true ∧ crd m3 = true) (hb : crd b = true ∧ crd b1 = true)
 (c : Int → List (Int × Int) → Int → Int → Int → Int → Int → Int → List (Int × Int) → Option α) (r0 : Int → Option α) (r1 : List (Int × Int) → Int → Option α) :
 ∀ (rest : List (Int × Int)) (k i : Nat) (out : List (Int × Int)), l.drop i = rest → i ≤ l.length → out.length ≤ i → rest.length < k →
 BX k i l m m1 m2 m3 b b1 out c r0 r1 = bif (rest.map (mapQ m m1 m2 m3 b b1)).all (fun e => sm e.1 && sm e.2) then c l.length l m m1 m2 m3 b b1 (out ++ rest.map (mapQ m m1 m2 m3 b b1)) else r0 3
 | [], k + 1, i, out, hd, hi, _, _ => by
   have := yK hd
   have e : (i : Int) = l.length := by omega
   rw [BX, Uw, e, iW (by omega), cond_false]
   simp
 | x :: rest, k + 1, i, out, hd, hi, ho, hk => by
   obtain ⟨g1, g2, g3⟩ := wJ hd
   have hx := hs x (List.mem_of_getElem? g1)
   have en : w64 ((i : Int) + 1) = ((i + 1 : Nat) : Int) := by rw [aK (by omega) (by omega)]; omega
   simp only [List.length_cons] at hk
   rw [BX, Uw, dY (by omega), gW (by omega), Bool.and_self, cond_true, cond_true, Int.toNat_natCast, g1, Option.bind_some, as9 k hm hb hx.1 hx.2, List.map_cons, List.all_cons]
   simp only [acx]
   show (bif !sm (mapQ m m1 m2 m3 b b1 x).1 then _ else bif !sm (mapQ m m1 m2 m3 b b1 x).2 then _ else _) = _
   cases h1 : sm (mapQ m m1 m2 m3 b b1 x).1 with
   | false => rfl
   | true =>
     cases h2 : sm (mapQ m m1 m2 m3 b b1 x).2 with
     | false => rfl
     | true =>
       simp only [Bool.not_true, cond_false, Bool.and_self, Bool.true_and]
       rw [show decide (out.length + 1 ≤ big) = true from DV (by rw [nJ]; omega), cond_true, en,
        aq7 hl hs hm hb c r0 r1 rest k (i + 1) _ g2 (by omega) (by simp; omega) (by omega), List.append_assoc]
       rfl
 | _, 0, _, _, _, _, _, hk => by omega
theorem ald (k : Nat) (s : List (Int × Int)) (hs : s.length ≤ 4000) (hk : 4000 < k) (r : Bool → Option α) : jV k s r = r (!(s.all fun e => sm e.1 && sm e.2)) := by
 unfold jV oz mY qW
 have h := aeR (α := α) (p := fun e : Int × Int => !(sm e.1 && sm e.2)) (L := iy)
  (fun k x i s b r => by
    simp only [iy, pV, Qw, aa0, aap, adC, acf]
    congr 1; congr 1; congr 1; funext e
    unfold sm
    cases inB e.1 (-1000) 1000 <;> cases inB e.2 (-1000) 1000 <;> rfl) s k 0 s
 rw [Int.natCast_zero] at h
 rw [h _ _ (by simp) (by rw [nJ]; omega) (by omega) (by omega)]
 cases hf : s.findIdx? (fun e : Int × Int => !(sm e.1 && sm e.2)) with
 | none =>
   rw [List.findIdx?_eq_none_iff] at hf
   have : (s.all fun e => sm e.1 && sm e.2) = true := List.all_eq_true.2 fun e he => by simpa using hf e he
   simp [this]
 | some j =>
   rw [List.findIdx?_eq_some_iff_getElem] at hf
   obtain ⟨hj, hp, _⟩ := hf
   have : (s.all fun e => sm e.1 && sm e.2) = false := by
    rw [List.all_eq_false]
    exact ⟨s[j], List.getElem_mem hj, by cases h1 : sm s[j].1 <;> cases h2 : sm s[j].2 <;> simp_all⟩
   rw [this]
   simp
theorem ayG (k : Nat) {m m1 m2 m3 : Int} (hm : crd m = true ∧ crd m1 = true ∧ crd m2 = true ∧ crd m3 = true) : ∃ u : Bool, (u = true → m * m3 - m1 * m2 = 1 ∨ m * m3 - m1 * m2 = -1) ∧ (∀ r : Bool → Option α, DJ k m m1 m2 m3 r = r u) ∧ ∀ r : Bool → Option α, Zq k m m1 m2 m3 r = r u := by
 obtain ⟨h0, h1, h2, h3⟩ := hm
 rw [uq] at h0 h1 h2 h3
 have hd : w64 (w64 (m * m3) - w64 (m1 * m2)) = m * m3 - m1 * m2 := ahu (by omega) (by omega) (by omega) (by omega)
 have g1 := uk h0.1 h0.2 h3.1 h3.2
 have g2 := uk h1.1 h1.2 h2.1 h2.2
 refine ⟨decide (m * m3 - m1 * m2 = 1) || decide (m * m3 - m1 * m2 = -1), fun h => ?_, fun r => ?_, fun r => ?_⟩
 ·simpa using h
 ·simp only [DJ, Tj, abe, acm, FQ, aaG, Aw, aeF, hd]
  rw [aK (by omega) (by omega)]
  congr 1
  rw [Bool.eq_iff_iff]
  simp only [Bool.or_eq_true, decide_eq_true_eq]
  omega
 ·simp only [Zq, adW, acv, adK, hd]
  by_cases h : m * m3 - m1 * m2 = 1
  ·simp [h]
  ·simp [h]
theorem arI (m m1 m2 m3 b b1 : Int) (x y z : Int × Int) : o3 (mapQ m m1 m2 m3 b b1 x) (mapQ m m1 m2 m3 b b1 y) (mapQ m m1 m2 m3 b b1 z) = (m * m3 - m1 * m2) * o3 x y z := by
 unfold o3 mapQ
 grind
theorem arU (l : List (Int × Int)) (i : Nat) : cr (jw l) (jq l) i (i + 1) = o3 (gP l (i % l.length)) (gP l ((i + 1) % l.length)) (gP l ((i + 2) % l.length)) := by
 unfold cr o3
 simp only [aaX]
theorem awX (k : Nat) (hk : 2000010 < k) (m m1 m2 m3 : Int) (l : List (Int × Int)) (b b1 : Int) : (∃ z, (∀ r0 r1, KY (α := α) k m m1 m2 m3 l b b1 r0 r1 = r0 z) ∧ ∀ r0 r1, fJ (α := α) k m m1 m2 m3 l b b1 r0 r1 = r0 z) ∨
 ∃ v, v.length ≤ 12 ∧ (∀ r0 r1, KY (α := α) k m m1 m2 m3 l b b1 r0 r1 = r1 v 0) ∧ ∀ r0 r1, fJ (α := α) k m m1 m2 m3 l b b1 r0 r1 = r1 v 0 := by
 simp only [KY, aci, fJ, ZQ, ajK, agn k (by omega), LZ k (by omega), zy k (by omega), acA, Wv]
 cases hm : (crd m && (crd m1 && (crd m2 && crd m3))) with
 | false => exact .inl ⟨1, fun _ _ => by simp, fun _ _ => by simp⟩
 | true =>
   simp only [Bool.and_eq_true] at hm
   cases hp : kZ l with
   | false => exact .inl ⟨1, fun _ _ => by simp, fun _ _ => by simp⟩
   | true =>
     cases hb : crd b && crd b1 with
     | false => exact .inl ⟨1, fun _ _ => by simp, fun _ _ => by simp⟩
     | true =>
       simp only [Bool.and_eq_true] at hb
       obtain ⟨u, hu, u1, u2⟩ := ayG (α := α) k hm
       simp only [u1, u2, Bool.not_true, cond_false]
       cases u with
       | false => exact .inl ⟨5, fun _ _ => by simp, fun _ _ => by simp⟩
       | true =>
         have hdet := hu rfl
         obtain ⟨p1, p2⟩ := nX hp
         have i1 := fun c r0 r1 => aok (α := α) p2 (acL hp) hm hb c r0 r1 l k 0 [] rfl (by omega) (by simp) (by omega)
         have i2 := fun c r0 r1 => aq7 (α := α) p2 (acL hp) hm hb c r0 r1 l k 0 [] rfl (by omega) (by simp) (by omega)
         simp only [Int.natCast_zero, List.nil_append] at i1 i2
         simp only [Bool.not_true, cond_false, i1, i2]
         generalize hq : l.map (mapQ m m1 m2 m3 b b1) = q
         have hql : q.length = l.length := by rw [← hq, List.length_map]
         simp only [ald k q (by omega) (by omega)]
         cases hsm : q.all fun e => sm e.1 && sm e.2 with
         | false => exact .inl ⟨3, fun _ _ => by simp, fun _ _ => by simp⟩
         | true =>
           have hqs : ∀ x ∈ q, sm x.1 = true ∧ sm x.2 = true := fun x hx => by
            have := List.all_eq_true.1 hsm x hx
            simpa using this
           have hqc : ∀ x ∈ q, crdP x := fun x hx => ⟨wZ (hqs x hx).1, wZ (hqs x hx).2⟩
           obtain ⟨v, v1, v2, v3, v4, v5⟩ := agD (α := α) k hk (l := q) (by omega) hqc
           have hne : q ≠ [] := fun e => by rw [e] at hql; simp at hql; omega
           have hmem : ∀ i, i < l.length → mapQ m m1 m2 m3 b b1 (gP l i) ∈ q := fun i hi => by
            rw [← hq]
            exact List.mem_map.2 ⟨gP l i, pX hi, rfl⟩
           have hcr := agd hp 0 (by omega)
           rw [arU, Nat.mod_eq_of_lt (show 0 < l.length by omega), Nat.mod_eq_of_lt (show 0 + 1 < l.length by omega), Nat.mod_eq_of_lt (show 0 + 2 < l.length by omega)] at hcr
           obtain ⟨w1, w2, w3⟩ := ah1 (v3 hne) (hmem 0 (by omega)) (hmem (0 + 1) (by omega)) (hmem (0 + 2) (by omega)) (by
            rw [arI]
            rcases hdet with h | h <;> rw [h] <;> omega)
           have hpv := aiR w1 (by omega) (fun x hx => hqs x (v2 x hx)) w2 v2 w3
           refine .inr ⟨v, by omega, fun r0 r1 => ?_, fun r0 r1 => ?_⟩
           ·rw [cond_true, v4]
           ·rw [Bool.not_true, cond_false, v5, if_neg (by omega), hpv]
            rfl
theorem azc (k : Nat) (hk : 2000010 < k) {l : List (Int × Int)} (hl : l.length ≤ 4000) (hc : ∀ x ∈ l, crdP x) : (∃ z, z ≠ 0 ∧ (∀ r0 r1, vW (α := α) k l r0 r1 = r0 z)) ∨
 ∃ v, kZ v = true ∧ (∀ r0 r1, vW (α := α) k l r0 r1 = r1 v 0) := by
 obtain ⟨v, h1, h2, _, h3, h4⟩ := agD (α := α) k hk hl hc
 have hs : ∀ (r0 : Int → Option α) (r1 : List (Int × Int) → Int → Option α), vW k l r0 r1 = if v.length < 3 then r0 5 else bif kZ v then r1 v 0 else r0 3 := fun r0 r1 => by
  unfold vW acb
  rw [h3]
  by_cases h : v.length < 3
  ·rw [dY (by omega), if_pos h]
   rfl
  ·rw [iW (by omega), if_neg h, cond_false, LZ k (by omega)]
   cases kZ v <;> rfl
 by_cases h : v.length < 3
 ·exact .inl ⟨5, by omega, fun r0 r1 => by rw [hs, if_pos h]⟩
 ·cases hp : kZ v with
  | false => exact .inl ⟨3, by omega, fun r0 r1 => by rw [hs, if_neg h, hp]; rfl⟩
  | true => exact .inr ⟨v, hp, fun r0 r1 => by rw [hs, if_neg h, hp]; rfl⟩
theorem alF {l : List Int} (hl : Dx l) {most : Int} (h0 : 0 ≤ most) (h1 : most ≤ 1000000) (K : Int) : ∀ (m k : Nat) (a h : Int) (all : List (Int × Int)), AtC l a → all.length + m ≤ 1000 → (∀ x ∈ all, crdP x) → m < k →
 ∃ out a' h', AtC l a' ∧ out.length ≤ all.length + m ∧ (∀ x ∈ out, crdP x) ∧ ∀ (b : Int → Int → Int → Int → Int → List (Int × Int) → List Int → Option α) (r0 : Int → Int → Option α) (r1 : List (Int × Int) → Int → Int → Option α),
   zq k most K m a h all l b r0 r1 = b most K 0 a' h' out l
 | 0, k + 1, a, h, all, ha, hn, hc, _ => ⟨all, a, h, ha, by omega, hc, fun b r0 r1 => by rw [zq, XZ, iW (by omega), cond_false]; rfl⟩
 | m + 1, k + 1, a, h, all, ha, hn, hc, hk => by
   obtain ⟨x, y, a1, h1', i1, i2, i3, i4⟩ := aik (α := α) hl ha k h h0 (by omega : most ≤ 1000000000)
   have hcr : crdP (x, y) := ⟨uq.2 (by show -1000000 ≤ x ∧ x ≤ 1000000; omega), uq.2 (by show -1000000 ≤ y ∧ y ≤ 1000000; omega)⟩
   obtain ⟨out, a2, h2, j1, j2, j3, j4⟩ := alF hl h0 h1 K m k a1 h1' (all ++ [(x, y)]) i1 (by simp; omega) (fun z hz => by
    rcases List.mem_append.1 hz with q | q
    ·exact hc z q
    ·rw [List.mem_singleton.1 q]; exact hcr) (by omega)
   refine ⟨out, a2, h2, j1, by simp at j2; omega, j3, fun b r0 r1 => ?_⟩
   have hd : decide (all.length + 1 ≤ big) = true := decide_eq_true (by rw [nJ]; omega)
   rw [zq, XZ, dY (by omega), cond_true, i4, hd, cond_true, aK (by omega) (by omega), show ((m + 1 : Nat) : Int) - 1 = (m : Int) by omega, j4]
 | _, 0, _, _, _, _, _, _, hk => by omega
theorem alA {l : List Int} (hl : Dx l) {most : Int} (h0 : 0 ≤ most) (h1 : most ≤ 1000000) : ∀ (m k i : Nat) (a h : Int), AtC l a → i + m = 6 → 2000020 + m < k →
 (∃ v a' h', AtC l a' ∧ kZ v = true ∧ ∀ b r0 (r1 : List (Int × Int) → Int → Int → Option α), rW k most i a h l b r0 r1 = r1 v a' h') ∨
 (∃ a' h' , AtC l a' ∧ ∀ b r0 (r1 : List (Int × Int) → Int → Int → Option α), rW k most i a h l b r0 r1 = b most 6 a' h' l)
 | 0, k + 1, i, a, h, ha, hi, _ => .inr ⟨a, h, ha, fun b r0 r1 => by
   have : i = 6 := by omega
   subst this
   rw [rW, Vz, iW (by omega), cond_false]
   rfl⟩
 | m + 1, k + 1, i, a, h, ha, hi, hk => by
   obtain ⟨v, a1, h1', i1, i2, i3, i4⟩ := LV (α := α) hl ha k h 6
   obtain ⟨n, hn⟩ : ∃ n : Nat, 3 + v = n := ⟨(3 + v).toNat, by omega⟩
   obtain ⟨out, a2, h2, j1, j2, j3, j4⟩ := alF (α := α) hl h0 h1 i n k a1 h1' [] i1 (by simp; omega) (by simp) (by omega)
   have en : w64 ((i : Int) + 1) = ((i + 1 : Nat) : Int) := by rw [aK (by omega) (by omega)]; omega
   have step : ∀ b r0 (r1 : List (Int × Int) → Int → Int → Option α), rW (k + 1) most i a h l b r0 r1 = vW k out
    (fun v7 => bif decide (v7 = 0) then r0 a2 h2 else rW k most ((i + 1 : Nat) : Int) a2 h2 l b r0 r1)
    (fun v8 v9 => bif decide (v9 = 0) then r1 v8 a2 h2 else rW k most ((i + 1 : Nat) : Int) a2 h2 l b r0 r1) := fun b r0 r1 => by
    rw [rW, Vz, dY (by omega), cond_true, i4, aK (n := 3 + v) (by omega) (by omega), hn, j4, en]
   rcases azc (α := α) k (by omega) (l := out) (by simp at j2; omega) j3 with ⟨z, z1, z2⟩ | ⟨w, w1, w2⟩
   ·rcases alA hl h0 h1 m k (i + 1) a2 h2 j1 (by omega) (by omega) with ⟨u, a3, h3, q1, q2, q3⟩ | ⟨a3, h3, q1, q3⟩
    ·refine .inl ⟨u, a3, h3, q1, q2, fun b r0 r1 => ?_⟩
     rw [step, z2, decide_eq_false z1, cond_false, q3]
    ·refine .inr ⟨a3, h3, q1, fun b r0 r1 => ?_⟩
     rw [step, z2, decide_eq_false z1, cond_false, q3]
   ·exact .inl ⟨w, a2, h2, j1, w1, fun b r0 r1 => by rw [step, w2]; rfl⟩
 | _, 0, _, _, _, _, _, hk => by omega
theorem atf : kZ [(0, 0), (1, 0), (0, 1)] = true := by decide
theorem arP {l : List Int} (hl : Dx l) {a : Int} (ha : AtC l a) (k : Nat) (hk : 2000030 < k) (h : Int) {most : Int} (h0 : 0 ≤ most) (h1 : most ≤ 1000000) :
 ∃ v a' h', AtC l a' ∧ kZ v = true ∧ ∀ r0 (r1 : List (Int × Int) → Int → Int → Option α), aag k l a h most r0 r1 = r1 v a' h' := by
 unfold aag acX
 rcases alA (α := α) hl h0 h1 6 k 0 a h ha (by omega) (by omega) with ⟨v, a', h', i1, i2, i3⟩ | ⟨a', h', i1, i3⟩
 ·exact ⟨v, a', h', i1, i2, fun r0 r1 => i3 _ r0 r1⟩
 ·exact ⟨[(0, 0), (1, 0), (0, 1)], a', h', i1, atf, fun r0 r1 => i3 _ r0 r1⟩
theorem aAf {l : List Int} (hl : Dx l) {a : Int} (ha : AtC l a) (k : Nat) (h : Int) {list : List (Int × Int)} (h3 : 3 ≤ list.length) (h12 : list.length ≤ 12) :
 ∃ v a' h', AtC l a' ∧ v.length ≤ 24 ∧ (v = [] → False) ∧ ∀ r : List (Int × Int) → Int → Int → Option α, aaV k l a h list r = r v a' h' := by
 obtain ⟨v, a1, h1, i1, i2, i3, i4⟩ := LV (α := α) hl ha k h (list.length : Int)
 obtain ⟨w, a2, h2, j1, j2, j3, j4⟩ := LV (α := α) hl i1 k h1 40
 obtain ⟨z, a3, h3', q1, q2, q3⟩ := aef (α := α) hl j1 k h2 (list := [1001, (-1001), 1099511627776]) (by simp) (by simp)
 obtain ⟨out, ho⟩ : ∃ out, ([] ++ (List.take (list.length - v.toNat) (List.drop v.toNat list))) ++ (List.take (v.toNat - 0) (List.drop 0 list)) = out := ⟨_, rfl⟩
 have hlen : out.length = list.length := by
  rw [← ho]
  simp only [List.nil_append, List.length_append, List.length_take, List.length_drop]
  omega
 have d0 : (decide (0 ≤ v) && decide (v ≤ (list.length : Int))) = true := by
  rw [gW i2, gW (by omega)]; rfl
 have d1 : decide ((0 + (List.length (List.take (list.length - v.toNat) (List.drop v.toNat list)))) ≤ big) = true := decide_eq_true (by
  rw [nJ]; simp only [List.length_take, List.length_drop]; omega)
 have d2 : decide (((List.length ([] ++ (List.take (list.length - v.toNat) (List.drop v.toNat list)))) + (List.length (List.take (v.toNat - 0) (List.drop 0 list)))) ≤ big) = true := decide_eq_true (by
  rw [nJ]; simp only [List.nil_append, List.length_take, List.length_drop]; omega)
 have e0 : out[0]? = some out[0] := List.getElem?_eq_getElem (by omega)
 have e1 : out[1]? = some out[1] := List.getElem?_eq_getElem (by omega)
 have key : ∀ (r : List (Int × Int) → Int → Int → Option α), aaV k l a h list r = bif decide (w = 0) then r (List.take 2 out) a2 h2 else bif decide (w = 1) then r (List.set (List.set out 0 (out[1].1, out[1].2)) 1 (out[0].1, out[0].2)) a2 h2 else bif decide (w = 2) then r (List.set out 0 (z, 0)) a3 h3' else bif decide (w = 3) then r (out ++ out) a2 h2 else r out a2 h2 := fun r => by
  unfold aaV ae0
  rw [i4, d0, cond_true, cond_true, d1, cond_true, d2, cond_true, j4]
  simp only [ho]
  have c0 : decide ((0 : Int) < ((List.length out : Nat) : Int)) = true := decide_eq_true (by omega)
  have c1 : decide ((1 : Int) < ((List.length out : Nat) : Int)) = true := decide_eq_true (by omega)
  have c2 : decide ((2 : Int) ≤ ((List.length out : Nat) : Int)) = true := decide_eq_true (by omega)
  have c3 : decide ((1 : Int) < ((List.length (List.set out 0 (out[1].1, out[1].2)) : Nat) : Int)) = true := decide_eq_true (by rw [List.length_set]; omega)
  have c4 : (List.set out 0 (out[1].1, out[1].2))[1]? = some out[1] := by
   rw [List.getElem?_set_ne (by omega)]; exact e1
  have c5 : decide (out.length + out.length ≤ big) = true := decide_eq_true (by rw [nJ]; omega)
  cases decide (w = 0) with
  | true => rw [cond_true, cond_true, c2, Bool.and_true, cond_true]
  | false =>
    rw [cond_false, cond_false]
    cases decide (w = 1) with
    | true =>
      rw [cond_true, cond_true, c0, Bool.and_true, cond_true, e0, Option.bind_some, c1, Bool.and_true, cond_true, e1, Option.bind_some, cond_true, Option.bind_some, c3, Bool.and_true, cond_true, c4, Option.bind_some]
    | false =>
      rw [cond_false, cond_false]
      cases decide (w = 2) with
      | true => rw [cond_true, cond_true, q3, c0, Bool.and_true, cond_true, e0, Option.bind_some]
      | false =>
        rw [cond_false, cond_false]
        cases decide (w = 3) with
        | true => rw [cond_true, cond_true, c5, cond_true]
        | false => rfl
 have ne : ∀ {x : List (Int × Int)}, 0 < x.length → x = [] → False := fun hx e => by rw [e] at hx; simp at hx
 by_cases w0 : w = 0
 ·exact ⟨List.take 2 out, a2, h2, j1, by simp; omega, ne (by simp; omega), fun r => by rw [key, decide_eq_true w0, cond_true]⟩
 ·by_cases w1 : w = 1
  ·exact ⟨List.set (List.set out 0 (out[1].1, out[1].2)) 1 (out[0].1, out[0].2), a2, h2, j1, by simp; omega, ne (by simp; omega), fun r => by rw [key, decide_eq_false w0, decide_eq_true w1, cond_false, cond_true]⟩
  ·by_cases w2 : w = 2
   ·exact ⟨List.set out 0 (z, 0), a3, h3', q1, by simp; omega, ne (by simp; omega), fun r => by rw [key, decide_eq_false w0, decide_eq_false w1, decide_eq_true w2, cond_false, cond_false, cond_true]⟩
   ·by_cases w3 : w = 3
    ·exact ⟨out ++ out, a2, h2, j1, by simp; omega, ne (by simp; omega), fun r => by rw [key, decide_eq_false w0, decide_eq_false w1, decide_eq_false w2, decide_eq_true w3, cond_false, cond_false, cond_false, cond_true]⟩
    ·exact ⟨out, a2, h2, j1, by omega, ne (by omega), fun r => by rw [key, decide_eq_false w0, decide_eq_false w1, decide_eq_false w2, decide_eq_false w3, cond_false, cond_false, cond_false, cond_false]⟩
theorem acP {l : List Int} (hl : Dx l) {a : Int} (ha : AtC l a) (k : Nat) (hk : 2000030 < k) (h : Int) :
 ∃ v a' h', AtC l a' ∧ v.length ≤ 24 ∧ (v = [] → False) ∧ ∀ r : List (Int × Int) → Int → Int → Option α, vX k l a h r = r v a' h' := by
 obtain ⟨m, a1, h1, i1, i2, i3⟩ := aef (α := α) hl ha k h (list := [2, 3, 5, 10, 100, 1000]) (by simp) (by simp)
 have hm : 0 ≤ m ∧ m ≤ 1000000 := by
  simp only [List.mem_cons, List.not_mem_nil, or_false] at i2
  omega
 obtain ⟨w, a2, h2, j1, j2, j3⟩ := arP (α := α) hl i1 k hk h1 hm.1 hm.2
 obtain ⟨p1, p2⟩ := nX j2
 obtain ⟨v, a3, h3, q1, q2, q3, q4⟩ := aAf (α := α) hl j1 k h2 p1 p2
 exact ⟨v, a3, h3, q1, q2, q3, fun r => by unfold vX ael; rw [i3, j3, q4]⟩
theorem akn {l : List Int} (hl : Dx l) (k : Nat) (hk : 2000030 < k) : ∃ v : List (Int × Int), v.length ≤ 24 ∧ ∀ r : List (Int × Int) → Option α, (sV k l fun v v1 => vX k l v v1 fun v2 _ _ => r v2) = r v := by
 obtain ⟨h, i1, i2⟩ := ag1 (α := α) hl k (by omega)
 obtain ⟨v, a', h', j1, j2, _, j3⟩ := acP (α := α) hl i1 k hk h
 exact ⟨v, j2, fun r => by rw [i2, j3]⟩
def ledG (u m q v : Int × Int) : Int × Int :=
 (dt v m - (dt q m / max (dt u q) (-(dt u q))) * (if dt u q < 0 then -1 else 1) * dt u v, (if dt u q < 0 then -1 else 1) * dt u v)
theorem atS (l : List (Int × Int)) (e : Int × Int) : ledP l e = ledG (uF l) (mF l) (subP (gP l 2) (gP l 1)) (subP e (gP l 0)) := rfl
theorem ase {u m m' q : Int × Int} (h : dt u m = 1) (h' : dt u m' = 1) (hy : dt u q ≠ 0) (v : Int × Int) : ledG u m' q v = ledG u m q v := by
 have key : ∀ z : Int × Int, dt z m' = dt z m - dt m' m * dt u z := fun z => by
  have p : dt z m' * dt u m - dt z u * dt m' m + dt z m * dt m' u = 0 := by unfold dt; grind
  have e1 : dt m' u = -(dt u m') := by unfold dt; grind
  have e2 : dt z u = -(dt u z) := by unfold dt; grind
  rw [h, e1, h', e2] at p
  rw [Int.neg_mul, Int.mul_comm (dt u z)] at p
  omega
 generalize ht : dt m' m = t at key
 unfold ledG
 rw [key v, key q]
 generalize dt u q = y at hy
 generalize dt q m = x
 generalize dt v m = a
 generalize dt u v = b
 by_cases h0 : y < 0
 ·have e : max y (-y) = -y := by omega
  rw [e, if_pos h0]
  have f : (x - t * y) / (-y) = x / (-y) + t := by
   have : x - t * y = x + t * (-y) := by rw [Int.mul_neg]; omega
   rw [this, Int.add_mul_ediv_right _ _ (by omega)]
  rw [f]
  refine Prod.ext ?_ rfl
  show a - t * b - (x / -y + t) * -1 * b = a - x / -y * -1 * b
  grind
 ·have e : max y (-y) = y := by omega
  rw [e, if_neg h0]
  have f : (x - t * y) / y = x / y - t := by
   have : x - t * y = x + (-t) * y := by rw [Int.neg_mul]; omega
   rw [this, Int.add_mul_ediv_right _ _ (by omega)]
   omega
  rw [f]
  refine Prod.ext ?_ rfl
  show a - t * b - (x / y - t) * 1 * b = a - x / y * 1 * b
  grind
def linM (a b c d : Int) (v : Int × Int) : Int × Int := (a * v.1 + b * v.2, c * v.1 + d * v.2)
theorem ai6 (a b c d : Int) (u v : Int × Int) : dt (linM a b c d u) (linM a b c d v) = (a * d - b * c) * dt u v := by
 unfold dt linM
 grind
theorem ayr {a b c d ε : Int} (hε : ε = 1 ∨ ε = -1) (hd : a * d - b * c = ε) {u m q : Int × Int} (hy : dt u q ≠ 0) (v : Int × Int) :
 ledG (linM a b c d u) (linM a b c d (ε * m.1, ε * m.2)) (linM a b c d q) (linM a b c d v) = ledG u m q v := by
 have e1 : ∀ z : Int × Int, dt (linM a b c d z) (linM a b c d (ε * m.1, ε * m.2)) = dt z m := fun z => by
  rw [ai6, hd]
  have : dt z (ε * m.1, ε * m.2) = ε * dt z m := by unfold dt; grind
  rw [this, ← Int.mul_assoc]
  rcases hε with e | e <;> subst e <;> omega
 have e2 : ∀ z : Int × Int, dt (linM a b c d u) (linM a b c d z) = ε * dt u z := fun z => by rw [ai6, hd]
 unfold ledG
 rw [e1, e1, e2, e2]
 generalize dt u q = y at hy
 rcases hε with e | e <;> subst e
 ·simp only [Int.one_mul]
 ·have m1 : max (-1 * y) (-(-1 * y)) = max y (-y) := by omega
  rw [m1]
  by_cases h0 : y < 0
  ·rw [if_pos h0, if_neg (by omega)]
   refine Prod.ext ?_ ?_
   ·show dt v m - dt q m / max y (-y) * 1 * (-1 * dt u v) = dt v m - dt q m / max y (-y) * -1 * dt u v
    grind
   ·show 1 * (-1 * dt u v) = -1 * dt u v
    omega
  ·rw [if_neg h0, if_pos (by omega)]
   refine Prod.ext ?_ ?_
   ·show dt v m - dt q m / max y (-y) * -1 * (-1 * dt u v) = dt v m - dt q m / max y (-y) * 1 * dt u v
    grind
   ·show -1 * (-1 * dt u v) = 1 * dt u v
    omega
def affM (a b c d e f : Int) (v : Int × Int) : Int × Int := (a * v.1 + b * v.2 + e, c * v.1 + d * v.2 + f)
theorem aq5 (a b c d e f : Int) (u v : Int × Int) : subP (affM a b c d e f u) (affM a b c d e f v) = linM a b c d (subP u v) := by
 unfold subP affM linM
 refine Prod.ext ?_ ?_ <;> grind
theorem ady {l : List (Int × Int)} (g : Int × Int → Int × Int) {i : Nat} (h : i < l.length) : gP (l.map g) i = g (gP l i) := by
 have h1 := uz h
 have h2 := uz (l := l.map g) (i := i) (by simpa using h)
 rw [List.getElem?_map, h1] at h2
 simpa using h2.symm
theorem ayf {a b c d ε : Int} (hε : ε = 1 ∨ ε = -1) (hd : a * d - b * c = ε) {v m : Int × Int} (hv : v.1 ≠ 0 ∨ v.2 ≠ 0) (hm : dt (prim v.1 v.2) m = 1) : prim (linM a b c d v).1 (linM a b c d v).2 = linM a b c d (prim v.1 v.2) := by
 have hp := ahJ v.1 v.2
 have hg := aea hv
 generalize hgg : gcdI v.1 v.2 = g at hp hg
 generalize prim v.1 v.2 = u at hp hm
 have e1 : (linM a b c d v).1 = (linM a b c d u).1 * g := by
  show a * v.1 + b * v.2 = (a * u.1 + b * u.2) * g
  rw [← hp.1, ← hp.2]; grind
 have e2 : (linM a b c d v).2 = (linM a b c d u).2 * g := by
  show c * v.1 + d * v.2 = (c * u.1 + d * u.2) * g
  rw [← hp.1, ← hp.2]; grind
 have hm2 : (linM a b c d u).1 * (linM a b c d (ε * m.1, ε * m.2)).2 - (linM a b c d u).2 * (linM a b c d (ε * m.1, ε * m.2)).1 = 1 := by
  have := ai6 a b c d u (ε * m.1, ε * m.2)
  have e : dt u (ε * m.1, ε * m.2) = ε * dt u m := by unfold dt; grind
  rw [hd, e, hm] at this
  unfold dt at this
  rw [this]
  rcases hε with e | e <;> subst e <;> rfl
 have hgu := ayg hm2 (Int.le_of_lt hg)
 unfold prim
 rw [e1, e2, hgu, Int.mul_tdiv_cancel _ (by omega), Int.mul_tdiv_cancel _ (by omega)]
theorem amQ {a b c d ε e f : Int} (hε : ε = 1 ∨ ε = -1) (hd : a * d - b * c = ε) {l : List (Int × Int)} (h : Frm l) (h' : Frm (l.map (affM a b c d e f))) : acp (l.map (affM a b c d e f)) = acp l := by
 have n3 := h.n3
 obtain ⟨hb, _, _⟩ := anx (α := Unit) 1000000001 (by omega) h
 obtain ⟨hb', _, _⟩ := anx (α := Unit) 1000000001 (by omega) h'
 have s0 := h.sm _ (pX (l := l) (i := 0) (by omega))
 have s1 := h.sm _ (pX (l := l) (i := 1) (by omega))
 have hs := aat s1 s0
 have hu := aha (a := (gP l 1).1 - (gP l 0).1) (b := (gP l 1).2 - (gP l 0).2) hs.1 hs.2
 have hm1 := (ahM (α := Unit) 1000000001 (by omega) (u := uF l) (B := 2000) (by omega) (by omega) hu.1 hu.2 (agj hb.ne)).1
 have s0' := h'.sm _ (pX (l := l.map (affM a b c d e f)) (i := 0) (by simp; omega))
 have s1' := h'.sm _ (pX (l := l.map (affM a b c d e f)) (i := 1) (by simp; omega))
 have hs' := aat s1' s0'
 have hu' := aha (a := (gP (l.map (affM a b c d e f)) 1).1 - (gP (l.map (affM a b c d e f)) 0).1) (b := (gP (l.map (affM a b c d e f)) 1).2 - (gP (l.map (affM a b c d e f)) 0).2) hs'.1 hs'.2
 have hm1' := (ahM (α := Unit) 1000000001 (by omega) (u := uF (l.map (affM a b c d e f))) (B := 2000) (by omega) (by omega) hu'.1 hu'.2 (agj hb'.ne)).1
 have hsub : ∀ i j, i < l.length → j < l.length → subP (gP (l.map (affM a b c d e f)) i) (gP (l.map (affM a b c d e f)) j) = linM a b c d (subP (gP l i) (gP l j)) := fun i j hi hj => by
  rw [ady _ hi, ady _ hj, aq5]
 have huF : uF (l.map (affM a b c d e f)) = linM a b c d (uF l) := by
  have e0 := hsub 1 0 (by omega) (by omega)
  show prim (subP (gP (l.map (affM a b c d e f)) 1) (gP (l.map (affM a b c d e f)) 0)).1 (subP (gP (l.map (affM a b c d e f)) 1) (gP (l.map (affM a b c d e f)) 0)).2 = _
  rw [e0]
  exact ayf hε hd (v := subP (gP l 1) (gP l 0)) (m := mF l) hb.ne hm1
 have hm2 : dt (linM a b c d (uF l)) (linM a b c d (ε * (mF l).1, ε * (mF l).2)) = 1 := by
  rw [ai6, hd]
  have e : dt (uF l) (ε * (mF l).1, ε * (mF l).2) = ε * dt (uF l) (mF l) := by unfold dt; grind
  rw [e]
  show ε * (ε * dt (uF l) (mF l)) = 1
  rw [show dt (uF l) (mF l) = 1 from hm1]
  rcases hε with e | e <;> subst e <;> rfl
 have hy : dt (uF l) (subP (gP l 2) (gP l 1)) ≠ 0 := hb.y0
 unfold acp
 rw [List.map_map]
 refine List.map_congr_left fun z hz => ?_
 show ledP (l.map (affM a b c d e f)) (affM a b c d e f z) = ledP l z
 rw [atS, atS, hsub 2 1 (by omega) (by omega), ady _ (show 0 < l.length by omega), aq5, huF]
 have hy2 : dt (linM a b c d (uF l)) (linM a b c d (subP (gP l 2) (gP l 1))) ≠ 0 := by
  rw [ai6, hd]
  rcases hε with e | e <;> subst e <;> omega
 have hm3 : dt (linM a b c d (uF l)) (mF (l.map (affM a b c d e f))) = 1 := by rw [← huF]; exact hm1'
 rw [ase hm2 hm3 hy2]
 exact ayr hε hd hy _
def Far (l : List (Int × Int)) : Prop := ∀ i j, i < l.length → j < l.length → j ≠ i → j ≠ (i + 1) % l.length → 0 < o3 (gP l i) (gP l ((i + 1) % l.length)) (gP l j)
theorem aer {l : List (Int × Int)} (h : kZ l = true) : Far l := by
 intro i j hi hj h1 h2
 obtain ⟨p1, p2⟩ := nX h
 unfold kZ at h
 simp only [Bool.and_eq_true, decide_eq_true_eq] at h
 have hloc := (alS p1).1 ⟨h.2.2.1, h.2.2.2⟩
 have hg := (akl p1).2 ((ako (ag4 p1)).1 hloc)
 have := Qq.1 (Qq.1 hg i (by omega) (by omega)) j (by omega) (by omega)
 rw [aeJ, Bool.or_eq_true, Bool.or_eq_true, decide_eq_true_eq, decide_eq_true_eq, decide_eq_true_eq, au6, Nat.mod_eq_of_lt hi, Nat.mod_eq_of_lt hj] at this
 rcases this with e | e | e
 ·exact absurd e h1
 ·exact absurd e h2
 ·exact e
theorem ado (a b : Int × Int) : o3 a b a = 0 := by unfold o3; grind
theorem ai5 (a b : Int × Int) : o3 a b b = 0 := by unfold o3; grind
theorem abu {i n : Nat} (h : i < n) : (i + 1) % n = if i + 1 = n then 0 else i + 1 := by
 split
 ·rename_i e; rw [e, Nat.mod_self]
 ·exact Nat.mod_eq_of_lt (by omega)
theorem ahg {l : List (Int × Int)} (h : Far l) (h3 : 3 ≤ l.length) {i j : Nat} (hi : i < l.length) (hj : j < l.length) (e : gP l i = gP l j) : i = j := by
 rcases Nat.lt_trichotomy i j with hlt | hlt | hlt
 ·exfalso
  by_cases h2 : j = (i + 1) % l.length
  ·have := h j i hj hi (by omega) (by rw [abu hj]; rw [abu hi] at h2; split <;> split at h2 <;> omega)
   rw [e, ado] at this
   omega
  ·have := h i j hi hj (by omega) h2
   rw [← e, ado] at this
   omega
 ·exact hlt
 ·exfalso
  by_cases h2 : i = (j + 1) % l.length
  ·have := h i j hi hj (by omega) (by rw [abu hi]; rw [abu hj] at h2; split <;> split at h2 <;> omega)
   rw [← e, ado] at this
   omega
  ·have := h j i hj hi (by omega) h2
   rw [e, ado] at this
   omega
theorem asE {l : List (Int × Int)} {x : Int × Int} (h : x ∈ l) : ∃ i, i < l.length ∧ gP l i = x := by
 obtain ⟨i, hi, e⟩ := List.getElem_of_mem h
 have h1 := uz hi
 rw [List.getElem?_eq_getElem hi] at h1
 exact ⟨i, hi, (Option.some.inj h1).symm.trans e⟩
theorem aoo {l : List (Int × Int)} (h : Far l) (h3 : 3 ≤ l.length) {i : Nat} (hi : i < l.length) : Ed (· ∈ l) (gP l i) (gP l ((i + 1) % l.length)) := by
 have hm : (i + 1) % l.length < l.length := Nat.mod_lt _ (by omega)
 refine ⟨pX hi, pX hm, fun e => ?_, fun r hr => ?_⟩
 ·have := ahg h h3 hm hi e
  rw [abu hi] at this
  split at this <;> omega
 ·obtain ⟨j, hj, rfl⟩ := asE hr
  by_cases h1 : j = i
  ·subst h1
   exact ⟨by rw [ado]; omega, fun _ => ⟨by rw [Int.sub_self, Int.zero_mul]; omega, by rw [Int.sub_self, Int.zero_mul]; omega⟩⟩
  ·by_cases h2 : j = (i + 1) % l.length
   ·rw [← h2]
    exact ⟨by rw [ai5]; omega, fun _ => ⟨by rw [Int.sub_self, Int.mul_zero]; omega, by rw [Int.sub_self, Int.mul_zero]; omega⟩⟩
   ·have := h i j hi hj h1 h2
    exact ⟨by omega, fun e => by omega⟩
theorem akB {S : Int × Int → Prop} {l v : List (Int × Int)} (hl : 3 ≤ l.length) (hE : ∀ i, i < l.length → Ed S (gP l i) (gP l ((i + 1) % l.length))) (hinj : ∀ i j, i < l.length → j < l.length → gP l i = gP l j → i = j)
 (hv : 3 ≤ v.length) (hnd : v.Nodup) (vE : ∀ i, i < v.length → Ed S (gP v i) (gP v ((i + 1) % v.length))) (h0 : gP v 0 ∈ l) : ∃ i0, i0 < l.length ∧ v = rotL l i0 := by
 obtain ⟨i0, hi0, e0⟩ := asE h0
 have hmod : ∀ j, (i0 + j) % l.length < l.length := fun j => Nat.mod_lt _ (by omega)
 have hstep : ∀ j, (i0 + (j + 1)) % l.length = ((i0 + j) % l.length + 1) % l.length := fun j => by
  rw [← Nat.add_assoc, Nat.add_mod, Nat.add_mod ((i0 + j) % l.length) 1, Nat.mod_mod]
 have walk : ∀ j, j < v.length → gP v j = gP l ((i0 + j) % l.length) := by
  intro j
  induction j with
  | zero => intro _; rw [Nat.add_zero, Nat.mod_eq_of_lt hi0]; exact e0.symm
  | succ j ih =>
    intro hj
    have e := ih (by omega)
    have a := vE j (by omega)
    rw [Nat.mod_eq_of_lt hj, e] at a
    have b := hE _ (hmod j)
    rw [hstep]
    exact a.uniq b
 have hlast : gP v 0 = gP l ((i0 + v.length) % l.length) := by
  have a := vE (v.length - 1) (by omega)
  rw [show v.length - 1 + 1 = v.length by omega, Nat.mod_self, walk _ (show v.length - 1 < v.length by omega)] at a
  have b := hE _ (hmod (v.length - 1))
  rw [← hstep, show v.length - 1 + 1 = v.length by omega] at b
  exact a.uniq b
 have hle : v.length ≤ l.length := by
  rcases Nat.lt_or_ge l.length v.length with h | h
  ·exfalso
   have a := walk l.length h
   rw [Nat.add_mod_right, Nat.mod_eq_of_lt hi0, e0] at a
   have := ake hnd h (show 0 < v.length by omega) a
   omega
  ·exact h
 have hge : l.length ≤ v.length := by
  have a := hinj _ _ (hmod v.length) hi0 (hlast.symm.trans e0.symm)
  rcases Nat.lt_or_ge v.length l.length with h | h
  ·exfalso
   rcases Nat.lt_or_ge (i0 + v.length) l.length with h2 | h2
   ·rw [Nat.mod_eq_of_lt h2] at a; omega
   ·rw [Nat.mod_eq_sub_mod h2, Nat.mod_eq_of_lt (by omega)] at a; omega
  ·exact h
 refine ⟨i0, hi0, Zw (by rw [yz]; omega) fun j hj => ?_⟩
 rw [walk j hj, Iw hi0 (by omega)]
theorem au1 (a b c d e f : Int) (x y z : Int × Int) : o3 (affM a b c d e f x) (affM a b c d e f y) (affM a b c d e f z) = (a * d - b * c) * o3 x y z := by
 unfold o3 affM
 grind
theorem azu {a b c d e f : Int} (hd : a * d - b * c = 1) {l : List (Int × Int)} (h : Far l) : Far (l.map (affM a b c d e f)) := by
 intro i j hi hj h1 h2
 rw [List.length_map] at hi hj h2 ⊢
 have hm : (i + 1) % l.length < l.length := Nat.mod_lt _ (by omega)
 rw [ady (i := i) _ hi, ady (i := j) _ hj, ady (i := (i + 1) % l.length) _ hm, au1, hd, Int.one_mul]
 exact h i j hi hj h1 h2
theorem aqV (a b c : Int × Int) : o3 b a c = -(o3 a b c) := by unfold o3; grind
theorem aw6 {a b c d e f : Int} (hd : a * d - b * c = -1) {l : List (Int × Int)} (h : Far l) : Far (l.map (affM a b c d e f)).reverse := by
 intro i j hi hj h1 h2
 have hn : (l.map (affM a b c d e f)).reverse.length = l.length := by simp
 have hn2 : (l.map (affM a b c d e f)).length = l.length := by simp
 rw [hn] at hi hj h2 ⊢
 have hm : (i + 1) % l.length < l.length := Nat.mod_lt _ (by omega)
 rw [Sz (i := i) (by rw [hn2]; exact hi), Sz (i := j) (by rw [hn2]; exact hj), Sz (i := (i + 1) % l.length) (by rw [hn2]; exact hm), hn2, ady (i := l.length - 1 - i) _ (by omega), ady (i := l.length - 1 - j) _ (by omega), ady (i := l.length - 1 - (i + 1) % l.length) _ (by omega), au1, hd]
 have hs : l.length - 1 - i = (l.length - 1 - (i + 1) % l.length + 1) % l.length := by
  have m1 := abu (i := l.length - 1 - (i + 1) % l.length) (n := l.length) (by omega)
  rw [m1]
  rw [abu hi]
  split <;> split <;> omega
 have := h (l.length - 1 - (i + 1) % l.length) (l.length - 1 - j) (by omega) (by omega) (by omega) (by rw [← hs]; omega)
 rw [← hs, aqV] at this
 omega
def aeV (l : List (Int × Int)) (z : List (Int × Int)) : Prop := ∃ i, i < l.length ∧ (z = sK l i ∨ z = sK l.reverse i)
theorem afN {l : List (Int × Int)} (h0 : 0 < l.length) (z : List (Int × Int)) : z ∈ sK l 0 :: ((List.range' 1 (l.length - 1)).map (sK l) ++ (List.range' 0 l.length).map (sK l.reverse)) ↔ aeV l z := by
 rw [List.mem_cons, List.mem_append, List.mem_map, List.mem_map]
 constructor
 ·rintro (rfl | ⟨i, hi, rfl⟩ | ⟨i, hi, rfl⟩)
  ·exact ⟨0, h0, .inl rfl⟩
  ·rw [List.mem_range'_1] at hi
   exact ⟨i, by omega, .inl rfl⟩
  ·rw [List.mem_range'_1] at hi
   exact ⟨i, by omega, .inr rfl⟩
 ·rintro ⟨i, hi, e | e⟩
  ·rcases Nat.eq_zero_or_pos i with h | h
   ·subst h; exact .inl e
   ·exact .inr (.inl ⟨i, by rw [List.mem_range'_1]; omega, e.symm⟩)
  ·exact .inr (.inr ⟨i, by rw [List.mem_range'_1]; omega, e.symm⟩)
theorem apl {l l' : List (Int × Int)} (hN : l'.length = l.length) (h0 : 0 < l.length) (h : ∀ z, aeV l z ↔ aeV l' z) : pz l = pz l' := by
 unfold pz
 rw [← ai2, ← ai2]
 refine aly (N := l.length) (fun z hz => ?_) (fun z hz => ?_) (fun z hz => ?_)
 ·obtain ⟨i, hi, e | e⟩ := (afN h0 z).1 hz
  ·rw [e, zY]
  ·rw [e, zY, List.length_reverse]
 ·exact (afN (by omega) z).2 ((h z).1 ((afN h0 z).1 hz))
 ·exact (afN h0 z).2 ((h z).2 ((afN (by omega) z).1 hz))
theorem ao6 (g : Int × Int → Int × Int) (l : List (Int × Int)) (i : Nat) : rotL (l.map g) i = (rotL l i).map g := by
 simp [rotL, List.map_drop, List.map_take]
theorem anb {l : List (Int × Int)} {a b : Nat} (ha : a < l.length) (hb : b < l.length) : rotL (rotL l a) b = rotL l ((a + b) % l.length) := by
 have hm : (a + b) % l.length < l.length := Nat.mod_lt _ (by omega)
 refine Zw (by simp [yz]) fun j hj => ?_
 rw [yz, yz] at hj
 have hm2 : (b + j) % l.length < l.length := Nat.mod_lt _ (by omega)
 rw [Iw (by rw [yz]; exact hb) (by rw [yz]; exact hj), yz, Iw ha hm2, Iw hm hj]
 congr 1
 rw [Nat.add_mod, Nat.mod_mod, ← Nat.add_mod, Nat.add_mod ((a + b) % l.length), Nat.mod_mod, ← Nat.add_mod, Nat.add_assoc]
theorem ax8 {l : List (Int × Int)} {a : Nat} (ha : a < l.length) : (rotL l a).reverse = rotL l.reverse ((l.length - a) % l.length) := by
 have hm : (l.length - a) % l.length < l.length := Nat.mod_lt _ (by omega)
 refine Zw (by simp [yz]) fun j hj => ?_
 rw [List.length_reverse, yz] at hj
 have hm2 : ((l.length - a) % l.length + j) % l.length < l.length := Nat.mod_lt _ (by omega)
 rw [Sz (by rw [yz]; exact hj), yz, Iw ha (by omega), Iw (by rw [List.length_reverse]; exact hm) (by rw [List.length_reverse]; exact hj), List.length_reverse, Sz hm2]
 congr 1
 rcases Nat.eq_zero_or_pos a with h | h
 ·subst h
  rw [Nat.sub_zero, Nat.mod_self, Nat.zero_add, Nat.zero_add, Nat.mod_eq_of_lt hj, Nat.mod_eq_of_lt (by omega)]
 ·rw [Nat.mod_eq_of_lt (show l.length - a < l.length by omega)]
  rcases Nat.lt_or_ge j a with h2 | h2
  ·rw [Nat.mod_eq_of_lt (show l.length - a + j < l.length by omega), Nat.mod_eq_sub_mod (by omega), Nat.mod_eq_of_lt (by omega)]
   omega
  ·rw [Nat.mod_eq_of_lt (show a + (l.length - 1 - j) < l.length by omega), Nat.mod_eq_sub_mod (show l.length ≤ l.length - a + j by omega), Nat.mod_eq_of_lt (by omega)]
   omega
theorem amr {n a i : Nat} (ha : a < n) (hi : i < n) : ∃ j, j < n ∧ (a + j) % n = i := by
 rcases Nat.lt_or_ge i a with h | h
 ·exact ⟨n + i - a, by omega, by rw [show a + (n + i - a) = n + i by omega, Nat.add_mod_left, Nat.mod_eq_of_lt hi]⟩
 ·exact ⟨i - a, by omega, by rw [show a + (i - a) = i by omega, Nat.mod_eq_of_lt hi]⟩
theorem an2 {a b c d ε e f : Int} (hε : ε = 1 ∨ ε = -1) (hd : a * d - b * c = ε) {L v : List (Int × Int)} (h3 : 0 < L.length) (hL : ∀ i, i < L.length → Frm (rotL L i)) (hR : ∀ i, i < L.length → Frm (rotL L.reverse i)) {i0 : Nat} (hi0 : i0 < L.length) (hv : v = rotL (L.map (affM a b c d e f)) i0) (hp : kZ v = true) (z : List (Int × Int)) : aeV v z ↔ aeV L z := by
 have hln : (L.map (affM a b c d e f)).length = L.length := by simp
 have hvl : v.length = L.length := by rw [hv, yz, hln]
 have e1 : ∀ i, i < L.length → sK v i = sK L ((i0 + i) % L.length) := fun i hi => by
  have hr : rotL v i = (rotL L ((i0 + i) % L.length)).map (affM a b c d e f) := by rw [hv, anb (by omega) (by omega), hln, ao6]
  have hf := afG hp (i := i) (by omega)
  unfold sK
  rw [hr] at hf ⊢
  exact amQ hε hd (hL _ (Nat.mod_lt _ h3)) hf
 have hc : (L.length - i0) % L.length < L.length := Nat.mod_lt _ h3
 have e2 : ∀ i, i < L.length → sK v.reverse i = sK L.reverse (((L.length - i0) % L.length + i) % L.length) := fun i hi => by
  have hr : rotL v.reverse i = (rotL L.reverse (((L.length - i0) % L.length + i) % L.length)).map (affM a b c d e f) := by
   rw [hv, ax8 (by omega), hln, ← List.map_reverse, anb (by simp; omega) (by simp; omega), ao6]
   simp
  have hf := ahr hp (i := i) (by omega)
  unfold sK
  rw [hr] at hf ⊢
  exact amQ hε hd (hR _ (Nat.mod_lt _ h3)) hf
 constructor
 ·rintro ⟨i, hi, h | h⟩
  ·exact ⟨_, Nat.mod_lt _ h3, .inl (h.trans (e1 i (by omega)))⟩
  ·exact ⟨_, Nat.mod_lt _ h3, .inr (h.trans (e2 i (by omega)))⟩
 ·rintro ⟨i, hi, h | h⟩
  ·obtain ⟨j, hj, e⟩ := amr hi0 hi
   exact ⟨j, by omega, .inl (by rw [e1 j hj, e]; exact h)⟩
  ·obtain ⟨j, hj, e⟩ := amr hc hi
   exact ⟨j, by omega, .inr (by rw [e2 j hj, e]; exact h)⟩
theorem awq (l z : List (Int × Int)) : aeV l.reverse z ↔ aeV l z := by
 unfold aeV
 rw [List.length_reverse, List.reverse_reverse]
 constructor
 ·rintro ⟨i, hi, h | h⟩
  ·exact ⟨i, hi, .inr h⟩
  ·exact ⟨i, hi, .inl h⟩
 ·rintro ⟨i, hi, h | h⟩
  ·exact ⟨i, hi, .inr h⟩
  ·exact ⟨i, hi, .inl h⟩
theorem axf {a b c d ε e f : Int} (hε : ε = 1 ∨ ε = -1) (hd : a * d - b * c = ε) {l v : List (Int × Int)} (hl : kZ l = true) (hp : kZ v = true) (hnd : v.Nodup) (hv : ∀ x ∈ v, x ∈ l.map (affM a b c d e f))
 (vE : ∀ i, i < v.length → Ed (· ∈ l.map (affM a b c d e f)) (gP v i) (gP v ((i + 1) % v.length))) : pz v = pz l := by
 obtain ⟨n3, n12⟩ := nX hl
 obtain ⟨v3, v12⟩ := nX hp
 have h0 : gP v 0 ∈ l.map (affM a b c d e f) := hv _ (pX (by omega))
 rcases hε with e' | e'
 ·subst e'
  have hF := azu (e := e) (f := f) hd (aer hl)
  have hq3 : 3 ≤ (l.map (affM a b c d e f)).length := by simpa using n3
  obtain ⟨i0, hi0, hvr⟩ := akB (S := (· ∈ l.map (affM a b c d e f))) hq3 (fun i hi => aoo hF hq3 hi) (fun i j hi hj => ahg hF hq3 hi hj) v3 hnd vE h0
  have hi0' : i0 < l.length := by simpa using hi0
  refine apl (by rw [hvr, yz, List.length_map]) (by omega) fun z => ?_
  exact an2 (.inl rfl) hd (by omega) (fun i hi => afG hl hi) (fun i hi => ahr hl hi) hi0' hvr hp z
 ·subst e'
  have hF := aw6 (e := e) (f := f) hd (aer hl)
  have hq3 : 3 ≤ (l.map (affM a b c d e f)).reverse.length := by simpa using n3
  obtain ⟨i0, hi0, hvr⟩ := akB (S := (· ∈ l.map (affM a b c d e f))) hq3 (fun i hi => by
   have := aoo hF hq3 hi
   exact ⟨by simpa using this.ma, by simpa using this.mq, this.ne, fun r hr => this.left r (by simpa using hr)⟩) (fun i j hi hj => ahg hF hq3 hi hj) v3 hnd vE (by simpa using h0)
  have hi0' : i0 < l.reverse.length := by simpa using hi0
  rw [← List.map_reverse] at hvr
  refine apl (by rw [hvr, yz]; simp) (by omega) fun z => ?_
  rw [← awq l z]
  exact an2 (.inr rfl) hd (by simp; omega) (fun i hi => ahr hl (by simpa using hi)) (fun i hi => by rw [List.reverse_reverse]; exact afG hl (by simpa using hi)) hi0' hvr hp z
theorem aDr {l : List (Int × Int)} (h : Far l) (h3 : 3 ≤ l.length) {i0 : Nat} (hi0 : i0 < l.length) (hmin : ∀ x ∈ l, x = gP l i0 ∨ ltP (gP l i0) x) : i0 = Vx l := by
 obtain ⟨h1, _, h2⟩ := aeu (l := l) (by omega)
 refine ahg h h3 hi0 h1 ?_
 rcases hmin _ (pX h1) with e | e
 ·exact e.symm
 ·exact absurd (agz.2 e) (h2 i0 hi0)
theorem asq {l : List (Int × Int)} (hp : kZ l = true) (k : Nat) (hk : 2000010 < k) : (∀ r : List (Int × Int) → Option α, Ey k l r = r (Ez l)) ∧ ∀ (r0 : Int → Option α) (r1 : List (Int × Int) → Int → Option α), EY k l r0 r1 = r1 (Ez l) 0 := by
 obtain ⟨p1, p2⟩ := nX hp
 have hF := aer hp
 have hc : ∀ x ∈ l, crdP x := fun x hx => ⟨wZ (acL hp x hx).1, wZ (acL hp x hx).2⟩
 obtain ⟨v, v1, v2, v3, v4, v5⟩ := amB (α := α) k hk (l := l) (by omega) hc
 obtain ⟨hr, hmin⟩ := v3 (fun e => by rw [e] at p1; simp at p1)
 have hcr := agd hp 0 (by omega)
 rw [arU, Nat.mod_eq_of_lt (show 0 < l.length by omega), Nat.mod_eq_of_lt (show 0 + 1 < l.length by omega), Nat.mod_eq_of_lt (show 0 + 2 < l.length by omega)] at hcr
 obtain ⟨w1, w2, w3⟩ := ah1 hr (pX (l := l) (i := 0) (by omega)) (pX (l := l) (i := 0 + 1) (by omega)) (pX (l := l) (i := 0 + 2) (by omega)) (by omega)
 have hpv := aiR w1 (by omega) (fun x hx => acL hp x (v2 x hx)) w2 v2 w3
 obtain ⟨i0, hi0, e⟩ := akB (S := (· ∈ l)) p1 (fun i hi => aoo hF p1 hi) (fun i j hi hj => ahg hF p1 hi hj) w1 w2 w3 (v2 _ (pX (by omega)))
 have e0 : gP v 0 = gP l i0 := by rw [e, Iw hi0 (by omega), Nat.add_zero, Nat.mod_eq_of_lt hi0]
 have hv : v = Ez l := by
  have := aDr hF p1 hi0 (by rw [← e0]; exact hmin)
  rw [e, this]
  rfl
 refine ⟨fun r => by rw [v4, hv], fun r0 r1 => ?_⟩
 rw [v5, if_neg (by omega), hpv, cond_true, hv]
theorem aep {a b : Int} (ha : 0 < a) (h : 0 < a * b) : 0 < b := by
 rcases Int.lt_or_le 0 b with h' | h'
 ·exact h'
 ·have := Int.mul_le_mul_of_nonneg_left h' (Int.le_of_lt ha)
  rw [Int.mul_zero] at this
  omega
theorem axi {o a b x p q : Int × Int} (D : 0 < o3 o a b) (h1 : 0 < o3 o a x) (h2 : 0 < o3 a b x) (s : o3 o b x ≤ 0) (ha : 0 < o3 p q a) (ho : 0 ≤ o3 p q o) (hb : 0 ≤ o3 p q b) (hob : 0 < o3 p q o + o3 p q b) : 0 < o3 p q x := by
 have key : o3 o a b * o3 p q x = o3 a b x * o3 p q o + (-(o3 o b x)) * o3 p q a + o3 o a x * o3 p q b := by unfold o3; grind
 have t1 := Int.mul_nonneg (Int.le_of_lt h2) ho
 have t2 := Int.mul_nonneg (show 0 ≤ -(o3 o b x) by omega) (Int.le_of_lt ha)
 have t3 := Int.mul_nonneg (Int.le_of_lt h1) hb
 have pos : 0 < o3 o a b * o3 p q x := by
  rcases Int.lt_or_le 0 (o3 p q o) with h | h
  ·have := Int.mul_pos h2 h
   omega
  ·have := Int.mul_pos h1 (show 0 < o3 p q b by omega)
   omega
 exact aep D pos
theorem asx {o a b z x : Int × Int} (h1 : 0 < o3 o a b) (h2 : 0 < o3 o b z) (h3 : 0 < o3 o a z) (s : 0 < o3 o b x) (hz : 0 < o3 z o x) : 0 < o3 o a x := by
 have key : o3 o b z * o3 o a x = o3 o a b * o3 z o x + o3 o a z * o3 o b x := by unfold o3; grind
 have t1 := Int.mul_pos h1 hz
 have t2 := Int.mul_pos h3 s
 exact aep h2 (by omega)
theorem asv {o a b c x : Int × Int} (h1 : 0 < o3 o a b) (h2 : 0 < o3 b c o) (h3 : 0 < o3 b c a) (s : 0 < o3 o b x) (hc : 0 < o3 b c x) : 0 < o3 a b x := by
 have key : o3 b c o * o3 a b x = o3 o b x * o3 b c a + o3 b c x * o3 o a b := by unfold o3; grind
 have t1 := Int.mul_pos s h3
 have t2 := Int.mul_pos hc h1
 exact aep h2 (by omega)
def posB (x : Int × Int) : List (Int × Int) → Bool
 | a :: b :: r => decide (0 < o3 a b x) && posB x (b :: r)
 | _ => true
def AllS (R : Int × Int → Int × Int → Prop) : List (Int × Int) → Prop
 | a :: b :: r => R a b ∧ AllS R (b :: r)
 | _ => True
theorem afT (x : Int × Int) : ∀ l : List (Int × Int), posB x l = true ↔ AllS (fun p q => 0 < o3 p q x) l
 | [] => by simp [posB, AllS]
 | [a] => by simp [posB, AllS]
 | a :: b :: r => by simp [posB, AllS, afT x (b :: r)]
theorem AllS.imp {R S : Int × Int → Int × Int → Prop} (h : ∀ p q, R p q → S p q) : ∀ {l : List (Int × Int)}, AllS R l → AllS S l
 | [], _ => trivial
 | [_], _ => trivial
 | _ :: _ :: _, ⟨h1, h2⟩ => ⟨h _ _ h1, AllS.imp h h2⟩
theorem AllS.last {R : Int × Int → Int × Int → Prop} {z o : Int × Int} : ∀ {l : List (Int × Int)}, AllS R (l ++ [z, o]) → R z o
 | [], h => h.1
 | [_], h => h.2.1
 | _ :: b :: r, h => AllS.last (l := b :: r) h.2
structure FanS (o a b c z : Int × Int) (path : List (Int × Int)) : Prop where
 d : 0 < o3 o a b
 bz : 0 < o3 o b z
 az : 0 < o3 o a z
 co : 0 < o3 b c o
 ca : 0 < o3 b c a
 sides : AllS (fun p q => 0 < o3 p q a ∧ 0 ≤ o3 p q o ∧ 0 ≤ o3 p q b ∧ 0 < o3 p q o + o3 p q b) path
def afw (o a b x : Int × Int) : Bool := decide (o3 o b x = 0) && (decide (0 < o3 o a x) && decide (0 < o3 a b x))
theorem axv {o a b c z : Int × Int} {pre r : List (Int × Int)} (hc : b :: c :: r ++ [o] = pre ++ [z, o]) (h : FanS o a b c z (b :: c :: r ++ [o])) (x : Int × Int) :
 b2i (posB x (o :: a :: b :: c :: r ++ [o])) = b2i (posB x [o, a, b, o]) + b2i (posB x (o :: b :: c :: r ++ [o])) + b2i (afw o a b x) := by
 have e1 : posB x (o :: a :: b :: c :: r ++ [o]) = (decide (0 < o3 o a x) && (decide (0 < o3 a b x) && posB x (b :: c :: r ++ [o]))) := rfl
 have e2 : posB x (o :: b :: c :: r ++ [o]) = (decide (0 < o3 o b x) && posB x (b :: c :: r ++ [o])) := rfl
 have e3 : posB x [o, a, b, o] = (decide (0 < o3 o a x) && (decide (0 < o3 a b x) && (decide (0 < o3 b o x) && true))) := rfl
 have e4 : o3 b o x = -(o3 o b x) := aqV _ _ _
 rw [e1, e2, e3, e4]
 unfold afw
 have hleft : o3 o b x ≤ 0 → 0 < o3 o a x → 0 < o3 a b x → posB x (b :: c :: r ++ [o]) = true := fun s h1 h2 =>
  (afT x _).2 (h.sides.imp fun p q ⟨q1, q2, q3, q4⟩ => axi h.d h1 h2 s q1 q2 q3 q4)
 have hright : 0 < o3 o b x → posB x (b :: c :: r ++ [o]) = true → 0 < o3 o a x ∧ 0 < o3 a b x := fun s hp => by
  have hA := (afT x _).1 hp
  have hz : 0 < o3 z o x := by rw [hc] at hA; exact hA.last
  have hcx : 0 < o3 b c x := hA.1
  exact ⟨asx h.d h.bz h.az s hz, asv h.d h.co h.ca s hcx⟩
 generalize posB x (b :: c :: r ++ [o]) = P at hleft hright
 generalize hu : o3 o a x = u at hleft hright
 generalize hv : o3 a b x = v at hleft hright
 generalize hs : o3 o b x = s at hleft hright
 rcases Int.lt_trichotomy s 0 with h0 | h0 | h0
 ·have d1 : decide (0 < s) = false := decide_eq_false (by omega)
  have d2 : decide (0 < -s) = true := decide_eq_true (by omega)
  have d3 : decide (s = 0) = false := decide_eq_false (by omega)
  rw [d1, d2, d3]
  by_cases hu0 : 0 < u <;> by_cases hv0 : 0 < v
  ·rw [hleft (by omega) hu0 hv0]; simp [hu0, hv0, b2i]
  ·simp [hu0, hv0, b2i]
  ·simp [hu0, hv0, b2i]
  ·simp [hu0, hv0, b2i]
 ·subst h0
  have d1 : decide ((0 : Int) < 0) = false := rfl
  have d2 : decide ((0 : Int) < -0) = false := rfl
  rw [d1, d2]
  by_cases hu0 : 0 < u <;> by_cases hv0 : 0 < v
  ·rw [hleft (by omega) hu0 hv0]; simp [hu0, hv0, b2i]
  ·simp [hu0, hv0, b2i]
  ·simp [hu0, hv0, b2i]
  ·simp [hu0, hv0, b2i]
 ·have d1 : decide (0 < s) = true := decide_eq_true h0
  have d2 : decide (0 < -s) = false := decide_eq_false (by omega)
  have d3 : decide (s = 0) = false := decide_eq_false (by omega)
  rw [d1, d2, d3]
  cases P with
  | false => simp [b2i]
  | true =>
    obtain ⟨hu0, hv0⟩ := hright h0 rfl
    simp [hu0, hv0, b2i]
theorem aBq (a b c : Int × Int) : o3 b c a = o3 a b c := by unfold o3; grind
theorem aeh {l : List (Int × Int)} (h : Far l) (h3 : 3 ≤ l.length) {j : Nat} (hj : 1 ≤ j) : ∀ (k : Nat), j + 1 + k < l.length → 0 < o3 (gP l 0) (gP l j) (gP l (j + 1 + k)) := by
 have step : ∀ i, 1 ≤ i → i + 1 < l.length → 0 < o3 (gP l 0) (gP l i) (gP l (i + 1)) := fun i hi hi2 => by
  have := h i 0 (by omega) (by omega) (by omega) (by rw [Nat.mod_eq_of_lt hi2]; omega)
  rw [Nat.mod_eq_of_lt hi2, aBq] at this
  exact this
 have base : ∀ i, 2 ≤ i → i < l.length → 0 < o3 (gP l 0) (gP l 1) (gP l i) := fun i hi hi2 => by
  have := h 0 i (by omega) hi2 (by omega) (by rw [Nat.mod_eq_of_lt (by omega)]; omega)
  rw [Nat.mod_eq_of_lt (by omega)] at this
  exact this
 intro k
 induction k with
 | zero => exact fun hk => step j hj hk
 | succ k ih =>
   intro hk
   have h1 := ih (by omega)
   have h2 := step (j + 1 + k) (by omega) (by omega)
   have h3' := base (j + 1 + k) (by omega) (by omega)
   have h4 := base (j + 1 + k + 1) (by omega) (by omega)
   have h5 : 0 ≤ o3 (gP l 0) (gP l 1) (gP l j) := by
    rcases Nat.eq_or_lt_of_le hj with e | e
    ·rw [← e, ai5]; omega
    ·have := base j (by omega) (by omega); omega
   generalize gP l 0 = o at *
   generalize gP l 1 = e at *
   generalize gP l j = p at *
   generalize gP l (j + 1 + k) = q at *
   have e1 : j + 1 + (k + 1) = j + 1 + k + 1 := by omega
   rw [e1]
   generalize gP l (j + 1 + k + 1) = t at *
   have key : o3 o e q * o3 o p t = o3 o e p * o3 o q t + o3 o e t * o3 o p q := by unfold o3; grind
   have t1 := Int.mul_nonneg h5 (Int.le_of_lt h2)
   have t2 := Int.mul_pos h4 h1
   exact aep h3' (by omega)
theorem agR {R : Int × Int → Int × Int → Prop} : ∀ {l : List (Int × Int)}, (∀ i, i + 1 < l.length → R (gP l i) (gP l (i + 1))) → AllS R l
 | [], _ => trivial
 | [_], _ => trivial
 | a :: b :: r, h => ⟨h 0 (by simp), agR (l := b :: r) fun i hi => h (i + 1) (by simpa using hi)⟩
theorem aem {l : List (Int × Int)} (h0 : 0 < l.length) {m i : Nat} (hm : m ≤ l.length) (hi : m + i ≤ l.length) : gP (l.drop m ++ [gP l 0]) i = gP l ((m + i) % l.length) := by
 have hl : (l.drop m).length = l.length - m := by simp
 have h1 : (l.drop m ++ [gP l 0])[i]? = some (gP l ((m + i) % l.length)) := by
  rw [List.getElem?_append, hl]
  split
  ·rename_i h
   rw [List.getElem?_drop, Nat.mod_eq_of_lt (by omega)]
   exact uz (by omega)
  ·have : i = l.length - m := by omega
   subst this
   rw [Nat.sub_self, show m + (l.length - m) = l.length by omega, Nat.mod_self]
   rfl
 have h2 := uz (l := l.drop m ++ [gP l 0]) (i := i) (by simp; omega)
 rw [h1] at h2
 exact (Option.some.inj h2).symm
theorem azk {l : List (Int × Int)} (h : Far l) {m : Nat} (hm : 1 ≤ m) (hm2 : m + 2 < l.length) : FanS (gP l 0) (gP l m) (gP l (m + 1)) (gP l (m + 2)) (gP l (l.length - 1)) (l.drop (m + 1) ++ [gP l 0]) := by
 have h3 : 3 ≤ l.length := by omega
 refine ⟨?_, ?_, ?_, ?_, ?_, agR fun i hi => ?_⟩
 ·have := aeh h h3 hm 0 (by omega); simpa using this
 ·have := aeh h h3 (j := m + 1) (by omega) (l.length - 1 - (m + 2)) (by omega)
  rwa [show m + 1 + 1 + (l.length - 1 - (m + 2)) = l.length - 1 by omega] at this
 ·have := aeh h h3 (j := m) (by omega) (l.length - 1 - (m + 1)) (by omega)
  rwa [show m + 1 + (l.length - 1 - (m + 1)) = l.length - 1 by omega] at this
 ·have := h (m + 1) 0 (by omega) (by omega) (by omega) (by rw [Nat.mod_eq_of_lt (by omega)]; omega)
  rwa [Nat.mod_eq_of_lt (by omega)] at this
 ·have := h (m + 1) m (by omega) (by omega) (by omega) (by rw [Nat.mod_eq_of_lt (by omega)]; omega)
  rwa [Nat.mod_eq_of_lt (by omega)] at this
 ·have hlen : (l.drop (m + 1) ++ [gP l 0]).length = l.length - (m + 1) + 1 := by simp
  rw [hlen] at hi
  rw [aem (by omega) (by omega) (by omega), aem (by omega) (by omega) (by omega)]
  have hj : m + 1 + i < l.length := by omega
  rw [Nat.mod_eq_of_lt hj, show m + 1 + (i + 1) = m + 1 + i + 1 by omega]
  have hs := abu hj
  have ha := h (m + 1 + i) m hj (by omega) (by omega) (by rw [hs]; split <;> omega)
  have ho : 0 ≤ o3 (gP l (m + 1 + i)) (gP l ((m + 1 + i + 1) % l.length)) (gP l 0) ∧ (m + 1 + i + 1 < l.length → 0 < o3 (gP l (m + 1 + i)) (gP l ((m + 1 + i + 1) % l.length)) (gP l 0)) := by
   rcases Nat.lt_or_ge (m + 1 + i + 1) l.length with hc | hc
   ·have := h (m + 1 + i) 0 hj (by omega) (by omega) (by rw [hs, if_neg (by omega)]; omega)
    exact ⟨by omega, fun _ => this⟩
   ·rw [hs, if_pos (by omega), ai5]
    exact ⟨by omega, fun hc2 => by omega⟩
  have hb : 0 ≤ o3 (gP l (m + 1 + i)) (gP l ((m + 1 + i + 1) % l.length)) (gP l (m + 1)) ∧ (i ≠ 0 → 0 < o3 (gP l (m + 1 + i)) (gP l ((m + 1 + i + 1) % l.length)) (gP l (m + 1))) := by
   rcases Nat.eq_zero_or_pos i with hc | hc
   ·subst hc
    rw [Nat.add_zero, ado]
    exact ⟨by omega, fun hc2 => absurd rfl hc2⟩
   ·have := h (m + 1 + i) (m + 1) hj (by omega) (by omega) (by rw [hs]; split <;> omega)
    exact ⟨by omega, fun _ => this⟩
  refine ⟨ha, ho.1, hb.1, ?_⟩
  rcases Nat.eq_zero_or_pos i with hc | hc
  ·have := ho.2 (by omega); omega
  ·have := hb.2 (by omega); omega
def fanT (l : List (Int × Int)) (x : Int × Int) : Nat → Nat → Int
 | m, 0 => b2i (posB x [gP l 0, gP l m, gP l (m + 1), gP l 0])
 | m, k + 1 => b2i (posB x [gP l 0, gP l m, gP l (m + 1), gP l 0]) + fanT l x (m + 1) k + b2i (afw (gP l 0) (gP l m) (gP l (m + 1)) x)
theorem adb {l : List (Int × Int)} {m : Nat} (h : m < l.length) : l.drop m = gP l m :: l.drop (m + 1) := by
 have h1 := uz h
 rw [List.drop_eq_getElem_cons h]
 rw [List.getElem?_eq_getElem h] at h1
 rw [Option.some.inj h1]
theorem avC {l : List (Int × Int)} (h : Far l) (x : Int × Int) : ∀ (k m : Nat), 1 ≤ m → m + 2 + k = l.length → b2i (posB x (gP l 0 :: (l.drop m ++ [gP l 0]))) = fanT l x m k
 | 0, m, hm, hk => by
   rw [adb (show m < l.length by omega), adb (show m + 1 < l.length by omega), List.drop_eq_nil_of_le (by omega)]
   rfl
 | k + 1, m, hm, hk => by
   have hF := azk h hm (by omega)
   have ih := avC h x k (m + 1) (by omega) (by omega)
   have e1 : l.drop m = gP l m :: gP l (m + 1) :: gP l (m + 2) :: l.drop (m + 3) := by
    rw [adb (show m < l.length by omega), adb (show m + 1 < l.length by omega), adb (show m + 2 < l.length by omega)]
   have e2 : l.drop (m + 1) = gP l (m + 1) :: gP l (m + 2) :: l.drop (m + 3) := by
    rw [adb (show m + 1 < l.length by omega), adb (show m + 2 < l.length by omega)]
   have hz : l.drop (m + 1) = (l.drop (m + 1)).dropLast ++ [gP l (l.length - 1)] := by
    have hne : l.drop (m + 1) ≠ [] := by rw [e2]; simp
    have := List.dropLast_concat_getLast hne
    rw [List.getLast_drop] at this
    have hl : gP l (l.length - 1) = l.getLast (by intro e; rw [e] at hk; simp at hk) := by
     have h1 := uz (l := l) (i := l.length - 1) (by omega)
     rw [List.getLast_eq_getElem]
     rw [List.getElem?_eq_getElem (by omega)] at h1
     exact (Option.some.inj h1).symm
    rw [hl]
    exact this.symm
   have hpath : gP l (m + 1) :: gP l (m + 2) :: l.drop (m + 3) ++ [gP l 0] = (l.drop (m + 1)).dropLast ++ [gP l (l.length - 1), gP l 0] := by
    rw [← e2]
    conv => lhs; rw [hz]
    simp
   rw [e2] at hF ih
   have := axv hpath hF x
   rw [e1]
   have ih' : b2i (posB x (gP l 0 :: gP l (m + 1) :: gP l (m + 2) :: l.drop (m + 3) ++ [gP l 0])) = fanT l x (m + 1) k := ih
   rw [ih'] at this
   exact this
def sum2 (f : Int → Int → Int) (x0 : Int) (n : Nat) (y0 : Int) (M : Nat) : Int := sumI (fun i => sumI (fun j => f (x0 + (i : Int)) (y0 + (j : Int))) M) n
theorem atW (p : Int → Int → Bool) (x0 : Int) (n : Nat) (y0 : Int) (M : Nat) : cnt2 p x0 n y0 M = sum2 (fun x y => b2i (p x y)) x0 n y0 M := rfl
theorem aku (f g : Int → Int → Int) (x0 : Int) (n : Nat) (y0 : Int) (M : Nat) : sum2 (fun x y => f x y + g x y) x0 n y0 M = sum2 f x0 n y0 M + sum2 g x0 n y0 M := by
 unfold sum2
 rw [← aaF]
 exact lX n fun i _ => aaF _ _ M
theorem afo {f g : Int → Int → Int} (h : ∀ x y, f x y = g x y) (x0 : Int) (n : Nat) (y0 : Int) (M : Nat) : sum2 f x0 n y0 M = sum2 g x0 n y0 M := by
 have : f = g := funext fun x => funext fun y => h x y
 rw [this]
theorem awf {f : Int → Int → Int} (x0 : Int) (n : Nat) (y0 : Int) (M : Nat) (h : ∀ i : Nat, i < n → ∀ j : Nat, j < M → f (x0 + i) (y0 + j) = 0) : sum2 f x0 n y0 M = 0 := by
 unfold sum2
 exact Az n fun i hi => Az M fun j hj => h i hi j hj
theorem atO {f : Int → Int → Int} {x0 x1 y0 : Int} {n n1 M : Nat} (h1 : x0 ≤ x1) (h2 : x1 + n1 ≤ x0 + n) (hz : ∀ x y, x < x1 ∨ x1 + n1 ≤ x → f x y = 0) : sum2 f x0 n y0 M = sum2 f x1 n1 y0 M := by
 obtain ⟨a, rfl⟩ : ∃ a : Nat, x1 = x0 + a := ⟨(x1 - x0).toNat, by omega⟩
 obtain ⟨c, rfl⟩ : ∃ c : Nat, n = a + (n1 + c) := ⟨n - a - n1, by omega⟩
 unfold sum2
 rw [KW, KW, Az a fun i hi => Az M fun j _ => hz _ _ (.inl (by omega)), Int.zero_add]
 rw [Az c fun i hi => Az M fun j _ => hz _ _ (.inr (by omega)), Int.add_zero]
 refine lX n1 fun i _ => ?_
 refine lX M fun j _ => ?_
 congr 1
 omega
theorem aib (g : Nat → Int → Int → Int) (x0 : Int) (n : Nat) (y0 : Int) (M : Nat) : ∀ N, sum2 (fun x y => sumI (fun t => g t x y) N) x0 n y0 M = sumI (fun t => sum2 (g t) x0 n y0 M) N
 | 0 => awf x0 n y0 M fun _ _ _ _ => rfl
 | N + 1 => by
   show sum2 (fun x y => sumI (fun t => g t x y) N + g N x y) x0 n y0 M = _
   rw [aku, aib g x0 n y0 M N]
   rfl
theorem af5 {f : Nat → Int} {n k : Nat} (hk : k < n) (h1 : f k = 1) (h0 : ∀ i, i < n → i ≠ k → f i = 0) : sumI f n = 1 := by
 obtain ⟨m, rfl⟩ : ∃ m, n = k + (1 + m) := ⟨n - k - 1, by omega⟩
 rw [KW, KW, Az k fun i hi => h0 i (by omega) (by omega), Az m fun i hi => h0 _ (by omega) (by omega)]
 show 0 + ((0 + f (k + 0)) + 0) = 1
 rw [Nat.add_zero, h1]
 rfl
theorem ala {a b x0 y0 : Int} {n M : Nat} (ha : x0 ≤ a ∧ a < x0 + n) (hb : y0 ≤ b ∧ b < y0 + M) : sum2 (fun x y => b2i (decide (x = a) && decide (y = b))) x0 n y0 M = 1 := by
 unfold sum2
 refine af5 (k := (a - x0).toNat) (by omega) ?_ fun i hi hne => Az M fun j _ => ?_
 ·refine af5 (k := (b - y0).toNat) (by omega) ?_ fun j hj hne => ?_
  ·have e1 : x0 + (((a - x0).toNat : Nat) : Int) = a := by omega
   have e2 : y0 + (((b - y0).toNat : Nat) : Int) = b := by omega
   show b2i (decide (x0 + (((a - x0).toNat : Nat) : Int) = a) && decide (y0 + (((b - y0).toNat : Nat) : Int) = b)) = 1
   rw [decide_eq_true e1, decide_eq_true e2]
   rfl
  ·have : ¬ (y0 + (j : Int) = b) := by omega
   simp [this, b2i]
 ·have : ¬ (x0 + (i : Int) = a) := by omega
  simp [this, b2i]
theorem axB {o a b p : Int × Int} (h : posB p [o, a, b, o] = true) : ¬ (p.1 < o.1 ∧ p.1 < a.1 ∧ p.1 < b.1) ∧ ¬ (o.1 < p.1 ∧ a.1 < p.1 ∧ b.1 < p.1) := by
 rw [afT] at h
 obtain ⟨h1, h2, h3, _⟩ := h
 have key : o3 a b p * (o.1 - p.1) + o3 b o p * (a.1 - p.1) + o3 o a p * (b.1 - p.1) = 0 := by unfold o3; grind
 refine ⟨fun ⟨k1, k2, k3⟩ => ?_, fun ⟨k1, k2, k3⟩ => ?_⟩
 ·have t1 := Int.mul_pos h2 (show 0 < o.1 - p.1 by omega)
  have t2 := Int.mul_pos h3 (show 0 < a.1 - p.1 by omega)
  have t3 := Int.mul_pos h1 (show 0 < b.1 - p.1 by omega)
  omega
 ·have t1 := Int.mul_pos h2 (show 0 < -(o.1 - p.1) by omega)
  have t2 := Int.mul_pos h3 (show 0 < -(a.1 - p.1) by omega)
  have t3 := Int.mul_pos h1 (show 0 < -(b.1 - p.1) by omega)
  rw [Int.mul_neg] at t1 t2 t3
  omega
theorem azw (o a b : Int × Int) (x y : Int) : posB (x, y) [o, a, b, o] = inP o.1 o.2 a.1 a.2 b.1 b.2 x y := by
 show (decide (0 < o3 o a (x, y)) && (decide (0 < o3 a b (x, y)) && (decide (0 < o3 b o (x, y)) && true))) = _
 rw [Bool.and_true, EX, EX, EX]
 rfl
theorem arp {o a b : Int × Int} (D : 0 < o3 o a b) {x0 y0 : Int} {n M : Nat} (ho : x0 ≤ o.1 ∧ o.1 < x0 + n) (ha : x0 ≤ a.1 ∧ a.1 < x0 + n) (hb : x0 ≤ b.1 ∧ b.1 < x0 + n) (ho2 : y0 ≤ o.2 ∧ o.2 < y0 + M) (ha2 : y0 ≤ a.2 ∧ a.2 < y0 + M) (hb2 : y0 ≤ b.2 ∧ b.2 < y0 + M) :
 2 * sum2 (fun x y => b2i (posB (x, y) [o, a, b, o])) x0 n y0 M = o3 o a b - (gcdI (a.1 - o.1) (a.2 - o.2) + gcdI (b.1 - a.1) (b.2 - a.2) + gcdI (o.1 - b.1) (o.2 - b.2)) + 2 := by
 have hD : 0 < dT o.1 o.2 a.1 a.2 b.1 b.2 := by
  have : dT o.1 o.2 a.1 a.2 b.1 b.2 = o3 o a b := by rw [EX]; rfl
  rw [this]; exact D
 have hDe : dT o.1 o.2 a.1 a.2 b.1 b.2 = o3 o a b := by rw [EX]; rfl
 have hcols := atO (f := fun x y => b2i (posB (x, y) [o, a, b, o])) (x0 := x0) (x1 := min (min o.1 a.1) b.1) (y0 := y0) (n := n) (n1 := (max (max o.1 a.1) b.1 + 1 - min (min o.1 a.1) b.1).toNat) (M := M) (by omega) (by omega) (fun x y hxy => by
  cases hp : posB (x, y) [o, a, b, o] with
  | false => simp [b2i]
  | true =>
    exfalso
    obtain ⟨k1, k2⟩ := axB hp
    simp only at k1 k2
    omega)
 rw [hcols, afo (g := fun x y => b2i (inP o.1 o.2 a.1 a.2 b.1 b.2 x y)) (fun x y => by rw [azw]), ← atW]
 have := ax5 (M := M) hD (x0 := min (min o.1 a.1) b.1) (n := (max (max o.1 a.1) b.1 + 1 - min (min o.1 a.1) b.1).toNat) (y0 := y0) rfl (by omega) ho2.1 ha2.1 hb2.1 ho2.2 ha2.2 hb2.2
 rw [this, hDe]
theorem awV {o a b u m : Int × Int} {g : Int} (D : 0 < o3 o a b) (hg : 0 < g) (h1 : b.1 = o.1 + g * u.1) (h2 : b.2 = o.2 + g * u.2) (hm : u.1 * m.2 - u.2 * m.1 = 1) (p : Int × Int) :
 afw o a b p = true ↔ ∃ T : Int, 1 ≤ T ∧ T < g ∧ p.1 = o.1 + T * u.1 ∧ p.2 = o.2 + T * u.2 := by
 have hE : o3 o a b = g * ((a.1 - o.1) * u.2 - (a.2 - o.2) * u.1) := by rw [EX, h1, h2]; grind
 have E0 : 0 < (a.1 - o.1) * u.2 - (a.2 - o.2) * u.1 := aep hg (by rw [← hE]; exact D)
 have onl : ∀ T : Int, p.1 = o.1 + T * u.1 → p.2 = o.2 + T * u.2 → o3 o b p = 0 ∧ o3 o a p = T * ((a.1 - o.1) * u.2 - (a.2 - o.2) * u.1) ∧ o3 a b p = (g - T) * ((a.1 - o.1) * u.2 - (a.2 - o.2) * u.1) := fun T k1 k2 => by
  refine ⟨?_, ?_, ?_⟩ <;> rw [EX, k1, k2] <;> (try rw [h1, h2]) <;> grind
 unfold afw
 rw [Bool.and_eq_true, Bool.and_eq_true, decide_eq_true_eq, decide_eq_true_eq, decide_eq_true_eq]
 constructor
 ·rintro ⟨s0, s1, s2⟩
  have hz : g * (u.1 * (p.2 - o.2) - u.2 * (p.1 - o.1)) = 0 := by rw [EX, h1, h2] at s0; grind
  have hz2 : u.1 * (p.2 - o.2) - u.2 * (p.1 - o.1) = 0 := by
   rcases Int.mul_eq_zero.1 hz with e | e
   ·omega
   ·exact e
  have k1 : p.1 = o.1 + ((p.1 - o.1) * m.2 - (p.2 - o.2) * m.1) * u.1 := by grind
  have k2 : p.2 = o.2 + ((p.1 - o.1) * m.2 - (p.2 - o.2) * m.1) * u.2 := by grind
  obtain ⟨_, q1, q2⟩ := onl _ k1 k2
  rw [q1, Int.mul_comm] at s1
  rw [q2, Int.mul_comm] at s2
  have t1 := aep E0 s1
  have t2 := aep E0 s2
  exact ⟨_, by omega, by omega, k1, k2⟩
 ·rintro ⟨T, t1, t2, k1, k2⟩
  obtain ⟨q0, q1, q2⟩ := onl T k1 k2
  rw [q0, q1, q2]
  exact ⟨rfl, Int.mul_pos (by omega) E0, Int.mul_pos (by omega) E0⟩
theorem ajA {o b u g s lo : Int} {n : Nat} (h : b = o + g * u) (hs : 0 ≤ s) (hsg : s ≤ g) (ho : lo ≤ o ∧ o < lo + n) (hb : lo ≤ b ∧ b < lo + n) : lo ≤ o + s * u ∧ o + s * u < lo + n := by
 rcases Int.le_total 0 u with hu | hu
 ·have t1 := Int.mul_nonneg hs hu
  have t2 := Int.mul_le_mul_of_nonneg_right hsg hu
  omega
 ·have t1 := Int.mul_nonneg hs (show 0 ≤ -u by omega)
  have t2 := Int.mul_le_mul_of_nonneg_right hsg (show 0 ≤ -u by omega)
  rw [Int.mul_neg] at t1 t2
  rw [Int.mul_neg] at t2
  omega
theorem awT {o a b u m : Int × Int} {g : Int} (D : 0 < o3 o a b) (hg : 0 < g) (h1 : b.1 = o.1 + g * u.1) (h2 : b.2 = o.2 + g * u.2) (hm : u.1 * m.2 - u.2 * m.1 = 1) {x0 y0 : Int} {n M : Nat}
 (ho : x0 ≤ o.1 ∧ o.1 < x0 + n) (hb : x0 ≤ b.1 ∧ b.1 < x0 + n) (ho2 : y0 ≤ o.2 ∧ o.2 < y0 + M) (hb2 : y0 ≤ b.2 ∧ b.2 < y0 + M) : sum2 (fun x y => b2i (afw o a b (x, y))) x0 n y0 M = g - 1 := by
 have point : ∀ x y : Int, b2i (afw o a b (x, y)) = sumI (fun t => b2i (decide (x = o.1 + ((t : Int) + 1) * u.1) && decide (y = o.2 + ((t : Int) + 1) * u.2))) (g - 1).toNat := fun x y => by
  have hi := awV D hg h1 h2 hm (x, y)
  have uniq : ∀ s : Int, x = o.1 + s * u.1 → y = o.2 + s * u.2 → s = (x - o.1) * m.2 - (y - o.2) * m.1 := fun s k1 k2 => by rw [k1, k2]; grind
  cases hd : afw o a b (x, y) with
  | true =>
    obtain ⟨T, t1, t2, k1, k2⟩ := hi.1 hd
    simp only at k1 k2
    symm
    refine af5 (k := (T - 1).toNat) (by omega) ?_ fun i hiN hne => ?_
    ·have e : (((T - 1).toNat : Nat) : Int) + 1 = T := by omega
     show b2i (decide (x = o.1 + ((((T - 1).toNat : Nat) : Int) + 1) * u.1) && decide (y = o.2 + ((((T - 1).toNat : Nat) : Int) + 1) * u.2)) = 1
     rw [e, decide_eq_true k1, decide_eq_true k2]
     rfl
    ·have hn : ¬ (x = o.1 + ((i : Int) + 1) * u.1 ∧ y = o.2 + ((i : Int) + 1) * u.2) := fun ⟨c1, c2⟩ => by
      have e1 := uniq _ c1 c2
      have e2 := uniq _ k1 k2
      omega
     rw [← Bool.decide_and, decide_eq_false hn]
     rfl
  | false =>
    symm
    refine Az _ fun i hiN => ?_
    have hn : ¬ (x = o.1 + ((i : Int) + 1) * u.1 ∧ y = o.2 + ((i : Int) + 1) * u.2) := fun ⟨c1, c2⟩ => by
     have := hi.2 ⟨(i : Int) + 1, by omega, by omega, c1, c2⟩
     rw [hd] at this
     cases this
    rw [← Bool.decide_and, decide_eq_false hn]
    rfl
 rw [afo point, aib, lX (g := fun _ => 1) _ fun t ht => ala (ajA h1 (by omega) (by omega) ho hb) (ajA h2 (by omega) (by omega) ho2 hb2), Rq]
 omega
def gS (a b : Int × Int) : Int := gcdI (b.1 - a.1) (b.2 - a.2)
theorem aBt (a b : Int × Int) : gS a b = gS b a := by
 unfold gS
 rw [show b.1 - a.1 = -(a.1 - b.1) by omega, show b.2 - a.2 = -(a.2 - b.2) by omega, aeM]
def fanA (l : List (Int × Int)) : Nat → Nat → Int
 | m, 0 => o3 (gP l 0) (gP l m) (gP l (m + 1))
 | m, k + 1 => o3 (gP l 0) (gP l m) (gP l (m + 1)) + fanA l (m + 1) k
def fanB (l : List (Int × Int)) : Nat → Nat → Int
 | m, 0 => gS (gP l m) (gP l (m + 1)) + gS (gP l (m + 1)) (gP l 0)
 | m, k + 1 => gS (gP l m) (gP l (m + 1)) + fanB l (m + 1) k
theorem amS {l : List (Int × Int)} (h : Far l) (hs : ∀ e ∈ l, Sm e) {x0 y0 : Int} {n M : Nat} (hx : ∀ e ∈ l, x0 ≤ e.1 ∧ e.1 < x0 + n) (hy : ∀ e ∈ l, y0 ≤ e.2 ∧ e.2 < y0 + M) : ∀ (k m : Nat), 1 ≤ m → m + 2 + k = l.length →
 2 * sum2 (fun x y => fanT l (x, y) m k) x0 n y0 M = fanA l m k - (gS (gP l 0) (gP l m) + fanB l m k) + 2
 | 0, m, hm, hk => by
   have D := aeh h (by omega) hm 0 (by omega)
   rw [Nat.add_zero] at D
   have mem : ∀ i, i < l.length → gP l i ∈ l := fun i hi => pX hi
   have := arp D (hx _ (mem 0 (by omega))) (hx _ (mem m (by omega))) (hx _ (mem (m + 1) (by omega))) (hy _ (mem 0 (by omega))) (hy _ (mem m (by omega))) (hy _ (mem (m + 1) (by omega)))
   show 2 * sum2 (fun x y => b2i (posB (x, y) [gP l 0, gP l m, gP l (m + 1), gP l 0])) x0 n y0 M = _
   rw [this]
   unfold fanA fanB gS
   omega
 | k + 1, m, hm, hk => by
   have D := aeh h (by omega) hm 0 (by omega)
   rw [Nat.add_zero] at D
   have mem : ∀ i, i < l.length → gP l i ∈ l := fun i hi => pX hi
   have ih := amS h hs hx hy k (m + 1) (by omega) (by omega)
   have ht := arp D (hx _ (mem 0 (by omega))) (hx _ (mem m (by omega))) (hx _ (mem (m + 1) (by omega))) (hy _ (mem 0 (by omega))) (hy _ (mem m (by omega))) (hy _ (mem (m + 1) (by omega)))
   have s0 := hs _ (mem 0 (by omega))
   have s1 := hs _ (mem (m + 1) (by omega))
   have hsub := aat s1 s0
   have hne : (gP l (m + 1)).1 - (gP l 0).1 ≠ 0 ∨ (gP l (m + 1)).2 - (gP l 0).2 ≠ 0 := by
    rcases Classical.em ((gP l (m + 1)).1 - (gP l 0).1 = 0) with e | e
    ·refine .inr fun e2 => ?_
     have : gP l (m + 1) = gP l 0 := Prod.ext (by omega) (by omega)
     rw [this, ado] at D
     omega
    ·exact .inl e
   have hu := aha (a := (gP l (m + 1)).1 - (gP l 0).1) (b := (gP l (m + 1)).2 - (gP l 0).2) hsub.1 hsub.2
   have hm1 := (aof (a := (prim ((gP l (m + 1)).1 - (gP l 0).1) ((gP l (m + 1)).2 - (gP l 0).2)).1) (b := (prim ((gP l (m + 1)).1 - (gP l 0).1) ((gP l (m + 1)).2 - (gP l 0).2)).2) (by omega) (by omega) (agj hne)).det
   have hpm := ahJ ((gP l (m + 1)).1 - (gP l 0).1) ((gP l (m + 1)).2 - (gP l 0).2)
   have hg := aea hne
   have hd := awT (o := gP l 0) (a := gP l m) (b := gP l (m + 1)) (u := prim ((gP l (m + 1)).1 - (gP l 0).1) ((gP l (m + 1)).2 - (gP l 0).2)) (m := Yx (prim ((gP l (m + 1)).1 - (gP l 0).1) ((gP l (m + 1)).2 - (gP l 0).2)).1 (prim ((gP l (m + 1)).1 - (gP l 0).1) ((gP l (m + 1)).2 - (gP l 0).2)).2) (g := gcdI ((gP l (m + 1)).1 - (gP l 0).1) ((gP l (m + 1)).2 - (gP l 0).2)) (x0 := x0) (y0 := y0) (n := n) (M := M) D hg
    (by have := hpm.1; rw [Int.mul_comm] at this; omega) (by have := hpm.2; rw [Int.mul_comm] at this; omega) (by exact hm1) (hx _ (mem 0 (by omega))) (hx _ (mem (m + 1) (by omega))) (hy _ (mem 0 (by omega))) (hy _ (mem (m + 1) (by omega)))
   have e : sum2 (fun x y => fanT l (x, y) m (k + 1)) x0 n y0 M = sum2 (fun x y => b2i (posB (x, y) [gP l 0, gP l m, gP l (m + 1), gP l 0])) x0 n y0 M + sum2 (fun x y => fanT l (x, y) (m + 1) k) x0 n y0 M + sum2 (fun x y => b2i (afw (gP l 0) (gP l m) (gP l (m + 1)) (x, y))) x0 n y0 M := by
    rw [← aku, ← aku]
    rfl
   rw [e, hd]
   have e2 : gcdI ((gP l 0).1 - (gP l (m + 1)).1) ((gP l 0).2 - (gP l (m + 1)).2) = gcdI ((gP l (m + 1)).1 - (gP l 0).1) ((gP l (m + 1)).2 - (gP l 0).2) := aBt (gP l (m + 1)) (gP l 0)
   rw [e2] at ht
   unfold fanA fanB
   unfold gS at ih ⊢
   omega
theorem aoB (l : List (Int × Int)) (h0 : 0 < l.length) : ∀ (k m : Nat), m + 2 + k = l.length → fanB l m k = sumI (fun t => gS (gP l ((m + t) % l.length)) (gP l ((m + t + 1) % l.length))) (k + 2)
 | 0, m, h => by
   unfold fanB
   show _ = 0 + gS (gP l ((m + 0) % l.length)) (gP l ((m + 0 + 1) % l.length)) + gS (gP l ((m + 1) % l.length)) (gP l ((m + 1 + 1) % l.length))
   have e1 : (m + 0) % l.length = m := Nat.mod_eq_of_lt (by omega)
   have e2 : (m + 0 + 1) % l.length = m + 1 := Nat.mod_eq_of_lt (by omega)
   have e3 : (m + 1) % l.length = m + 1 := Nat.mod_eq_of_lt (by omega)
   have e4 : (m + 1 + 1) % l.length = 0 := by rw [show m + 1 + 1 = l.length by omega, Nat.mod_self]
   rw [e1, e2, e4]
   omega
 | k + 1, m, h => by
   unfold fanB
   have hf := LJ (fun t => gS (gP l ((m + t) % l.length)) (gP l ((m + t + 1) % l.length))) (k + 2)
   have e1 : (m + 0) % l.length = m := Nat.mod_eq_of_lt (by omega)
   have e2 : (m + 0 + 1) % l.length = m + 1 := Nat.mod_eq_of_lt (by omega)
   rw [e1, e2] at hf
   rw [show k + 1 + 2 = (k + 2) + 1 by omega, hf, aoB l h0 k (m + 1) (by omega)]
   congr 1
   exact lX _ fun t _ => by rw [show m + 1 + t = m + (t + 1) by omega]
def cxP (a b : Int × Int) : Int := a.1 * b.2 - a.2 * b.1
theorem ayU (o p q : Int × Int) : o3 o p q = cxP p q + cxP o p + cxP q o := by unfold o3 cxP; grind
theorem axH (p q : Int × Int) : cxP p q = -(cxP q p) := by unfold cxP; grind
theorem aoG (l : List (Int × Int)) : ∀ (k m : Nat), fanA l m k = sumI (fun t => cxP (gP l (m + t)) (gP l (m + t + 1))) (k + 1) + cxP (gP l 0) (gP l m) + cxP (gP l (m + k + 1)) (gP l 0)
 | 0, m => by
   unfold fanA
   rw [ayU]
   show _ = (0 + cxP (gP l (m + 0)) (gP l (m + 0 + 1))) + _ + cxP (gP l (m + 0 + 1)) (gP l 0)
   simp only [Nat.add_zero]
   omega
 | k + 1, m => by
   unfold fanA
   have hf := LJ (fun t => cxP (gP l (m + t)) (gP l (m + t + 1))) (k + 1)
   have e : sumI (fun t => cxP (gP l (m + 1 + t)) (gP l (m + 1 + t + 1))) (k + 1) = sumI (fun t => cxP (gP l (m + (t + 1))) (gP l (m + (t + 1) + 1))) (k + 1) := lX _ fun t _ => by rw [show m + 1 + t = m + (t + 1) by omega]
   have ha := axH (gP l (m + 1)) (gP l 0)
   rw [aoG l k (m + 1), ayU, e, hf, show m + 1 + k + 1 = m + (k + 1) + 1 by omega]
   simp only [Nat.add_zero]
   omega
theorem arj {x : Int} : sgn x = 1 ↔ 0 < x := by unfold sgn; split <;> (try split) <;> omega
theorem arh (f : Nat → Int) : ∀ (m i : Nat) (s : Int), s ≤ 1 → (minF f i m s = 1 ↔ s = 1 ∧ ∀ j, i ≤ j → j < i + m → 0 < f j)
 | 0, i, s, _ => by
   unfold minF
   exact ⟨fun h => ⟨h, fun j h1 h2 => by omega⟩, fun h => h.1⟩
 | m + 1, i, s, hs => by
   have hb := arQ (f i)
   rw [minF, arh f m (i + 1) _ (by omega)]
   constructor
   ·rintro ⟨h1, h2⟩
    have h3 : s = 1 ∧ sgn (f i) = 1 := by omega
    refine ⟨h3.1, fun j j1 j2 => ?_⟩
    rcases Nat.eq_or_lt_of_le j1 with e | e
    ·rw [← e]; exact arj.1 h3.2
    ·exact h2 j (by omega) (by omega)
   ·rintro ⟨h1, h2⟩
    have h3 := arj.2 (h2 i (by omega) (by omega))
    exact ⟨by omega, fun j j1 j2 => h2 j (by omega) (by omega)⟩
theorem aom {R : Int × Int → Int × Int → Prop} : ∀ {l : List (Int × Int)}, AllS R l → ∀ i, i + 1 < l.length → R (gP l i) (gP l (i + 1))
 | [], _, i, h => by simp at h
 | [_], _, i, h => by simp at h
 | a :: b :: r, h, 0, _ => h.1
 | a :: b :: r, h, i + 1, hi => aom (l := b :: r) h.2 i (by simpa using hi)
theorem axd {l : List (Int × Int)} (h3 : 3 ≤ l.length) (a b : Int) : minF (vk l a b) 0 l.length 1 = 1 ↔ posB (a, b) (gP l 0 :: (l.drop 1 ++ [gP l 0])) = true := by
 have hpath : gP l 0 :: (l.drop 1 ++ [gP l 0]) = l.drop 0 ++ [gP l 0] := by
  rw [adb (show 0 < l.length by omega)]
  rfl
 have hside : ∀ i, i < l.length → vk l a b i = o3 (gP l i) (gP l ((i + 1) % l.length)) (a, b) := fun i hi => by
  unfold vk o3
  simp only [(aaX l _).1, (aaX l _).2, Nat.mod_eq_of_lt hi]
 have hlen : (l.drop 0 ++ [gP l 0]).length = l.length + 1 := by simp
 rw [arh _ _ _ _ (by omega), afT, hpath]
 constructor
 ·rintro ⟨_, h⟩
  refine agR fun i hi => ?_
  rw [hlen] at hi
  rw [aem (by omega) (by omega) (by omega), aem (by omega) (by omega) (by omega), Nat.zero_add, Nat.zero_add, Nat.mod_eq_of_lt (show i < l.length by omega), ← hside i (by omega)]
  exact h i (by omega) (by omega)
 ·intro h
  refine ⟨rfl, fun i _ hi => ?_⟩
  have := aom h i (by rw [hlen]; omega)
  rw [aem (by omega) (by omega) (by omega), aem (by omega) (by omega) (by omega), Nat.zero_add, Nat.zero_add, Nat.mod_eq_of_lt (show i < l.length by omega), ← hside i (by omega)] at this
  exact this
theorem auE {l : List (Int × Int)} (hp : kZ l = true) {x0 y0 : Int} {n M : Nat} (hx : ∀ e ∈ l, x0 ≤ e.1 ∧ e.1 < x0 + n) (hy : ∀ e ∈ l, y0 ≤ e.2 ∧ e.2 < y0 + M) :
 2 * sum2 (fun x y => b2i (decide (minF (vk l x y) 0 l.length 1 = 1))) x0 n y0 M = fanA l 1 (l.length - 3) - (gS (gP l 0) (gP l 1) + fanB l 1 (l.length - 3)) + 2 := by
 obtain ⟨p1, p2⟩ := nX hp
 have hF := aer hp
 rw [← amS hF (aen hp) hx hy (l.length - 3) 1 (by omega) (by omega)]
 congr 1
 refine afo (fun x y => ?_) _ _ _ _
 rw [← avC hF (x, y) (l.length - 3) 1 (by omega) (by omega)]
 congr 1
 have := axd p1 x y
 cases hq : posB (x, y) (gP l 0 :: (l.drop 1 ++ [gP l 0])) with
 | true => rw [hq] at this; exact decide_eq_true (this.2 rfl)
 | false => rw [hq] at this; exact decide_eq_false fun e => by have := this.1 e; cases this
theorem agF (f : Nat → Int) : ∀ (m i : Nat), sumF f i m = sumI (fun t => f (i + t)) m
 | 0, _ => rfl
 | m + 1, i => by
   have e : sumI (fun t => f (i + 1 + t)) m = sumI (fun t => f (i + (t + 1))) m := lX m fun t _ => by rw [show i + 1 + t = i + (t + 1) by omega]
   rw [sumF, agF f m (i + 1), LJ, e, Nat.add_zero]
theorem aC7 (l : List (Int × Int)) (i : Nat) : dtF l i = cxP (gP l (i % l.length)) (gP l ((i + 1) % l.length)) := rfl
theorem aqA (l : List (Int × Int)) (i : Nat) : lenF l i = gS (gP l (i % l.length)) (gP l ((i + 1) % l.length)) := rfl
theorem aqM {l : List (Int × Int)} (h3 : 3 ≤ l.length) : fanA l 1 (l.length - 3) = sumF (dtF l) 0 l.length := by
 rw [aoG, agF]
 obtain ⟨n, hn⟩ : ∃ n, l.length = n + 3 := ⟨l.length - 3, by omega⟩
 have e0 : sumI (fun t => dtF l (0 + t)) l.length = sumI (fun t => cxP (gP l (t % l.length)) (gP l ((t + 1) % l.length))) ((n + 2) + 1) := by
  rw [← hn]
  exact lX _ fun t _ => by rw [Nat.zero_add, aC7]
 have hl : sumI (fun t => cxP (gP l (t % l.length)) (gP l ((t + 1) % l.length))) ((n + 2) + 1) = sumI (fun t => cxP (gP l (t % l.length)) (gP l ((t + 1) % l.length))) (n + 2) + cxP (gP l ((n + 2) % l.length)) (gP l ((n + 2 + 1) % l.length)) := rfl
 have hf := LJ (fun t => cxP (gP l (t % l.length)) (gP l ((t + 1) % l.length))) (n + 1)
 have hc : sumI (fun t => cxP (gP l ((t + 1) % l.length)) (gP l ((t + 1 + 1) % l.length))) (n + 1) = sumI (fun t => cxP (gP l (1 + t)) (gP l (1 + t + 1))) (n + 1) := lX _ fun t ht => by
  rw [Nat.mod_eq_of_lt (by omega), Nat.mod_eq_of_lt (by omega), Nat.add_comm t 1]
 have m1 : (n + 2) % l.length = n + 2 := Nat.mod_eq_of_lt (by omega)
 have m2 : (n + 2 + 1) % l.length = 0 := by rw [show n + 2 + 1 = l.length by omega, Nat.mod_self]
 have m3 : (0 + 1) % l.length = 1 := Nat.mod_eq_of_lt (by omega)
 have m4 : 0 % l.length = 0 := Nat.zero_mod _
 rw [e0, hl, hf, hc, m1, m2, m3, m4, show l.length - 3 = n by omega, show 1 + n + 1 = n + 2 by omega]
 omega
theorem axt {l : List (Int × Int)} (h3 : 3 ≤ l.length) : gS (gP l 0) (gP l 1) + fanB l 1 (l.length - 3) = sumF (lenF l) 0 l.length := by
 rw [aoB l (by omega) _ _ (by omega), agF]
 obtain ⟨n, hn⟩ : ∃ n, l.length = n + 3 := ⟨l.length - 3, by omega⟩
 have e0 : sumI (fun t => lenF l (0 + t)) l.length = sumI (fun t => gS (gP l (t % l.length)) (gP l ((t + 1) % l.length))) ((n + 2) + 1) := by
  rw [← hn]
  exact lX _ fun t _ => by rw [Nat.zero_add, aqA]
 have hf := LJ (fun t => gS (gP l (t % l.length)) (gP l ((t + 1) % l.length))) (n + 2)
 have hc : sumI (fun t => gS (gP l ((t + 1) % l.length)) (gP l ((t + 1 + 1) % l.length))) (n + 2) = sumI (fun t => gS (gP l ((1 + t) % l.length)) (gP l ((1 + t + 1) % l.length))) (n + 2) := lX _ fun t _ => by
  rw [Nat.add_comm t 1]
 have m3 : (0 + 1) % l.length = 1 := Nat.mod_eq_of_lt (by omega)
 have m4 : 0 % l.length = 0 := Nat.zero_mod _
 rw [e0, hf, hc, m3, m4, show l.length - 3 + 2 = n + 2 by omega]
structure aEw (l : List (Int × Int)) (A B : Int) : Prop where
 a : totF (detF l) 0 l.length 0 = A
 b : totF (lenF l) 0 l.length 0 = B
 ea : A = sumF (dtF l) 0 l.length
 eb : B = sumF (lenF l) 0 l.length
 la : -24000000 ≤ A ∧ A ≤ 24000000
 lb : -24000 ≤ B ∧ B ≤ 24000
 par : ∃ c, B - A = 2 * c
theorem avT {l : List (Int × Int)} (hp : kZ l = true) : aEw l (sumF (dtF l) 0 l.length) (sumF (lenF l) 0 l.length) := by
 obtain ⟨p1, p2⟩ := nX hp
 have hsm := Xv hp
 have hdb : ∀ i, -2000000 ≤ dtF l i ∧ dtF l i ≤ 2000000 := fun i => by
  have x0 := sm_b (hsm i).1
  have y0 := sm_b (hsm i).2
  have x1 := sm_b (hsm (i + 1)).1
  have y1 := sm_b (hsm (i + 1)).2
  have m1 := uk x0.1 x0.2 y1.1 y1.2
  have m2 := uk y0.1 y0.2 x1.1 x1.2
  unfold dtF
  omega
 have hlb : ∀ i, -2000 ≤ lenF l i ∧ lenF l i ≤ 2000 := fun i => by
  have x0 := sm_b (hsm i).1
  have y0 := sm_b (hsm i).2
  have x1 := sm_b (hsm (i + 1)).1
  have y1 := sm_b (hsm (i + 1)).2
  have := amc (a := jw l (i + 1) - jw l i) (b := jq l (i + 1) - jq l i) (B := 2000) (by omega) (by omega) (by omega) (by omega)
  unfold lenF
  omega
 have hdf : detF l = dtF l := funext fun i => by
  have x0 := sm_b (hsm i).1
  have y0 := sm_b (hsm i).2
  have x1 := sm_b (hsm (i + 1)).1
  have y1 := sm_b (hsm (i + 1)).2
  unfold detF dtF
  exact ahu (by omega) (by omega) (by omega) (by omega)
 have tA : totF (detF l) 0 l.length 0 = sumF (dtF l) 0 l.length := by rw [hdf]; exact amD (B := 2000000) (by omega) (by omega) hdb (by omega)
 have tB : totF (lenF l) 0 l.length 0 = sumF (lenF l) 0 l.length := amD (B := 2000) (by omega) (by omega) hlb (by omega)
 have bA := aoE (B := 2000000) (by omega) hdb l.length 0
 have bB := aoE (B := 2000) (by omega) hlb l.length 0
 obtain ⟨c, hc⟩ := aqH l l.length 0
 rw [awU] at hc
 exact ⟨tA, tB, rfl, rfl, by omega, by omega, c, by omega⟩
theorem asz {l : List (Int × Int)} (hp : kZ l = true) {x0 y0 : Int} {n M : Nat} (hx : ∀ e ∈ l, x0 ≤ e.1 ∧ e.1 < x0 + n) (hy : ∀ e ∈ l, y0 ≤ e.2 ∧ e.2 < y0 + M) :
 2 * sum2 (fun x y => b2i (decide (minF (vk l x y) 0 l.length 1 = 1))) x0 n y0 M = sumF (dtF l) 0 l.length - sumF (lenF l) 0 l.length + 2 := by
 obtain ⟨p1, p2⟩ := nX hp
 rw [auE hp hx hy, aqM p1, axt p1]
structure ahH (a b u m : Int × Int) (g : Int) : Prop where
 g0 : 0 < g
 h1 : b.1 = a.1 + g * u.1
 h2 : b.2 = a.2 + g * u.2
 hm : u.1 * m.2 - u.2 * m.1 = 1
theorem atn {a b : Int × Int} (ha : Sm a) (hb : Sm b) (hne : a ≠ b) : ∃ u m, ahH a b u m (gS a b) := by
 have hsub := aat hb ha
 have hne2 : b.1 - a.1 ≠ 0 ∨ b.2 - a.2 ≠ 0 := by
  rcases Classical.em (b.1 - a.1 = 0) with e | e
  ·refine .inr fun e2 => hne (Prod.ext (by omega) (by omega))
  ·exact .inl e
 have hu := aha (a := b.1 - a.1) (b := b.2 - a.2) hsub.1 hsub.2
 have hm1 := (aof (a := (prim (b.1 - a.1) (b.2 - a.2)).1) (b := (prim (b.1 - a.1) (b.2 - a.2)).2) (by omega) (by omega) (agj hne2)).det
 have hpm := ahJ (b.1 - a.1) (b.2 - a.2)
 have hg := aea hne2
 refine ⟨prim (b.1 - a.1) (b.2 - a.2), Yx (prim (b.1 - a.1) (b.2 - a.2)).1 (prim (b.1 - a.1) (b.2 - a.2)).2, hg, ?_, ?_, hm1⟩
 ·have := hpm.1; unfold gS; rw [Int.mul_comm] at this; omega
 ·have := hpm.2; unfold gS; rw [Int.mul_comm] at this; omega
def onS (a u : Int × Int) (g : Int) (p : Int × Int) : Prop := ∃ T : Int, 0 ≤ T ∧ T < g ∧ p.1 = a.1 + T * u.1 ∧ p.2 = a.2 + T * u.2
def hitS (a u : Int × Int) (g : Int) (x y : Int) : Int := sumI (fun t => b2i (decide (x = a.1 + (t : Int) * u.1) && decide (y = a.2 + (t : Int) * u.2))) g.toNat
theorem ao2 {a b u m : Int × Int} {g : Int} (S : ahH a b u m g) (x y : Int) : (onS a u g (x, y) → hitS a u g x y = 1) ∧ (¬ onS a u g (x, y) → hitS a u g x y = 0) := by
 have hm := S.hm
 have uniq : ∀ s : Int, x = a.1 + s * u.1 → y = a.2 + s * u.2 → s = (x - a.1) * m.2 - (y - a.2) * m.1 := fun s k1 k2 => by rw [k1, k2]; grind
 constructor
 ·rintro ⟨T, t1, t2, k1, k2⟩
  simp only at k1 k2
  refine af5 (k := T.toNat) (by omega) ?_ fun i hiN hne => ?_
  ·have e : ((T.toNat : Nat) : Int) = T := by omega
   show b2i (decide (x = a.1 + ((T.toNat : Nat) : Int) * u.1) && decide (y = a.2 + ((T.toNat : Nat) : Int) * u.2)) = 1
   rw [e, decide_eq_true k1, decide_eq_true k2]
   rfl
  ·have hn : ¬ (x = a.1 + (i : Int) * u.1 ∧ y = a.2 + (i : Int) * u.2) := fun ⟨c1, c2⟩ => by
    have e1 := uniq _ c1 c2
    have e2 := uniq _ k1 k2
    omega
   rw [← Bool.decide_and, decide_eq_false hn]
   rfl
 ·intro h
  refine Az _ fun i hiN => ?_
  have hn : ¬ (x = a.1 + (i : Int) * u.1 ∧ y = a.2 + (i : Int) * u.2) := fun ⟨c1, c2⟩ => h ⟨(i : Int), by omega, by omega, c1, c2⟩
  rw [← Bool.decide_and, decide_eq_false hn]
  rfl
theorem azt {a b u m : Int × Int} {g : Int} (S : ahH a b u m g) {x0 y0 : Int} {n M : Nat} (ho : x0 ≤ a.1 ∧ a.1 < x0 + n) (hb : x0 ≤ b.1 ∧ b.1 < x0 + n) (ho2 : y0 ≤ a.2 ∧ a.2 < y0 + M) (hb2 : y0 ≤ b.2 ∧ b.2 < y0 + M) :
 sum2 (fun x y => hitS a u g x y) x0 n y0 M = g := by
 have hg := S.g0
 unfold hitS
 rw [aib, lX (g := fun _ => 1) _ fun t ht => ala (ajA S.h1 (by omega) (by omega) ho hb) (ajA S.h2 (by omega) (by omega) ho2 hb2), Rq]
 omega
theorem azI {a b u m : Int × Int} {g : Int} (S : ahH a b u m g) {p : Int × Int} (h : o3 a b p = 0) : ∃ T : Int, p.1 = a.1 + T * u.1 ∧ p.2 = a.2 + T * u.2 := by
 have hm := S.hm
 have h1 := S.h1
 have h2 := S.h2
 have hz : g * (u.1 * (p.2 - a.2) - u.2 * (p.1 - a.1)) = 0 := by rw [EX, h1, h2] at h; grind
 have hz2 : u.1 * (p.2 - a.2) - u.2 * (p.1 - a.1) = 0 := by
  have := S.g0
  rcases Int.mul_eq_zero.1 hz with e | e
  ·omega
  ·exact e
 exact ⟨(p.1 - a.1) * m.2 - (p.2 - a.2) * m.1, by grind, by grind⟩
theorem amy {a b u m : Int × Int} {g : Int} (S : ahH a b u m g) {p : Int × Int} {T : Int} (k1 : p.1 = a.1 + T * u.1) (k2 : p.2 = a.2 + T * u.2) (v w : Int × Int) : g * o3 v w p = (g - T) * o3 v w a + T * o3 v w b := by
 have h1 := S.h1
 have h2 := S.h2
 rw [EX, EX, EX, k1, k2, h1, h2]
 grind
theorem aGO {x : Int} : (0 ≤ sgn x ↔ 0 ≤ x) ∧ (sgn x = 0 ↔ x = 0) := by unfold sgn; split <;> (try split) <;> omega
theorem aq4 (f : Nat → Int) : ∀ (m i : Nat) (s : Int), -1 ≤ s → s ≤ 1 → (minF f i m s = 0 ↔ (0 ≤ s ∧ ∀ j, i ≤ j → j < i + m → 0 ≤ f j) ∧ (s = 0 ∨ ∃ j, i ≤ j ∧ j < i + m ∧ f j = 0))
 | 0, i, s, _, _ => by
   unfold minF
   constructor
   ·intro h
    exact ⟨⟨by omega, fun j h1 h2 => by omega⟩, .inl h⟩
   ·rintro ⟨_, h | ⟨j, h1, h2, _⟩⟩
    ·exact h
    ·omega
 | m + 1, i, s, h1, h2 => by
   have hb := arQ (f i)
   have hz := aGO (x := f i)
   rw [minF, aq4 f m (i + 1) _ (by omega) (by omega)]
   constructor
   ·rintro ⟨⟨q1, q2⟩, q3⟩
    refine ⟨⟨by omega, fun j j1 j2 => ?_⟩, ?_⟩
    ·rcases Nat.eq_or_lt_of_le j1 with e | e
     ·rw [← e]; exact hz.1.1 (by omega)
     ·exact q2 j (by omega) (by omega)
    ·rcases q3 with q | ⟨j, j1, j2, j3⟩
     ·rcases Classical.em (s = 0) with e | e
      ·exact .inl e
      ·exact .inr ⟨i, by omega, by omega, hz.2.1 (by omega)⟩
     ·exact .inr ⟨j, by omega, by omega, j3⟩
   ·rintro ⟨⟨q1, q2⟩, q3⟩
    have q0 := hz.1.2 (q2 i (by omega) (by omega))
    refine ⟨⟨by omega, fun j j1 j2 => q2 j (by omega) (by omega)⟩, ?_⟩
    rcases q3 with q | ⟨j, j1, j2, j3⟩
    ·exact .inl (by omega)
    ·rcases Nat.eq_or_lt_of_le j1 with e | e
     ·subst e
      have := hz.2.2 j3
      exact .inl (by omega)
     ·exact .inr ⟨j, by omega, by omega, j3⟩
def nxt (n i : Nat) : Nat := if i + 1 = n then 0 else i + 1
theorem afE {n i : Nat} (h : i < n) : (i + 1) % n = nxt n i := by
 unfold nxt
 split
 ·rename_i e; rw [e, Nat.mod_self]
 ·exact Nat.mod_eq_of_lt (by omega)
theorem akI {n i : Nat} (h : i < n) : nxt n i < n := by unfold nxt; split <;> omega
def eS (l : List (Int × Int)) (j : Nat) (p : Int × Int) : Int := o3 (gP l j) (gP l (nxt l.length j)) p
theorem ahz {l : List (Int × Int)} (h : Far l) {i j : Nat} (hi : i < l.length) (hj : j < l.length) : 0 ≤ eS l j (gP l i) ∧ (eS l j (gP l i) = 0 → i = j ∨ i = nxt l.length j) ∧ (i = j ∨ i = nxt l.length j → eS l j (gP l i) = 0) := by
 unfold eS
 rcases Classical.em (i = j) with e | e
 ·subst e
  rw [ado]
  exact ⟨by omega, fun _ => .inl rfl, fun _ => rfl⟩
 ·rcases Classical.em (i = nxt l.length j) with e2 | e2
  ·subst e2
   rw [ai5]
   exact ⟨by omega, fun _ => .inr rfl, fun _ => rfl⟩
  ·have := h j i hj hi e (by rw [afE hj]; exact e2)
   rw [afE hj] at this
   exact ⟨by omega, fun h0 => by omega, fun h0 => by rcases h0 with h0 | h0 <;> contradiction⟩
theorem aoN {g x : Int} (hg : 0 < g) (h : 0 ≤ g * x) : 0 ≤ x := by
 rcases Int.lt_or_le x 0 with h' | h'
 ·have := Int.mul_lt_mul_of_pos_left h' hg
  rw [Int.mul_zero] at this
  omega
 ·exact h'
theorem ay5 {g x : Int} (hg : 0 < g) (h : g * x = 0) : x = 0 := by
 rcases Int.mul_eq_zero.1 h with e | e
 ·omega
 ·exact e
def anE (l : List (Int × Int)) (U W : Nat → Int × Int) : Prop := ∀ i, i < l.length → ahH (gP l i) (gP l (nxt l.length i)) (U i) (W i) (gS (gP l i) (gP l (nxt l.length i)))
theorem apm {l : List (Int × Int)} (h : Far l) {U W : Nat → Int × Int} (hS : anE l U W) {i : Nat} (hi : i < l.length) {p : Int × Int} (ho : onS (gP l i) (U i) (gS (gP l i) (gP l (nxt l.length i))) p) :
 eS l i p = 0 ∧ ∀ j, j < l.length → 0 ≤ eS l j p ∧ (eS l j p = 0 → i = j ∨ i = nxt l.length j) := by
 obtain ⟨T, t1, t2, k1, k2⟩ := ho
 have S := hS i hi
 have hc := fun j => amy S k1 k2 (gP l j) (gP l (nxt l.length j))
 have key : ∀ j, j < l.length → 0 ≤ eS l j p ∧ (eS l j p = 0 → i = j ∨ i = nxt l.length j) := fun j hj => by
  have a := ahz h hi hj
  have b := ahz h (akI hi) hj
  have c := hc j
  unfold eS at a b ⊢
  have m1 := Int.mul_nonneg (show 0 ≤ gS (gP l i) (gP l (nxt l.length i)) - T by omega) a.1
  have m2 := Int.mul_nonneg t1 b.1
  refine ⟨aoN S.g0 (by omega), fun hz => a.2.1 ?_⟩
  rw [hz, Int.mul_zero] at c
  exact ay5 (show 0 < gS (gP l i) (gP l (nxt l.length i)) - T by omega) (by omega)
 refine ⟨?_, key⟩
 have c := hc i
 rw [ado, ai5, Int.mul_zero, Int.mul_zero] at c
 exact ay5 S.g0 c
theorem azh {l : List (Int × Int)} (h : Far l) (h3 : 3 ≤ l.length) {U W : Nat → Int × Int} (hS : anE l U W) {i : Nat} (hi : i < l.length) {p : Int × Int} (hz : eS l i p = 0) (hall : ∀ j, j < l.length → 0 ≤ eS l j p) :
 ∃ j, j < l.length ∧ onS (gP l j) (U j) (gS (gP l j) (gP l (nxt l.length j))) p := by
 have S := hS i hi
 obtain ⟨T, k1, k2⟩ := azI S hz
 have hc := fun j => amy S k1 k2 (gP l j) (gP l (nxt l.length j))
 obtain ⟨j, hj, hn⟩ : ∃ j, j < l.length ∧ nxt l.length j = i := by
  unfold nxt
  rcases Nat.eq_zero_or_pos i with e | e
  ·exact ⟨l.length - 1, by omega, by rw [if_pos (by omega)]; omega⟩
  ·exact ⟨i - 1, by omega, by rw [if_neg (by omega)]; omega⟩
 have hni : nxt l.length i < l.length := akI hi
 have hd : nxt l.length i ≠ i ∧ nxt l.length i ≠ j ∧ i ≠ nxt l.length (nxt l.length i) := by
  unfold nxt at hn ⊢
  refine ⟨?_, ?_, ?_⟩
  ·split <;> omega
  ·split at hn <;> split <;> omega
  ·split <;> split <;> omega
 have t0 : 0 ≤ T := by
  have a := ahz h hi hj
  have b := ahz h hni hj
  have c := hc j
  have e := hall j hj
  have az := a.2.2 (.inr hn.symm)
  unfold eS at a b c e az
  have bp : 0 < o3 (gP l j) (gP l (nxt l.length j)) (gP l (nxt l.length i)) := by
   rcases Int.lt_or_eq_of_le b.1 with q | q
   ·exact q
   ·rcases b.2.1 q.symm with q | q
    ·exact absurd q hd.2.1
    ·rw [hn] at q; exact absurd q hd.1
  rw [az, Int.mul_zero, Int.zero_add] at c
  have m := Int.mul_nonneg (Int.le_of_lt S.g0) e
  exact aoN bp (by rw [Int.mul_comm]; omega)
 have t1 : T ≤ gS (gP l i) (gP l (nxt l.length i)) := by
  have a := ahz h hi hni
  have b := ahz h hni hni
  have c := hc (nxt l.length i)
  have e := hall (nxt l.length i) hni
  have bz := b.2.2 (.inl rfl)
  unfold eS at a b c e bz
  have ap : 0 < o3 (gP l (nxt l.length i)) (gP l (nxt l.length (nxt l.length i))) (gP l i) := by
   rcases Int.lt_or_eq_of_le a.1 with q | q
   ·exact q
   ·rcases a.2.1 q.symm with q | q
    ·exact absurd q.symm hd.1
    ·exact absurd q hd.2.2
  rw [bz, Int.mul_zero, Int.add_zero] at c
  have m := Int.mul_nonneg (Int.le_of_lt S.g0) e
  have := aoN ap (x := gS (gP l i) (gP l (nxt l.length i)) - T) (by rw [Int.mul_comm]; omega)
  omega
 rcases Int.lt_or_eq_of_le t1 with q | q
 ·exact ⟨i, hi, T, t0, q, k1, k2⟩
 ·have S2 := hS _ hni
  refine ⟨nxt l.length i, hni, 0, by omega, S2.g0, ?_, ?_⟩
  ·rw [k1, q, S.h1]; omega
  ·rw [k2, q, S.h2]; omega
theorem ajH {l : List (Int × Int)} (x y : Int) {j : Nat} (hj : j < l.length) : vk l x y j = eS l j (x, y) := by
 unfold vk eS o3
 simp only [(aaX l _).1, (aaX l _).2, Nat.mod_eq_of_lt hj, afE hj]
theorem auQ {l : List (Int × Int)} (h : Far l) (h3 : 3 ≤ l.length) {U W : Nat → Int × Int} (hS : anE l U W) (x y : Int) :
 b2i (decide (minF (vk l x y) 0 l.length 1 = 0)) = sumI (fun i => hitS (gP l i) (U i) (gS (gP l i) (gP l (nxt l.length i))) x y) l.length := by
 have hb := aq4 (vk l x y) l.length 0 1 (by omega) (by omega)
 rcases Classical.em (minF (vk l x y) 0 l.length 1 = 0) with e | e
 ·rw [decide_eq_true e]
  obtain ⟨⟨_, q2⟩, q3⟩ := hb.1 e
  obtain ⟨i, i1, i2, i3⟩ := q3.resolve_left (by omega)
  have hi : i < l.length := by omega
  rw [ajH x y hi] at i3
  obtain ⟨j, hj, ho⟩ := azh h h3 hS hi i3 fun j hj => by rw [← ajH x y hj]; exact q2 j (by omega) (by omega)
  have hoa := apm h hS hj ho
  symm
  refine af5 (k := j) hj ((ao2 (hS j hj) x y).1 ho) fun c hc hne => (ao2 (hS c hc) x y).2 fun hoc => ?_
  have hca := apm h hS hc hoc
  have u1 := (hoa.2 c hc).2 hca.1
  have u2 := (hca.2 j hj).2 hoa.1
  unfold nxt at u1 u2
  split at u1 <;> split at u2 <;> omega
 ·rw [decide_eq_false e]
  symm
  refine Az _ fun j hj => (ao2 (hS j hj) x y).2 fun ho => e (hb.2 ?_)
  have hoa := apm h hS hj ho
  refine ⟨⟨by omega, fun c _ hc => ?_⟩, .inr ⟨j, by omega, by omega, ?_⟩⟩
  ·rw [ajH x y (by omega)]; exact (hoa.2 c (by omega)).1
  ·rw [ajH x y hj]; exact hoa.1
theorem ap7 {l : List (Int × Int)} (hp : kZ l = true) {x0 y0 : Int} {n M : Nat} (hx : ∀ e ∈ l, x0 ≤ e.1 ∧ e.1 < x0 + n) (hy : ∀ e ∈ l, y0 ≤ e.2 ∧ e.2 < y0 + M) :
 sum2 (fun x y => b2i (decide (minF (vk l x y) 0 l.length 1 = 0))) x0 n y0 M = sumF (lenF l) 0 l.length := by
 obtain ⟨p1, p2⟩ := nX hp
 have h := aer hp
 have hsm := aen hp
 have hex : ∀ i, ∃ q : (Int × Int) × (Int × Int), i < l.length → ahH (gP l i) (gP l (nxt l.length i)) q.1 q.2 (gS (gP l i) (gP l (nxt l.length i))) := fun i => by
  rcases Classical.em (i < l.length) with hi | hi
  ·have hni := akI hi
   have hne : gP l i ≠ gP l (nxt l.length i) := fun e => by
    obtain ⟨j, hj, j1, j2⟩ : ∃ j, j < l.length ∧ j ≠ i ∧ j ≠ nxt l.length i := by
     rcases Classical.em (0 ≠ i ∧ 0 ≠ nxt l.length i) with c | c
     ·exact ⟨0, by omega, c.1, c.2⟩
     ·rcases Classical.em (1 ≠ i ∧ 1 ≠ nxt l.length i) with c1 | c1
      ·exact ⟨1, by omega, c1.1, c1.2⟩
      ·exact ⟨2, by omega, by omega, by omega⟩
    have := h i j hi hj j1 (by rw [afE hi]; exact j2)
    rw [afE hi, ← e] at this
    have hz : o3 (gP l i) (gP l i) (gP l j) = 0 := by unfold o3; grind
    omega
   obtain ⟨u, m, S⟩ := atn (hsm _ (pX hi)) (hsm _ (pX hni)) hne
   exact ⟨(u, m), fun _ => S⟩
  ·exact ⟨((0, 0), (0, 0)), fun c => absurd c hi⟩
 obtain ⟨q, hq⟩ := Classical.axiomOfChoice hex
 have hS : anE l (fun i => (q i).1) (fun i => (q i).2) := fun i hi => hq i hi
 rw [afo (fun x y => auQ h p1 hS x y), aib, agF]
 refine lX _ fun i hi => ?_
 have hni := akI hi
 rw [azt (hS i hi) (hx _ (pX hi)) (hx _ (pX hni)) (hy _ (pX hi)) (hy _ (pX hni)), Nat.zero_add, aqA, Nat.mod_eq_of_lt hi, afE hi]
theorem ars {l : List Int} (hl : Dx l) {most : Int} (h0 : 0 ≤ most) (h1 : most ≤ 1000000) : ∀ (m k : Nat) (a h : Int) (out : List (Int × Int)), AtC l a → out.length + m ≤ 1000 → m < k →
 ∃ v a' h', AtC l a' ∧ v.length = out.length + m ∧ ∀ b (r0 : List (Int × Int) → Option α), BZ k most m a h out l b r0 = b most 0 a' h' v l
 | 0, k + 1, a, h, out, ha, hn, _ => ⟨out, a, h, ha, rfl, fun b r0 => by rw [BZ, UV, iW (by omega), cond_false]; rfl⟩
 | m + 1, k + 1, a, h, out, ha, hn, hk => by
   obtain ⟨x, y, a1, h1', i1, i2, i3, i4⟩ := aik (α := α) hl ha k h h0 (by omega : most ≤ 1000000000)
   obtain ⟨v, a2, h2, j1, j2, j3⟩ := ars hl h0 h1 m k a1 h1' (out ++ [(x, y)]) i1 (by simp; omega) (by omega)
   refine ⟨v, a2, h2, j1, by simp at j2; omega, fun b r0 => ?_⟩
   have hd : decide (out.length + 1 ≤ big) = true := decide_eq_true (by rw [nJ]; omega)
   rw [BZ, UV, dY (by omega), cond_true, i4, hd, cond_true, aK (by omega) (by omega), show ((m + 1 : Nat) : Int) - 1 = (m : Int) by omega, j3]
 | _, 0, _, _, _, _, _, hk => by omega
theorem axI {l : List Int} (hl : Dx l) (k : Nat) (hk : 4096 < k) : ∃ v : List (Int × Int), v.length ≤ 20 ∧ ∀ r : List (Int × Int) → Option α, gV k l r = r v := by
 obtain ⟨h, i1, i2⟩ := ag1 (α := α) hl k (by omega)
 obtain ⟨m, a1, h1, j1, j2, j3⟩ := aef (α := α) hl i1 k h (list := [1, 2, 5, 20, 1000, 1001]) (by simp) (by simp)
 obtain ⟨c, a2, h2, q1, q2, q3⟩ := aef (α := α) hl j1 k h1 (list := [6, 12, 20]) (by simp) (by simp)
 obtain ⟨n, a3, h3, s1, s2, s3, s4⟩ := LV (α := α) hl q1 k h2 c
 simp only [List.mem_cons, List.not_mem_nil, or_false] at j2 q2
 obtain ⟨n', rfl⟩ : ∃ n' : Nat, n = n' := ⟨n.toNat, by omega⟩
 obtain ⟨v, a4, h4, t1, t2, t3⟩ := ars (α := α) hl (most := m) (by omega) (by omega) n' k a3 h3 [] s1 (by simp; omega) (by omega)
 obtain ⟨w, a5, h5, u1, u2, u3, u4⟩ := LV (α := α) hl t1 k h4 30
 simp only [List.length_nil, Nat.zero_add] at t2
 have key : ∀ r : List (Int × Int) → Option α, gV k l r = bif decide (0 < ((v.length : Nat) : Int)) then (bif decide (w = 0) then (bif (true && decide (0 < ((v.length : Nat) : Int))) then (v[0]?).bind fun _ => r (List.set v 0 (1000001, 0)) else none) else r v) else r v := fun r => by
  unfold gV ack
  rw [i2, j3, q3, s4, t3]
  simp only [u4]
 by_cases hv : v.length = 0
 ·exact ⟨v, by omega, fun r => by rw [key, iW (by omega)]; rfl⟩
 ·by_cases hw : w = 0
  ·refine ⟨List.set v 0 (1000001, 0), by rw [List.length_set]; omega, fun r => ?_⟩
   rw [key, dY (by omega), cond_true, decide_eq_true hw, cond_true, Bool.and_true, cond_true, List.getElem?_eq_getElem (by omega), Option.bind_some]
  ·exact ⟨v, by omega, fun r => by rw [key, dY (by omega), cond_true, decide_eq_false hw, cond_false]⟩
theorem aw1 {l : List Int} (hl : Dx l) (k : Nat) (hk : 2000030 < k) : ∃ b c : List (Int × Int), (∀ (r0 : List (Int × Int) → Option α) r1, aZ k l r0 r1 = r0 b) ∨ ∀ (r0 : List (Int × Int) → Option α) r1, aZ k l r0 r1 = r1 b c := by
 obtain ⟨h, i1, i2⟩ := ag1 (α := α) hl k (by omega)
 obtain ⟨v, a1, h1, j1, j2, _, j3⟩ := acP (α := α) hl i1 k hk h
 obtain ⟨n, a2, h2, q1, q2, q3, q4⟩ := LV (α := α) hl j1 k h1 3
 obtain ⟨x, y, z, u, a3, h3, s1, s2⟩ := ax7 (α := α) hl q1 k (by omega) h2
 obtain ⟨e, f, a4, h4, t1, _, _, t2⟩ := aik (α := α) hl s1 k h3 (most := 3) (by omega) (by omega)
 obtain ⟨w1, _, _, _, _, _, o1⟩ := acP (α := α) hl j1 k hk h1
 obtain ⟨w2, _, _, _, _, _, o2⟩ := acP (α := α) hl q1 k hk h2
 obtain ⟨w3, _, _, _, _, _, o3⟩ := acP (α := α) hl t1 k hk h4
 have key : ∀ (r0 : List (Int × Int) → Option α) r1, aZ k l r0 r1 = bif kZ v then (bif decide (0 < n) then KY k x y z u v e f (fun v19 => bif decide (v19 = 0) then r0 v else r1 v w3) (fun v23 v24 => bif decide (v24 = 0) then r1 v v23 else r1 v w3) else r1 v w2) else r1 v w1 := fun r0 r1 => by
  unfold aZ QX
  simp only [i2, j3, LZ k (show 13 < k by omega), q4, s2, t2, o1, o2, o3]
 cases hp : kZ v with
 | false => exact ⟨v, w1, .inr fun r0 r1 => by rw [key, hp]; rfl⟩
 | true =>
   cases hn : decide (0 < n) with
   | false => exact ⟨v, w2, .inr fun r0 r1 => by rw [key, hp, hn]; rfl⟩
   | true =>
     rcases awX (α := α) k (by omega) x y z u v e f with ⟨c, c1, _⟩ | ⟨d, _, c1, _⟩
     ·cases hc : decide (c = 0) with
      | true => exact ⟨v, [], .inl fun r0 r1 => by rw [key, hp, hn, cond_true, cond_true, c1, hc]; rfl⟩
      | false => exact ⟨v, w3, .inr fun r0 r1 => by rw [key, hp, hn, cond_true, cond_true, c1, hc]; rfl⟩
     ·exact ⟨v, d, .inr fun r0 r1 => by rw [key, hp, hn, cond_true, cond_true, c1]; rfl⟩
theorem asW {l : List Int} (hl : Dx l) (k : Nat) (hk : 2000030 < k) : ∃ (v : List (Int × Int)) (x y : Int), ∀ r : List (Int × Int) → Int → Int → Option α, aY k l r = r v x y := by
 obtain ⟨h, i1, i2⟩ := ag1 (α := α) hl k (by omega)
 obtain ⟨v, a1, h1, j1, j2, jn, j3⟩ := acP (α := α) hl i1 k hk h
 obtain ⟨m, a2, h2, q1, q2, q3⟩ := aef (α := α) hl j1 k h1 (list := [2, 5, 10]) (by simp) (by simp)
 simp only [List.mem_cons, List.not_mem_nil, or_false] at q2
 obtain ⟨x, y, a3, h3, s1, _, _, s2⟩ := aik (α := α) hl q1 k h2 (most := m) (by omega) (by omega)
 obtain ⟨w, a4, h4, t1, t2, t3, t4⟩ := LV (α := α) hl s1 k h3 4
 obtain ⟨c, a5, h5, u1, u2, u3, u4⟩ := LV (α := α) hl t1 k h4 ((v.length : Nat) : Int)
 have hv : 0 < v.length := by
  rcases Nat.eq_zero_or_pos v.length with e | e
  ·exact (jn (List.eq_nil_of_length_eq_zero e)).elim
  ·exact e
 have hc : c < v.length := by omega
 have key : ∀ r : List (Int × Int) → Int → Int → Option α, aY k l r = bif decide (w = 0) then r v (v[c.toNat]'(by omega)).1 (v[c.toNat]'(by omega)).2 else r v x y := fun r => by
  unfold aY RY
  rw [i2, j3, q3, s2, t4, u4, gW u2, dY hc, Bool.and_true, cond_true, List.getElem?_eq_getElem (by omega), Option.bind_some]
 cases hw : decide (w = 0) with
 | true => exact ⟨v, _, _, fun r => by rw [key, hw, cond_true]⟩
 | false => exact ⟨v, x, y, fun r => by rw [key, hw, cond_false]⟩
theorem atw {l : List Int} (hl : Dx l) (k : Nat) (hk : 2000030 < k) : ∃ (v : List (Int × Int)) (n : Int), ∀ r : List (Int × Int) → Int → Option α, aV k l r = r v n := by
 obtain ⟨h, i1, i2⟩ := ag1 (α := α) hl k (by omega)
 obtain ⟨v, a1, h1, j1, j2, _, j3⟩ := acP (α := α) hl i1 k hk h
 obtain ⟨m, a2, h2, q1, q2, q3⟩ := aef (α := α) hl j1 k h1 (list := [3, 1000]) (by simp) (by simp)
 simp only [List.mem_cons, List.not_mem_nil, or_false] at q2
 obtain ⟨n, a3, h3, s1, _, _, s2⟩ := azL (α := α) hl q1 k h2 (most := m) (by omega) (by omega)
 exact ⟨v, n, fun r => by unfold aV QK; rw [i2, j3, q3, s2]⟩
theorem apJ (k : Nat) (hk : 1000000100 < k) (l : List (Int × Int)) :
 (kZ l = false ∧ (∀ (r0 : Int → Option α) r1, fV k l r0 r1 = r0 1) ∧ ∀ (r0 : Int → Option α) r1, fK k l r0 r1 = r0 1) ∨
 (kZ l = true ∧ (∀ (r0 : Int → Option α) r1, fV k l r0 r1 = r1 (Ez l) 0) ∧ ∀ (r0 : Int → Option α) r1, fK k l r0 r1 = r1 (Ez l) 0) := by
 simp only [fV, aa3, fK, aaZ, tZ, Jj, LZ k (show 13 < k by omega), zy k (show 30 < k by omega)]
 cases hp : kZ l with
 | false => exact .inl ⟨rfl, fun _ _ => by simp, fun _ _ => by simp⟩
 | true =>
   obtain ⟨p1, p2⟩ := nX hp
   refine .inr ⟨rfl, fun r0 r1 => ?_, fun r0 r1 => ?_⟩
   ·simp [anq (l := l) (by omega) p2 k (by omega)]
   ·simp [akX (l := l) (by omega) p2 k (by omega)]
theorem apT (k : Nat) (hk : 1000000100 < k) (l : List (Int × Int)) : ∃ v z, (∀ r : Int → Int → Option α, fZ k l r = r v z) ∧ ∀ r : Int → Int → Option α, gZ k l r = r v z := by
 simp only [gZ, aby, tZ, Jj, LZ k (show 13 < k by omega), fZ, Vk, uY, xJ, zy k (show 30 < k by omega)]
 cases hp : kZ l with
 | false => exact ⟨0, 1, fun _ => by simp, fun _ => by simp⟩
 | true => exact ⟨_, 0, fun _ => by simp only [Ov, RZ, (ale hp k hk _).2, (aho hp k hk _).2]; rfl, fun _ => by simp only [acB, adl, (ale hp k hk _).1, (aho hp k hk _).1]; rfl⟩
theorem apF (k : Nat) (hk : 1000000100 < k) (l : List (Int × Int)) (n : Int) : ∃ v z, (∀ r : Int → Int → Option α, ax k l n r = r v z) ∧ ∀ r : Int → Int → Option α, dQ k l n r = r v z := by
 simp only [dQ, YJ, tZ, Jj, LZ k (show 13 < k by omega), ax, Oq, zy k (show 30 < k by omega), acx, acf]
 cases hp : kZ l with
 | false => exact ⟨0, 1, fun _ => by simp, fun _ => by simp⟩
 | true =>
   cases hn : inB n 0 1000 with
   | false => exact ⟨0, 2, fun _ => by simp, fun _ => by simp⟩
   | true => exact ⟨_, 0, fun _ => by simp only [(ale hp k hk _).2, (aho hp k hk _).2]; rfl, fun _ => by simp only [(ale hp k hk _).1, (aho hp k hk _).1]; rfl⟩
theorem ate {l : List (Int × Int)} (hp : kZ l = true) {x y : Int} (hx : crd x = true) (hy : crd y = true) (k : Nat) (hk : 100 < k) (r : Int → Int → Option α) : cZ k l x y r = r (minF (vk l x y) 0 l.length 1) 0 := by
 obtain ⟨p1, p2⟩ := nX hp
 have hi := fun r => afe (α := α) (l := l) (by omega) p2 (Xv hp) hx hy l.length k 0 1 r (by omega) (by omega)
 simp only [Int.natCast_zero] at hi
 simp only [cZ, QZ, zy k (show 30 < k by omega), hp, Wv, hx, hy, PQ, RJ, Bool.not_true, cond_false, hi, Bool.and_self]
theorem apX (k : Nat) (hk : 1048600 < k) (l : List (Int × Int)) (x y : Int) : ∃ v z, (∀ r : Int → Int → Option α, cZ k l x y r = r v z) ∧ ∀ r : Int → Int → Option α, dV k l x y r = r v z := by
 simp only [dV, aaf, LZ k (show 13 < k by omega), cZ, QZ, zy k (show 30 < k by omega), acA, Wv]
 cases hp : kZ l with
 | false => exact ⟨0, 1, fun _ => by simp, fun _ => by simp⟩
 | true =>
   cases hc : (crd x && crd y) with
   | false => exact ⟨0, 1, fun _ => by simp, fun _ => by simp⟩
   | true =>
     simp only [Bool.and_eq_true] at hc
     obtain ⟨p1, p2⟩ := nX hp
     have hs := fun r => aip (α := α) (l := l) (by omega) p2 (Xv hp) hc.1 hc.2 l.length k 0 1 r (by omega) (by omega) (.inr rfl)
     have hi := fun r => afe (α := α) (l := l) (by omega) p2 (Xv hp) hc.1 hc.2 l.length k 0 1 r (by omega) (by omega)
     simp only [Int.natCast_zero] at hs hi
     exact ⟨_, 0, fun _ => by simp only [PQ, RJ, Bool.not_true, cond_false, hi]; rfl, fun _ => by simp only [acz, adF, Bool.not_true, cond_false, hs]⟩
theorem afA {l : List (Int × Int)} (hp : kZ l = true) (k : Nat) (hk : 1000000100 < k) : ∃ A B I : Int, A = sumF (dtF l) 0 l.length ∧ B = sumF (lenF l) 0 l.length ∧ 2 * I = A - B + 2 ∧ (-24000000 ≤ A ∧ A ≤ 24000000) ∧ (-24000 ≤ B ∧ B ≤ 24000) ∧
 (∀ r : Int → Int → Option α, fQ k l r = r A 0) ∧ (∀ r : Int → Int → Option α, gQ k l r = r B 0) ∧ (∀ r : Int → Int → Option α, fZ k l r = r I 0) ∧ ∀ r : Int → Int → Option α, ax k l 1 r = r (I + B) 0 := by
 have V := avT hp
 obtain ⟨c, hc⟩ := V.par
 have la := V.la
 have lb := V.lb
 generalize hA : sumF (dtF l) 0 l.length = A at V hc la lb
 generalize hB : sumF (lenF l) 0 l.length = B at V hc la lb
 have a1 := fun r => (ale (α := α) hp k hk r).2
 have b1 := fun r => (aho (α := α) hp k hk r).2
 simp only [V.a] at a1
 simp only [V.b] at b1
 refine ⟨A, B, 1 - c, rfl, rfl, by omega, la, lb, fun r => ?_, fun r => ?_, fun r => ?_, fun r => ?_⟩
 ·simp only [fQ, aaC, yx, EJ, zy k (show 30 < k by omega), hp, a1, Bool.not_true, cond_false]
 ·simp only [gQ, aaY, xy, CX, zy k (show 30 < k by omega), hp, b1, Bool.not_true, cond_false]
 ·simp only [fZ, Vk, uY, xJ, zy k (show 30 < k by omega), hp, Ov, RZ, a1, b1, Bool.not_true, cond_false]
  rw [aK (n := A - B) (by omega) (by omega), aK (n := A - B + 2) (by omega) (by omega), show A - B + 2 = 2 * (1 - c) by omega, Int.mul_tdiv_cancel_left _ (by omega), aK (by omega) (by omega)]
 ·have h1 : inB 1 0 1000 = true := rfl
  simp only [ax, Oq, zy k (show 30 < k by omega), hp, acf, h1, a1, b1, Bool.not_true, cond_false]
  have e1 : w64 (1 * 1) = 1 := by rw [aK (by omega) (by omega)]; rfl
  rw [e1, Int.one_mul, Int.one_mul, aK (n := A) (by omega) (by omega), aK (n := B) (by omega) (by omega), aK (n := A + B) (by omega) (by omega), aK (n := A + B + 2) (by omega) (by omega), show A + B + 2 = 2 * (1 - c + B) by omega, Int.mul_tdiv_cancel_left _ (by omega), aK (by omega) (by omega)]
theorem awI {l : List (Int × Int)} (hp : kZ l = true) (k : Nat) (hk : 2000010 < k) (r0 : Int → Option α) (r1 : List (Int × Int) → Int → Option α) : iJ k l r0 r1 = r1 (Ez l) 0 := by
 obtain ⟨p1, p2⟩ := nX hp
 have hall : (l.all fun e => crd e.1 && crd e.2) = true := List.all_eq_true.2 fun x hx => by
  have := acL hp x hx
  rw [wZ this.1, wZ this.2]
  rfl
 simp only [iJ, acE, TZ k l (by rw [nJ]; omega) (by omega), hall, Bool.not_true, cond_false, (asq hp k hk).2]
 rw [iW (by omega), cond_false]
theorem azd {l : List (Int × Int)} (hp : kZ l = true) {m m1 m2 m3 b b1 : Int} (hm : crd m = true ∧ crd m1 = true ∧ crd m2 = true ∧ crd m3 = true) (hb : crd b = true ∧ crd b1 = true) (k : Nat) (hk : 2000010 < k) :
 (∃ z, ∀ (r0 : Int → Option α) r1, fJ k m m1 m2 m3 l b b1 r0 r1 = r0 z) ∨
 ∃ v, kZ v = true ∧ (m * m3 - m1 * m2 = 1 ∨ m * m3 - m1 * m2 = -1) ∧ v.Nodup ∧ (∀ x ∈ v, x ∈ l.map (affM m m1 m2 m3 b b1)) ∧ (∀ i, i < v.length → Ed (· ∈ l.map (affM m m1 m2 m3 b b1)) (gP v i) (gP v ((i + 1) % v.length))) ∧ pz v = pz l ∧ ∀ (r0 : Int → Option α) r1, fJ k m m1 m2 m3 l b b1 r0 r1 = r1 v 0 := by
 simp only [fJ, ZQ, agn k (show 3 ≤ k by omega), zy k (show 30 < k by omega), Wv, hm.1, hm.2.1, hm.2.2.1, hm.2.2.2, hp, hb.1, hb.2, Bool.and_self]
 obtain ⟨u, hu, u1, u2⟩ := ayG (α := α) k hm
 simp only [u1, Bool.not_true, cond_false]
 cases u with
 | false => exact .inl ⟨5, fun _ _ => by simp⟩
 | true =>
   have hdet := hu rfl
   obtain ⟨p1, p2⟩ := nX hp
   have i1 := fun c r0 r1 => aok (α := α) p2 (acL hp) hm hb c r0 r1 l k 0 [] rfl (by omega) (by simp) (by omega)
   simp only [Int.natCast_zero, List.nil_append] at i1
   simp only [Bool.not_true, cond_false, i1]
   generalize hq : l.map (mapQ m m1 m2 m3 b b1) = q
   have hql : q.length = l.length := by rw [← hq, List.length_map]
   simp only [ald k q (show q.length ≤ 4000 by omega) (show 4000 < k by omega)]
   cases hsm : q.all fun e => sm e.1 && sm e.2 with
   | false => exact .inl ⟨3, fun _ _ => by simp⟩
   | true =>
     have hqs : ∀ x ∈ q, sm x.1 = true ∧ sm x.2 = true := fun x hx => by
      have := List.all_eq_true.1 hsm x hx
      simpa using this
     have hqc : ∀ x ∈ q, crdP x := fun x hx => ⟨wZ (hqs x hx).1, wZ (hqs x hx).2⟩
     obtain ⟨v, v1, v2, v3, v4, v5⟩ := agD (α := α) k hk (l := q) (by omega) hqc
     have hne : q ≠ [] := fun e => by rw [e] at hql; simp at hql; omega
     have hmem : ∀ i, i < l.length → mapQ m m1 m2 m3 b b1 (gP l i) ∈ q := fun i hi => by
      rw [← hq]
      exact List.mem_map.2 ⟨gP l i, pX hi, rfl⟩
     have hcr := agd hp 0 (by omega)
     rw [arU, Nat.mod_eq_of_lt (show 0 < l.length by omega), Nat.mod_eq_of_lt (show 0 + 1 < l.length by omega), Nat.mod_eq_of_lt (show 0 + 2 < l.length by omega)] at hcr
     obtain ⟨w1, w2, w3⟩ := ah1 (v3 hne) (hmem 0 (by omega)) (hmem (0 + 1) (by omega)) (hmem (0 + 2) (by omega)) (by
      rw [arI]
      rcases hdet with h | h <;> rw [h] <;> omega)
     have hpv := aiR w1 (by omega) (fun x hx => hqs x (v2 x hx)) w2 v2 w3
     have hqa : q = l.map (affM m m1 m2 m3 b b1) := by rw [← hq]; rfl
     rw [hqa] at v2 w3
     refine .inr ⟨v, hpv, hdet, w2, v2, w3, ?_, fun r0 r1 => ?_⟩
     ·exact axf (ε := m * m3 - m1 * m2) hdet rfl hp hpv w2 v2 w3
     ·rw [Bool.not_true, cond_false, v5, if_neg (by omega), hpv]
      rfl
theorem asV {a b : List (Int × Int)} (hp : kZ a = true) (hb : kZ b = false ∨ (kZ b = true ∧ pz b = pz a)) (k : Nat) (hk : 1000000200 < k) : ∃ v z, (z = 0 → v = true) ∧ ∀ r : Bool → Int → Option α, ak k a b r = r v z := by
 simp only [ak, OY, zy k (show 30 < k by omega), hp]
 rcases hb with hb | ⟨hb, hn⟩
 ·exact ⟨false, 1, fun h => by omega, fun _ => by simp [hb]⟩
 ·obtain ⟨p1, p2⟩ := nX hp
  have l1 := agL hp
  have i1 := fun r0 r1 => SV (α := α) k (by omega) hp r0 r1
  have i2 := fun r0 r1 => SV (α := α) k (by omega) hb r0 r1
  rw [hn] at i2
  cases ha : (pz a).all (fun e => crd e.1 && crd e.2) with
  | false => exact ⟨false, 3, fun h => by omega, fun _ => by simp [hb, i1, i2, ha]⟩
  | true =>
    refine ⟨true, 0, fun _ => rfl, fun r => ?_⟩
    simp only [hb, Bool.not_true, cond_false, i1, i2, ha, cond_true, decide_true, aoe k (show (pz a).length ≤ 4000 by omega) (show 4000 < k by omega)]
    have : aju (pz a) (pz a) = true := decide_eq_true rfl
    rw [this]
def s5 (e : Int × Int) : Bool := decide (e.1 ≤ 5) && (decide ((-5) ≤ e.1) && (decide (e.2 ≤ 5) && decide ((-5) ≤ e.2)))
theorem avc {l : List (Int × Int)} (hl : l.length ≤ 4000) (B I : Int) (code : List Int) (b : Int → Int → Bool → Int → List Int → List (Int × Int) → Option α) (r0 : Bool → Option α) : ∀ (rest : List (Int × Int)) (k i : Nat) (s : Bool), l.drop i = rest → i ≤ l.length → rest.length < k →
 bV k B I s i code l b r0 = b B I (s && rest.all s5) l.length code l
 | [], k + 1, i, s, hd, hi, _ => by
   have h1 := yK hd
   have : i = l.length := by omega
   subst this
   rw [bV, RX, iW (by omega), cond_false, List.all_nil, Bool.and_true]
 | e :: rest, k + 1, i, s, hd, hi, hk => by
   obtain ⟨h1, h2, h3⟩ := wJ hd
   have en : w64 ((i : Int) + 1) = ((i + 1 : Nat) : Int) := by rw [aK (by omega) (by omega)]; omega
   have ih := fun s => avc hl B I code b r0 rest k (i + 1) s h2 (by omega) (by simp at hk; omega)
   rw [bV, RX, dY (by omega), cond_true, gW (by omega)]
   simp only [Bool.and_true, cond_true, Int.toNat_natCast, h1, Option.bind_some, en, ih]
   have hs : s5 e = (decide (e.1 ≤ 5) && (decide ((-5) ≤ e.1) && (decide (e.2 ≤ 5) && decide ((-5) ≤ e.2)))) := rfl
   rw [List.all_cons, hs]
   cases s with
   | false => rw [cond_false, Bool.false_and, Bool.false_and]
   | true =>
     rw [cond_true]
     cases decide (e.1 ≤ 5) with
     | false => rfl
     | true =>
       rw [cond_true]
       cases decide ((-5) ≤ e.1) with
       | false => rfl
       | true =>
         rw [cond_true]
         cases decide (e.2 ≤ 5) with
         | false => rfl
         | true => rw [cond_true, Bool.true_and, Bool.true_and, Bool.true_and, Bool.true_and]
 | _ :: _, 0, _, _, _, _, hk => by omega
 | [], 0, _, _, _, _, hk => by omega
theorem att {l : List (Int × Int)} (hp : kZ l = true) (B I : Int) (code : List Int) (x : Int) (hx : -5 ≤ x ∧ x ≤ 5) (b : Int → Int → Int → Int → Int → Int → List Int → List (Int × Int) → Option α) (r0 : Bool → Option α) : ∀ (m k : Nat) (y p q : Int), -5 ≤ y → y + m = 6 → (0 ≤ p ∧ p ≤ 1000 - m) → (0 ≤ q ∧ q ≤ 1000 - m) → 200 + m < k →
 dW k B I p q x y code l b r0 = b B I (p + sumI (fun j => b2i (decide (minF (vk l x (y + (j : Int))) 0 l.length 1 = 1))) m) (q + sumI (fun j => b2i (decide (minF (vk l x (y + (j : Int))) 0 l.length 1 = 0))) m) x 6 code l
 | 0, k + 1, y, p, q, hy, hm, _, _, _ => by
   have : y = 6 := by omega
   subst this
   rw [dW, RQ, abn (by omega), cond_false]
   show _ = b B I (p + 0) (q + 0) x 6 code l
   rw [Int.add_zero, Int.add_zero]
 | m + 1, k + 1, y, p, q, hy, hm, hp1, hq1, hk => by
   have hw := ate (α := α) hp (x := x) (y := y) (uq.2 (by omega)) (uq.2 (by omega)) k (by omega)
   have ih := fun p q h1 h2 => att hp B I code x hx b r0 m k (y + 1) p q (by omega) (by omega) h1 h2 (by omega)
   have f1 := LJ (fun j => b2i (decide (minF (vk l x (y + (j : Int))) 0 l.length 1 = 1))) m
   have f0 := LJ (fun j => b2i (decide (minF (vk l x (y + (j : Int))) 0 l.length 1 = 0))) m
   have c1 : sumI (fun j => b2i (decide (minF (vk l x (y + ((j + 1 : Nat) : Int))) 0 l.length 1 = 1))) m = sumI (fun j => b2i (decide (minF (vk l x (y + 1 + (j : Int))) 0 l.length 1 = 1))) m := lX m fun j _ => by rw [show y + ((j + 1 : Nat) : Int) = y + 1 + (j : Int) by omega]
   have c0 : sumI (fun j => b2i (decide (minF (vk l x (y + ((j + 1 : Nat) : Int))) 0 l.length 1 = 0))) m = sumI (fun j => b2i (decide (minF (vk l x (y + 1 + (j : Int))) 0 l.length 1 = 0))) m := lX m fun j _ => by rw [show y + ((j + 1 : Nat) : Int) = y + 1 + (j : Int) by omega]
   have e0 : y + ((0 : Nat) : Int) = y := by omega
   rw [c1, e0] at f1
   rw [c0, e0] at f0
   rw [f1, f0, dW, RQ, gW (by omega), cond_true, hw]
   generalize minF (vk l x y) 0 l.length 1 = v
   rw [decide_eq_true (rfl : (0 : Int) = 0), Bool.not_true, cond_false, aK (n := p + 1) (by omega) (by omega), aK (n := q + 1) (by omega) (by omega), aK (n := y + 1) (by omega) (by omega)]
   by_cases h1 : v = 1
   ·have h0 : ¬ v = 0 := by omega
    rw [decide_eq_true h1, cond_true, decide_eq_false h0, cond_false, ih _ _ (by omega) (by omega)]
    have e1 : b2i true = 1 := rfl
    have e2 : b2i false = 0 := rfl
    rw [e1, e2, Int.zero_add, Int.add_assoc]
   ·rw [decide_eq_false h1, cond_false]
    by_cases h0 : v = 0
    ·rw [decide_eq_true h0, cond_true, ih _ _ (by omega) (by omega)]
     have e1 : b2i true = 1 := rfl
     have e2 : b2i false = 0 := rfl
     rw [e1, e2, Int.zero_add, Int.add_assoc]
    ·rw [decide_eq_false h0, cond_false, ih _ _ (by omega) (by omega)]
     have e2 : b2i false = 0 := rfl
     rw [e2, Int.zero_add, Int.zero_add]
 | _, 0, _, _, _, _, _, _, _, hk => by omega
theorem akf (f : Nat → Bool) : ∀ n, 0 ≤ sumI (fun i => b2i (f i)) n ∧ sumI (fun i => b2i (f i)) n ≤ n
 | 0 => by simp [sumI]
 | n + 1 => by
   have := akf f n
   have h : 0 ≤ b2i (f n) ∧ b2i (f n) ≤ 1 := by cases f n <;> simp [b2i]
   show 0 ≤ sumI (fun i => b2i (f i)) n + b2i (f n) ∧ sumI (fun i => b2i (f i)) n + b2i (f n) ≤ _
   omega
theorem atj {l : List (Int × Int)} (hp : kZ l = true) (B I : Int) (code : List Int) (b : Int → Int → Int → Int → Int → List Int → List (Int × Int) → Option α) (r0 : Bool → Option α) : ∀ (m k : Nat) (x p q : Int), -5 ≤ x → x + m = 6 → (0 ≤ p ∧ p ≤ 200 - 12 * m) → (0 ≤ q ∧ q ≤ 200 - 12 * m) → 300 + m < k →
 bJ k B I p q x code l b r0 = b B I (p + sumI (fun i => sumI (fun j => b2i (decide (minF (vk l (x + (i : Int)) (-5 + (j : Int))) 0 l.length 1 = 1))) 11) m) (q + sumI (fun i => sumI (fun j => b2i (decide (minF (vk l (x + (i : Int)) (-5 + (j : Int))) 0 l.length 1 = 0))) 11) m) 6 code l
 | 0, k + 1, x, p, q, hx, hm, _, _, _ => by
   have : x = 6 := by omega
   subst this
   rw [bJ, RV, abn (by omega), cond_false]
   show _ = b B I (p + 0) (q + 0) 6 code l
   rw [Int.add_zero, Int.add_zero]
 | m + 1, k + 1, x, p, q, hx, hm, hp1, hq1, hk => by
   have hw := att (α := α) hp B I code x (by omega) (fun border4 inner4 inside2 edge2 x2 _ code5 list4 => bJ k border4 inner4 inside2 edge2 (w64 (x2 + 1)) code5 list4 b r0) r0 11 k (-5) p q (by omega) (by omega) (by omega) (by omega) (by omega)
   have ih := fun p q h1 h2 => atj hp B I code b r0 m k (x + 1) p q (by omega) (by omega) h1 h2 (by omega)
   have f1 := LJ (fun i => sumI (fun j => b2i (decide (minF (vk l (x + (i : Int)) (-5 + (j : Int))) 0 l.length 1 = 1))) 11) m
   have f0 := LJ (fun i => sumI (fun j => b2i (decide (minF (vk l (x + (i : Int)) (-5 + (j : Int))) 0 l.length 1 = 0))) 11) m
   have c1 : sumI (fun i => sumI (fun j => b2i (decide (minF (vk l (x + ((i + 1 : Nat) : Int)) (-5 + (j : Int))) 0 l.length 1 = 1))) 11) m = sumI (fun i => sumI (fun j => b2i (decide (minF (vk l (x + 1 + (i : Int)) (-5 + (j : Int))) 0 l.length 1 = 1))) 11) m := lX m fun i _ => by rw [show x + ((i + 1 : Nat) : Int) = x + 1 + (i : Int) by omega]
   have c0 : sumI (fun i => sumI (fun j => b2i (decide (minF (vk l (x + ((i + 1 : Nat) : Int)) (-5 + (j : Int))) 0 l.length 1 = 0))) 11) m = sumI (fun i => sumI (fun j => b2i (decide (minF (vk l (x + 1 + (i : Int)) (-5 + (j : Int))) 0 l.length 1 = 0))) 11) m := lX m fun i _ => by rw [show x + ((i + 1 : Nat) : Int) = x + 1 + (i : Int) by omega]
   have e0 : x + ((0 : Nat) : Int) = x := by omega
   rw [c1, e0] at f1
   rw [c0, e0] at f0
   have b1 := akf (fun j => decide (minF (vk l x (-5 + (j : Int))) 0 l.length 1 = 1)) 11
   have b0 := akf (fun j => decide (minF (vk l x (-5 + (j : Int))) 0 l.length 1 = 0)) 11
   rw [f1, f0, bJ, RV, gW (by omega), cond_true, hw, aK (n := x + 1) (by omega) (by omega), ih _ _ (by omega) (by omega), Int.add_assoc, Int.add_assoc]
 | _, 0, _, _, _, _, _, _, _, hk => by omega
theorem au0 {l : List (Int × Int)} (h : l.all s5 = true) : (∀ e ∈ l, -5 ≤ e.1 ∧ e.1 < -5 + ((11 : Nat) : Int)) ∧ ∀ e ∈ l, -5 ≤ e.2 ∧ e.2 < -5 + ((11 : Nat) : Int) := by
 have key : ∀ e ∈ l, -5 ≤ e.1 ∧ e.1 ≤ 5 ∧ -5 ≤ e.2 ∧ e.2 ≤ 5 := fun e he => by
  have := List.all_eq_true.1 h e he
  unfold s5 at this
  simp only [Bool.and_eq_true, decide_eq_true_eq] at this
  omega
 exact ⟨fun e he => by have := key e he; omega, fun e he => by have := key e he; omega⟩
theorem az3 {l : List (Int × Int)} (hp : kZ l = true) (h : l.all s5 = true) {A B I : Int} (hA : A = sumF (dtF l) 0 l.length) (hB : B = sumF (lenF l) 0 l.length) (hI : 2 * I = A - B + 2) (code : List Int) (b : Int → Int → Int → Int → Int → List Int → List (Int × Int) → Option α) (r0 : Bool → Option α) (k : Nat) (hk : 1000 < k) :
 bJ k B I 0 0 (-5) code l b r0 = b B I I B 6 code l := by
 obtain ⟨hx, hy⟩ := au0 h
 have h1 := asz hp hx hy
 have h2 := ap7 hp hx hy
 have e := atj (α := α) hp B I code b r0 11 k (-5) 0 0 (by omega) (by omega) (by omega) (by omega) (by omega)
 simp only [sum2] at h1 h2
 rw [e, h2, Int.zero_add, Int.zero_add, ← hB]
 congr 1
 omega
theorem aCI {l : List (Int × Int)} (hp : kZ l = true) (h3 : l.length = 3) (k : Nat) (hk : 100 < k) (r : Int → Int → Option α) : jQ k (gP l 0).1 (gP l 0).2 (gP l 1).1 (gP l 1).2 (gP l 2).1 (gP l 2).2 r = r (sumF (dtF l) 0 l.length) 0 := by
 have hF := aer hp
 have D := aeh hF (by omega) (j := 1) (by omega) 0 (by omega)
 have e := aqM (l := l) (by omega)
 have e2 : fanA l 1 (l.length - 3) = o3 (gP l 0) (gP l 1) (gP l 2) := by rw [show l.length - 3 = 0 by omega]; rfl
 have sm0 := aen hp _ (pX (l := l) (i := 0) (by omega))
 have sm1 := aen hp _ (pX (l := l) (i := 1) (by omega))
 have sm2 := aen hp _ (pX (l := l) (i := 2) (by omega))
 have D' : 0 < o3 (gP l 0) (gP l 1) (gP l 2) := D
 rw [← e, e2]
 rw [EX] at D' ⊢
 have hall : (List.all [((gP l 0).1, (gP l 0).2), ((gP l 1).1, (gP l 1).2), ((gP l 2).1, (gP l 2).2)] fun e => crd e.1 && crd e.2) = true := by
  have c : ∀ p : Int × Int, Sm p → (crd p.1 && crd p.2) = true := fun p hs => by
   have h1 := hs.1
   have h2 := hs.2
   rw [uq.2 (by omega), uq.2 (by omega)]
   rfl
  simp only [List.all_cons, List.all_nil, c _ sm0, c _ sm1, c _ sm2, Bool.and_self]
 simp only [jQ, ae2, TZ k [((gP l 0).1, (gP l 0).2), ((gP l 1).1, (gP l 1).2), ((gP l 2).1, (gP l 2).2)] (by rw [nJ]; simp) (show ([((gP l 0).1, (gP l 0).2), ((gP l 1).1, (gP l 1).2), ((gP l 2).1, (gP l 2).2)]).length < k by simp; omega), hall, Bool.not_true, cond_false]
 rw [aoc k sm0.1 sm0.2 sm1.1 sm1.2 sm2.1 sm2.2]
 congr 1
 omega
theorem avU (k : Nat) (hk : 1000000200 < k) {c : List Int} (hc : Dx c) (f s : Int) (w : Bool) (t : Int) (d h : List (Int × Int)) (hd : d.length ≤ 12) (hh : h.length ≤ 12) (r : Bool → Option α) :
 Nj k t t w f w f s s c d d h h r = r true := by
 obtain ⟨v, x, y, e1⟩ := asW (α := α) hc k (by omega)
 obtain ⟨u, n, e2⟩ := atw (α := α) hc k (by omega)
 obtain ⟨g, _, e3⟩ := akn (α := α) hc k (by omega)
 obtain ⟨v1, z1, i1, j1⟩ := apX (α := α) k (by omega) v x y
 obtain ⟨v2, z2, i2, j2⟩ := apF (α := α) k (by omega) u n
 obtain ⟨v3, z3, i3, j3⟩ := apT (α := α) k (by omega) g
 have p1 := abm (α := α) k d (by
  exact fun b => bif b then (bif decide (f = f) then bif (w == w) then bif decide (s = s) then gz k h h fun v78 => bif v78 then r true else r false else r false else r false else r false) else r false) (by rw [nJ]; omega) (by omega)
 have p2 := fun r => abm (α := α) k h r (by rw [nJ]; omega) (by omega)
 have p3 := fun r => abm (α := α) k d r (by rw [nJ]; omega) (by omega)
 have e3' : ∀ r : List (Int × Int) → Option α, dZ k c r = r g := fun r => e3 r
 simp only [Nj, NZ, e1, i1, j1, e2, i2, j2, e3', i3, j3, decide_true, cond_true, p3, p2, beq_self_eq_true]
theorem arl (k : Nat) (hk : 1000000200 < k) {c : List Int} (hc : Dx c) (r : Bool → Option α) : Dw k c r = r true := by
 obtain ⟨a, _, e1⟩ := akn (α := α) hc k (by omega)
 have e1' : ∀ r : List (Int × Int) → Option α, bQ k c r = r a := fun r => e1 r
 have B15 : ∀ (t : Int) (d b e : List (Int × Int)), d.length ≤ 12 → NV k t t c d d b e r = r true := fun t d b e hd => by
  obtain ⟨w, f, l1, l2⟩ := awn (α := α) k (by omega) b e
  obtain ⟨q, hq, e2⟩ := axI (α := α) hc k (by omega)
  simp only [NV, MK, l1, l2, e2]
  rcases apI (α := α) k (by omega) (l := q) (by omega) with ⟨z, h1, h2⟩ | ⟨g, hg, h1, h2⟩
  ·simp only [h2, NY, Hq, h1]
   exact avU k hk hc f z w t d [] hd (by simp) r
  ·simp only [h2, NY, Hq, h1]
   exact avU k hk hc f 0 w t d g hd hg r
 have B14 : ∀ (t : Int) (d : List (Int × Int)), d.length ≤ 12 → NK k t t c d d r = r true := fun t d hd => by
  obtain ⟨b, e, h⟩ := aw1 (α := α) hc k (by omega)
  simp only [NK, NW]
  rcases h with h | h
  ·rw [h]; exact B15 t d _ _ hd
  ·rw [h]; exact B15 t d _ _ hd
 simp only [Dw, MX, e1']
 rcases apS (α := α) k hk a with ⟨z, h1, h2⟩ | ⟨d, hd, h1, h2⟩
 ·simp only [h2, NQ, Gx, h1]
  exact B14 z [] (by simp)
 ·simp only [h2, NQ, Gx, h1]
  exact B14 0 d hd
theorem aBa (k : Nat) (hk : 1000000200 < k) {c : List Int} (hc : Dx c) {l : List (Int × Int)} (hp : kZ l = true) (r : Bool → Option α) :
 (fJ k 1 1 0 (-1) l 1 (-2) (fun v => sJ k v c l [] r) fun v w => sJ k w c l v r) = r true := by
 have step : ∀ (z : Int) (v : List (Int × Int)), kZ v = false ∨ (kZ v = true ∧ pz v = pz l) → sJ k z c l v r = r true := fun z v hv => by
  obtain ⟨w, y, h1, h2⟩ := asV (α := α) hp hv k hk
  have ht := arl (α := α) k hk hc r
  simp only [sJ, MV, h2, ht]
  cases decide (z = 0) with
  | false => rfl
  | true =>
    rw [cond_true]
    by_cases hy : y = 0
    ·rw [decide_eq_true hy, cond_true, h1 hy]
     rfl
    ·rw [decide_eq_false hy, cond_false]
 rcases azd (α := α) hp (m := 1) (m1 := 1) (m2 := 0) (m3 := -1) (b := 1) (b1 := -2) ⟨rfl, rfl, rfl, rfl⟩ ⟨rfl, rfl⟩ k (by omega) with ⟨z, h⟩ | ⟨v, h1, _, _, _, _, h2, h⟩
 ·rw [h]; exact step z [] (.inl rfl)
 ·rw [h]; exact step 0 v (.inr ⟨h1, h2⟩)
theorem aAu (k : Nat) (hk : 1000000200 < k) {c : List Int} (hc : Dx c) {l : List (Int × Int)} (hp : kZ l = true) {A B I : Int} (hA : A = sumF (dtF l) 0 l.length) (hB : B = sumF (lenF l) 0 l.length) (hI : 2 * I = A - B + 2) (r : Bool → Option α) :
 Pz k A B I c l r = r true := by
 obtain ⟨p1, p2⟩ := nX hp
 have hm := aBa (α := α) k hk hc hp r
 have h9 : Jq k B I I B c l r = r true := by
  simp only [Jq, Py, decide_true, Bool.not_true, cond_false]
  exact hm
 have g22 : ∀ (b : Int → Int → Bool → Int → List Int → List (Int × Int) → Option α), bV k B I true 0 c l b r = b B I (l.all s5) l.length c l := fun b => by
  have := avc (α := α) (l := l) (by omega) B I c b r l k 0 true rfl (by omega) (by omega)
  rw [Bool.true_and] at this
  exact this
 have key : (bV k B I true 0 c l (fun border7 inner7 small2 _ code12 list11 =>
  bif small2 then
   bJ k border7 inner7 0 0 (-5) code12 list11 (fun border8 inner8 inside4 edge4 _ code13 list12 => Jq k border8 inner8 inside4 edge4 code13 list12 r) r
  else
   fJ k 1 1 0 (-1) list11 1 (-2) (fun v30 => sJ k v30 code12 list11 [] r) (fun v31 v32 => sJ k v32 code12 list11 v31 r)) r) = r true := by
  rw [g22]
  cases hs : l.all s5 with
  | true =>
    rw [cond_true, az3 hp hs hA hB hI c _ r k (by omega)]
    exact h9
  | false =>
    rw [cond_false]
    exact hm
 simp only [Pz, Pj]
 by_cases h3 : l.length = 3
 ·have d0 : decide (((l.length : Nat) : Int) = 3) = true := decide_eq_true (by omega)
  have d1 : decide ((0 : Int) < ((l.length : Nat) : Int)) = true := decide_eq_true (by omega)
  have d2 : decide ((1 : Int) < ((l.length : Nat) : Int)) = true := decide_eq_true (by omega)
  have d3 : decide ((2 : Int) < ((l.length : Nat) : Int)) = true := decide_eq_true (by omega)
  have ht := aCI (α := α) hp h3 k (by omega)
  rw [d0, cond_true, d1, Bool.and_true, cond_true, uz (by omega), Option.bind_some, d2, Bool.and_true, cond_true, uz (by omega), Option.bind_some, d3, Bool.and_true, cond_true, uz (by omega), Option.bind_some, ht, ← hA, decide_eq_true (rfl : A = A), decide_eq_true (rfl : (0 : Int) = 0), Bool.not_true, cond_false, cond_false]
  exact key
 ·have d0 : decide (((l.length : Nat) : Int) = 3) = false := decide_eq_false (by omega)
  rw [d0, cond_false]
  exact key
theorem amo (k : Nat) (hk : 1000000200 < k) (c : List Int) (r : Bool → Option α) (hb : ∀ x ∈ c, 0 ≤ x ∧ x ≤ 255) : WZ k c r = r true := by
 unfold WZ abG Oy
 rw [apG]
 cases hbig : decide (4096 < (c.length : Int)) with
 | true => rfl
 | false =>
   have hc : Dx c := ⟨by have := of_decide_eq_false hbig; omega, hb⟩
   obtain ⟨l, hl, e0⟩ := akn (α := α) hc k (by omega)
   have e0' : ∀ r : List (Int × Int) → Option α, bY k c r = r l := fun r => e0 r
   have ht := arl (α := α) k hk hc r
   rw [cond_false, e0']
   have is1 := fun r => zy (α := α) k (by omega) l r
   have is2 : ∀ r : Bool → Option α, gX k l r = r (kZ l) := fun r => by
    unfold gX acG
    rw [LZ k (by omega)]
   rcases apJ (α := α) k (by omega) l with ⟨hp, h1, h2⟩ | ⟨hp, h1, h2⟩
   ·have p5 := fun r => abm (α := α) k [] r (by simp) (by simp; omega)
    have b4 : FW k 1 c l [] r = r true := by
     simp only [FW, JZ, ht]
     rfl
    have b2 : EW k 1 1 c l [] [] r = r true := by
     simp only [EW, JY, decide_true, Bool.not_true, cond_false, p5, is1, is2, beq_self_eq_true, b4]
    simp only [h2, Px, Ik, h1, b2]
   ·obtain ⟨p1, p2⟩ := nX hp
    obtain ⟨A, B, I, hA, hB, hI, la, lb, a1, a2, a3, a4⟩ := afA (α := α) hp k (by omega)
    have ol : (Ez l).length = l.length := an8 l
    have p5 := fun r => abm (α := α) k (Ez l) r (by rw [nJ]; omega) (by omega)
    have hm := aAu (α := α) k hk hc hp hA hB hI r
    have w1 : w64 (I + B) = I + B := aK (by omega) (by omega)
    have w2 : w64 (w64 (w64 (2 * I) + B) - 2) = A := by
     rw [aK (n := 2 * I) (by omega) (by omega), aK (n := 2 * I + B) (by omega) (by omega), aK (by omega) (by omega)]
     omega
    have b5 : PK k 0 c l (Ez l) (Ez l) r = r true := by
     simp only [PK, Pq, a1, a2, a3, a4, decide_true, Bool.not_true, cond_false, p5, w1, w2, hm]
    have hh := fun r0 r1 => awI (α := α) hp k (by omega) r0 r1
    have b4 : FW k 0 c l (Ez l) r = r true := by
     simp only [FW, JZ, decide_true, cond_true, hh, b5]
    have b2 : EW k 0 0 c l (Ez l) (Ez l) r = r true := by
     simp only [EW, JY, decide_true, Bool.not_true, cond_false, p5, is1, is2, beq_self_eq_true, b4]
    simp only [h2, Px, Ik, h1, b2]
end Go.Sh

