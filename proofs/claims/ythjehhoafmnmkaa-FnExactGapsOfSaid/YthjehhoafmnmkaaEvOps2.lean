/- The evaluator's operations held against the model's: reading and writing ag9. -/
import Derived.Test.YthjehhoafmnmkaaEvOps1
namespace Go.Ev
open Go.RowKit
variable {α : Type} {P : Program} {w : World} {F : Fix} {L : LM} {st : St} {a : Act}
theorem UV {β : Type} {l : List β} : ∀ {n i : Nat} {k : List β → Option α} {r : α}, Dk l i n k = some r →
 ∃ xs, k xs = some r ∧ xs.length = n ∧ ∀ (j : Nat) (x : β), xs[j]? = some x → l[i + j]? = some x
 | 0, i, k, r, h => ⟨[], h, rfl, fun j x hx => by simp at hx⟩
 | n + 1, i, k, r, h => by
   simp only [Dk, Option.bind_eq_some_iff] at h
   obtain ⟨x, hx, h⟩ := h
   obtain ⟨xs, hk, hl, hxs⟩ := UV h
   refine ⟨x :: xs, hk, by simp [hl], fun j y hy => ?_⟩
   cases j with
   | zero => simp at hy; subst hy; exact hx
   | succ j =>
     have := hxs j y (by simpa using hy)
     rw [show i + (j + 1) = i + 1 + j by omega]
     exact this
theorem aaK {t : Ty} (ht : t.w = 1) (l : List t.den) (i : Nat) : (l.flatMap t.enc)[i]? = (l[i]?).bind fun x => (t.enc x)[0]? := by
 have := HY t l i 0 (by omega)
 simpa [ht] using this
theorem ab5 {b : Blk} {row col n : Nat} {k : List AV → Option α} {r : α} (h : b.read row col n k = some r) :
 ∃ cs, k cs = some r ∧ cs.length = n ∧ ∀ (j : Nat) (av : AV), cs[j]? = some av → b.flat[row * b.w + col + j]? = some av := by
 cases b with
 | map => first | rfl | (cases h; done) | (simp at h; done) | (simp at *; done)
 | bld => first | rfl | (cases h; done) | (simp at h; done) | (simp at *; done)
 | mix m e l =>
   simp only [Blk.read] at h
   cases hc : (Nat.beq col 0 && Nat.ble (row + n) l.length) with
   | false => simp [hc] at h
   | true =>
     rw [hc, cond_true] at h
     simp only [Bool.and_eq_true] at hc
     have h0 := ay hc.1
     have h1 := Nat.le_of_ble_eq_true hc.2
     subst h0
     refine ⟨_, h, by simp; omega, fun j av hj => ?_⟩
     have hjn : j < n := by
      have := (List.getElem?_eq_some_iff.1 hj).1
      simp at this
      omega
     rw [List.getElem?_take, if_pos hjn, List.getElem?_drop] at hj
     simpa [Blk.flat, Blk.w] using hj
 | rows m e t l =>
   simp only [Blk.read] at h
   cases hw : Nat.beq t.w 1 with
   | true =>
     have hw1 := ay hw
     rw [hw, cond_true] at h
     cases hc : Nat.beq col 0 with
     | false => simp [hc] at h
     | true =>
       rw [hc, cond_true] at h
       have h0 := ay hc
       subst h0
       obtain ⟨xs, hk, hl, hxs⟩ := UV h
       refine ⟨_, hk, by rw [fJ, hl, hw1, Nat.mul_one], fun j av hj => ?_⟩
       show (l.flatMap t.enc)[row * t.w + 0 + j]? = some av
       rw [aaK hw1] at hj
       rw [Option.bind_eq_some_iff] at hj
       obtain ⟨x, hx, he⟩ := hj
       rw [hw1, Nat.mul_one, Nat.add_zero, aaK hw1, hxs j x hx]
       exact he
   | false =>
     rw [hw, cond_false] at h
     cases hc : Nat.ble (col + n) t.w with
     | false => simp [hc] at h
     | true =>
       have h1 := Nat.le_of_ble_eq_true hc
       rw [hc, cond_true, Option.bind_eq_some_iff] at h
       obtain ⟨x, hx, h⟩ := h
       have hel := nK t x
       refine ⟨_, h, by simp [hel]; omega, fun j av hj => ?_⟩
       have hjn : j < n := by
        have := (List.getElem?_eq_some_iff.1 hj).1
        simp at this
        omega
       rw [List.getElem?_take, if_pos hjn, List.getElem?_drop] at hj
       show (l.flatMap t.enc)[row * t.w + col + j]? = some av
       rw [Nat.add_assoc, HY t l row (col + j) (by omega), hx]
       exact hj
theorem xJ {β : Type} : ∀ (vs : List β) (l : List β) (i j : Nat), i + vs.length ≤ l.length → (lq l i vs)[j]? = if i ≤ j ∧ j < i + vs.length then vs[j - i]? else l[j]?
 | [], l, i, j, _ => by
   simp only [lq, List.length_nil, Nat.add_zero]
   rw [if_neg (by omega)]
 | v :: r, l, i, j, h => by
   simp only [lq]
   simp only [List.length_cons] at h
   rw [xJ r (l.set i v) (i + 1) j (by simp; omega)]
   simp only [List.length_cons, List.getElem?_set]
   by_cases h1 : j = i
   ·subst h1
    rw [if_neg (by omega), if_pos (by omega)]
    simp
    omega
   ·by_cases h2 : i + 1 ≤ j ∧ j < i + 1 + r.length
    ·rw [if_pos h2, if_pos (by omega)]
     obtain ⟨q, hq⟩ : ∃ q, j - i = q + 1 := ⟨j - i - 1, by omega⟩
     rw [hq, show j - (i + 1) = q by omega]
     simp
    ·rw [if_neg h2, if_neg (by omega), if_neg (by omega)]
theorem uq {β : Type} : ∀ (vs : List β) (l : List β) (i : Nat), (lq l i vs).length = l.length
 | [], l, i => rfl
 | v :: r, l, i => by simp [lq, uq r]
theorem Qv {t : Ty} (ht : t.w = 1) : ∀ {vs : List AV} {l : List t.den} {i : Nat} {k : List t.den → Option α} {r : α}, tJ t l i vs k = some r →
 ∃ l', k l' = some r ∧ l'.length = l.length ∧ i + vs.length ≤ max i l.length ∧ l'.flatMap t.enc = lq (l.flatMap t.enc) i vs
 | [], l, i, k, r, h => ⟨l, h, rfl, by simp; omega, rfl⟩
 | v :: vs, l, i, k, r, h => by
   simp only [tJ, Option.bind_eq_some_iff] at h
   obtain ⟨y, hy, x, hx, h⟩ := h
   obtain ⟨l', hk, hl, hle, hf⟩ := Qv ht h
   have hi : i < l.length := (List.getElem?_eq_some_iff.1 hy).1
   simp only [List.length_set] at hl hle
   refine ⟨l', hk, hl, by simp only [List.length_cons]; omega, ?_⟩
   rw [hf]
   simp only [lq]
   congr 1
   have he := Ez t [v] x hx
   apply List.ext_getElem?
   intro j
   rw [aaK ht, List.getElem?_set, List.getElem?_set]
   have hfl : (l.flatMap t.enc).length = l.length := by rw [fJ, ht, Nat.mul_one]
   by_cases e : i = j
   ·subst e
    rw [if_pos rfl, if_pos rfl, if_pos hi, if_pos (by rw [hfl]; exact hi)]
    simp [he]
   ·rw [if_neg e, if_neg e, aaK ht]
theorem aeV {t : Ty} {x y : t.den} {col : Nat} {vs : List AV} (h : aaU t x col vs = some y) (hc : col + vs.length ≤ t.w) : t.dec (lq (t.enc x) col vs) = some y := by
 have key : ∀ n, col < n → VJ t x vs n = true → ae4 t x vs col = some (selD t x vs col n) := by
  intro n
  induction n with
  | zero => intro h; omega
  | succ n ih =>
    intro hlt ha
    simp only [VJ, Bool.and_eq_true] at ha
    simp only [selD]
    cases hb : Nat.beq col n with
    | true =>
      have := ay hb
      subst this
      obtain ⟨z, hz⟩ := Option.isSome_iff_exists.1 ha.1
      simp [hz]
    | false =>
      have hne : col ≠ n := fun e => by
       subst e
       simp at hb
      exact ih (by omega) ha.2
 unfold aaU at h
 cases ha : VJ t x vs (t.w + 1 - vs.length) with
 | false => rw [ha] at h; cases h
 | true =>
   rw [ha, cond_true] at h
   have := key (t.w + 1 - vs.length) (by omega) ha
   rw [← h]
   exact this
theorem aff {b : Blk} {row col : Nat} {vs : List AV} {k : Blk → Option α} {r : α} (hnb : b.isBld = false) (h : b.write row col vs k = some r) :
 ∃ b', k b' = some r ∧ b.mode ≠ 0 ∧ b'.mode = b.mode ∧ b'.e = b.e ∧ b'.n = b.n ∧ b'.w = b.w ∧ gZ vs = true ∧ (vs ≠ [] → row * b.w + col + vs.length ≤ b.flat.length) ∧ b'.flat = lq b.flat (row * b.w + col) vs := by
 unfold Blk.write at h
 rw [hnb, Bool.not_false, Bool.and_true] at h
 cases hg : (Nat.beq b.mode 0 || !gZ vs) with
 | true => simp [hg] at h
 | false =>
   rw [hg, cond_false] at h
   simp only [Bool.or_eq_false_iff, Bool.not_eq_false'] at hg
   have hm := gW hg.1
   cases b with
   | map => first | rfl | (cases h; done) | (simp at h; done) | (simp at *; done)
   | bld => cases hnb
   | mix m e l =>
     simp only at h
     cases hc : (Nat.beq col 0 && Nat.ble (row + vs.length) l.length) with
     | false => simp [hc] at h
     | true =>
       rw [hc, cond_true] at h
       simp only [Bool.and_eq_true] at hc
       have h0 := ay hc.1
       have h1 := Nat.le_of_ble_eq_true hc.2
       subst h0
       exact ⟨_, h, hm, rfl, rfl, by simp [Blk.n, uq], rfl, hg.2, fun _ => by simpa [Blk.w, Blk.flat] using h1, by simp [Blk.w, Blk.flat]⟩
   | rows m e t l =>
     simp only at h
     cases hw : Nat.beq t.w 1 with
     | true =>
       have hw1 := ay hw
       rw [hw, cond_true] at h
       cases hc : Nat.beq col 0 with
       | false => simp [hc] at h
       | true =>
         rw [hc, cond_true] at h
         have h0 := ay hc
         subst h0
         obtain ⟨l', hk, hl, hle, hf⟩ := Qv hw1 h
         refine ⟨_, hk, hm, rfl, rfl, by simp [Blk.n, hl], rfl, hg.2, fun hne => ?_, ?_⟩
         ·have : 0 < vs.length := List.length_pos_iff.2 hne
          simp only [Blk.w, Blk.flat, fJ, hw1]
          omega
         ·simp only [Blk.flat, Blk.w, hw1, Nat.mul_one, Nat.add_zero]
          exact hf
     | false =>
       rw [hw, cond_false] at h
       cases hc : Nat.ble (col + vs.length) t.w with
       | false => simp [hc] at h
       | true =>
         have h1 := Nat.le_of_ble_eq_true hc
         rw [hc, cond_true, Option.bind_eq_some_iff] at h
         obtain ⟨x, hx, h⟩ := h
         rw [Option.bind_eq_some_iff] at h
         obtain ⟨y, hy, h⟩ := h
         have hy := aeV hy h1
         have he := Ez t _ y hy
         have hr : row < l.length := (List.getElem?_eq_some_iff.1 hx).1
         have hfit : row * t.w + col + vs.length ≤ (l.flatMap t.enc).length := by
          rw [fJ]
          have : (row + 1) * t.w ≤ l.length * t.w := Nat.mul_le_mul_right _ hr
          rw [Nat.add_mul] at this
          omega
         refine ⟨_, h, hm, rfl, rfl, by simp [Blk.n], rfl, hg.2, fun _ => hfit, ?_⟩
         simp only [Blk.flat, Blk.w]
         have hexl := nK t x
         have hwp := DW t
         apply List.ext_getElem?
         intro j
         rw [xJ _ _ _ _ hfit]
         obtain ⟨q, c, hc1, hj⟩ : ∃ q c, c < t.w ∧ j = q * t.w + c := ⟨j / t.w, j % t.w, Nat.mod_lt _ hwp, by rw [Nat.mul_comm]; exact (Nat.div_add_mod j t.w).symm⟩
         subst hj
         rw [HY t _ q c hc1, HY t _ q c hc1, List.getElem?_set]
         by_cases e : row = q
         ·subst e
          rw [if_pos rfl, if_pos hr, hx]
          simp only [Option.bind_some]
          rw [he, xJ _ _ _ _ (by rw [hexl]; exact h1)]
          by_cases hin : col ≤ c ∧ c < col + vs.length
          ·rw [if_pos hin, if_pos (by omega)]
           congr 1
           omega
          ·rw [if_neg hin, if_neg (by omega)]
         ·rw [if_neg e, if_neg]
          intro hh
          rcases Nat.lt_or_gt_of_ne e with hlt | hgt
          ·have : (row + 1) * t.w ≤ q * t.w := Nat.mul_le_mul_right _ hlt
           rw [Nat.add_mul] at this
           omega
          ·have : (q + 1) * t.w ≤ row * t.w := Nat.mul_le_mul_right _ hgt
           rw [Nat.add_mul] at this
           omega
theorem abK {e eb : TypeId} {s : ByteArray} {row col : Nat} {vs : List AV} {k : Blk → Option α} {r : α} (h : (Blk.bld e eb s).write row col vs k = some r) :
 row = 0 ∧ col = 0 ∧ vs = [.nilptr, .nilsl] ∧ k (.bld e eb ByteArray.empty) = some r := by
 unfold Blk.write at h
 cases hg : (Nat.beq (Blk.bld e eb s).mode 0 && !(Blk.bld e eb s).isBld || !gZ vs) with
 | true => rw [hg, cond_true] at h; cases h
 | false =>
   rw [hg, cond_false] at h
   simp only at h
   cases hc : (Nat.beq row 0 && (Nat.beq col 0 && Ew vs)) with
   | false => rw [hc, cond_false] at h; cases h
   | true =>
     rw [hc, cond_true] at h
     simp only [Bool.and_eq_true] at hc
     refine ⟨ay hc.1, ay hc.2.1, ?_, h⟩
     have hz := hc.2.2
     unfold Ew at hz
     split at hz
     ·rfl
     ·cases hz
end Go.Ev
