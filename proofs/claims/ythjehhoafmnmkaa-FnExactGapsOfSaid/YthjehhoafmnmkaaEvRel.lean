/- The evaluator's state held against the model's world: what stands, and how it is kept. -/
import Derived.Test.YthjehhoafmnmkaaEvDefs
import Derived.WalkKit
import Derived.Deep.AppendSrc
namespace Go.Ev
open Go.RowKit
structure Loc where
 b : Nat
 o : Nat
 w : Nat
 n : Nat
 mode : Nat
 size : Nat
 backed : Bool
 val : Value := undef
abbrev LM := Nat → Option Loc
def LM.set (L : LM) (id : Nat) (l : Loc) : LM := fun j => if j = id then some l else L j
def scal : AV → Option Value
 | .int k n => some (.int k n)
 | .bool b => some (.bool b)
 | .str s => some (.string s)
 | .nilptr => some (.pointer none)
 | .nilsl => some (.slice none 0 0)
 | _ => none
def SlOK (l : Loc) (a : Option Addr) (cap : Nat) : Prop :=
 l.n ≤ cap ∧ (l.backed = true → a = some ⟨l.b, l.o, none⟩ ∧ (l.mode ≠ 0 → cap * l.w = l.size ∧ cap ≤ maxLen)) ∧ (l.backed = false → l.n = 0 ∧ (l.mode ≠ 0 → cap = 0))
mutual
def V (L : LM) : AV → Value → Prop
 | .undef, _ => True
 | .int k n, v => v = .int k n
 | .bool b, v => v = .bool b
 | .str s, v => v = .string s
 | .nilptr, v => v = .pointer none
 | .nilsl, v => v = .slice none 0 0
 | .emp, v => ∃ a, v = .slice a 0 0
 | .ptr id r c, v => ∃ l, L id = some l ∧ v = .pointer (some ⟨l.b, l.o + (r * l.w + c), none⟩)
 | .sl id, v => ∃ l, L id = some l ∧ ∃ a cap, v = .slice a l.n cap ∧ SlOK l a cap ∧ (l.mode = 0 → v = l.val)
 | .sub id lo n, v => ∃ l, L id = some l ∧ lo + n ≤ l.n ∧ ∃ a cap, v = .slice a n cap ∧ n ≤ cap ∧ (n ≠ 0 → a = some ⟨l.b, l.o + lo * l.w, none⟩) ∧ (lo = 0 → SlOK l a cap)
 | .agg xs, v => ∃ arr : Array Value, v = .agg arr ∧ VAll L xs arr.toList
 | .tup xs, v => ∃ arr : Array Value, v = .tuple arr ∧ VAll L xs arr.toList
 | .fn f xs, v => ∃ arr : Array Value, v = .func (.func f) #[] arr ∧ VAll L xs arr.toList
 | .map id, v => ∃ l, L id = some l ∧ v = .map (some l.b)
def VAll (L : LM) : List AV → List Value → Prop
 | [], [] => True
 | x :: xs, v :: vs => V L x v ∧ VAll L xs vs
 | _, _ => False
end
theorem bz {L : LM} : ∀ {xs : List AV} {vs : List Value}, VAll L xs vs → xs.length = vs.length
 | [], [], _ => rfl
 | _ :: xs, _ :: vs, h => by simp [bz (xs := xs) (vs := vs) (by simp only [VAll] at h; exact h.2)]
 | [], _ :: _, h => by simp [VAll] at h
 | _ :: _, [], h => by simp [VAll] at h
theorem gK {L : LM} : ∀ {xs : List AV} {vs : List Value} (i : Nat) {x : AV}, VAll L xs vs → xs[i]? = some x → ∃ v, vs[i]? = some v ∧ V L x v
 | [], _, i, x, _, h => by simp at h
 | y :: xs, [], i, x, h, _ => by simp [VAll] at h
 | y :: xs, v :: vs, 0, x, h, hx => by
   simp only [VAll] at h
   simp at hx
   subst hx
   exact ⟨v, rfl, h.1⟩
 | y :: xs, v :: vs, i + 1, x, h, hx => by
   simp only [VAll] at h
   have := gK (L := L) i h.2 (by simpa using hx)
   simpa using this
theorem wW {L : LM} : ∀ {xs : List AV} {vs : List Value}, xs.length = vs.length → (∀ (i : Nat) (x : AV), xs[i]? = some x → ∃ v, vs[i]? = some v ∧ V L x v) → VAll L xs vs
 | [], [], _, _ => by simp [VAll]
 | y :: xs, v :: vs, hl, h => by
   simp only [VAll]
   refine ⟨?_, wW (by simpa using hl) fun i x hx => by simpa using h (i + 1) x (by simpa using hx)⟩
   obtain ⟨u, hu, hv⟩ := h 0 y rfl
   simp at hu
   exact hu ▸ hv
 | [], _ :: _, hl, _ => by simp at hl
 | _ :: _, [], hl, _ => by simp at hl
theorem sZ {L : LM} {x : AV} {u v : Value} (h : scal x = some u) : V L x v ↔ v = u := by
 cases x <;> simp [scal] at h <;> subst h <;> simp [V]
theorem Dw {x : AV} {u : Value} (h : scal x = some u) : u.oneCell' = true := by
 cases x <;> simp [scal] at h <;> subst h <;> rfl
theorem gW {a b : Nat} (h : Nat.beq a b = false) : ¬ a = b := fun e => by subst e; simp at h
theorem ay {a b : Nat} (h : Nat.beq a b = true) : a = b := Nat.eq_of_beq_eq_true h
theorem aaP {L : LM} {id : Nat} {l : Loc} : ∀ (x : AV) (v : Value), x.names id = false → V L x v → V (L.set id l) x v
 | .undef, _, _, _ => by simp [V]
 | .int _ _, _, _, h => by simpa [V] using h
 | .bool _, _, _, h => by simpa [V] using h
 | .str _, _, _, h => by simpa [V] using h
 | .nilptr, _, _, h => by simpa [V] using h
 | .nilsl, _, _, h => by simpa [V] using h
 | .emp, _, _, h => by simpa [V] using h
 | .ptr j r c, v, hn, h => by
   simp [AV.names] at hn
   have : ¬ j = id := gW hn
   simpa [V, LM.set, this] using h
 | .sl j, v, hn, h => by
   simp [AV.names] at hn
   have : ¬ j = id := gW hn
   simpa [V, LM.set, this] using h
 | .sub j _ _, v, hn, h => by
   simp [AV.names] at hn
   have : ¬ j = id := gW hn
   simpa [V, LM.set, this] using h
 | .map j, v, hn, h => by
   simp [AV.names] at hn
   have : ¬ j = id := gW hn
   simpa [V, LM.set, this] using h
 | .agg xs, v, hn, h => by
   simp only [V] at h ⊢
   obtain ⟨arr, rfl, h⟩ := h
   exact ⟨arr, rfl, go xs arr.toList (by simpa [AV.names] using hn) h⟩
 | .tup xs, v, hn, h => by
   simp only [V] at h ⊢
   obtain ⟨arr, rfl, h⟩ := h
   exact ⟨arr, rfl, go xs arr.toList (by simpa [AV.names] using hn) h⟩
 | .fn f xs, v, hn, h => by
   simp only [V] at h ⊢
   obtain ⟨arr, rfl, h⟩ := h
   exact ⟨arr, rfl, go xs arr.toList (by simpa [AV.names] using hn) h⟩
where
 go {L : LM} {id : Nat} {l : Loc} : ∀ (xs : List AV) (vs : List Value), AV.namesAll id xs = false → VAll L xs vs → VAll (L.set id l) xs vs
 | [], [], _, _ => by simp [VAll]
 | x :: xs, v :: vs, hn, h => by
   simp only [AV.namesAll, Bool.or_eq_false_iff] at hn
   simp only [VAll] at h ⊢
   exact ⟨aaP x v hn.1 h.1, go xs vs hn.2 h.2⟩
 | [], _ :: _, _, h => by simp [VAll] at h
 | _ :: _, [], _, h => by simp [VAll] at h
theorem adi {L : LM} {id : Nat} {l : Loc} {x : AV} {v : Value} (h : V L x v) : V (L.set id l) (iW id x) v := by
 unfold iW
 cases hn : x.names id with
 | true => simp [V]
 | false => simpa using aaP x v hn h
theorem nK (t : Ty) (x : t.den) : (t.enc x).length = t.w := by cases t <;> rfl
theorem ZY (t : Ty) (x : t.den) : ∀ av ∈ t.enc x, ∃ u, scal av = some u := by
 cases t <;> simp [Ty.enc, scal]
theorem DW (t : Ty) : 0 < t.w := by cases t <;> simp [Ty.w]
theorem Ez (t : Ty) (l : List AV) (x : t.den) (h : t.dec l = some x) : t.enc x = l := by
 cases t with
 | int k =>
   match l, h with
   | [.int k' n], h =>
     simp only [Ty.dec] at h
     split at h
     ·rename_i e; subst e; simp at h; subst h; rfl
     ·simp at h
 | bool =>
   match l, h with
   | [.bool b], h => simp only [Ty.dec] at h; simp at h; subst h; rfl
 | str =>
   match l, h with
   | [.str b], h => simp only [Ty.dec] at h; simp at h; subst h; rfl
 | pt =>
   match l, h with
   | [.int .i64 a, .int .i64 b], h => simp only [Ty.dec] at h; simp at h; subst h; rfl
 | tr =>
   match l, h with
   | [.int .i64 a, .int .i64 b, .int .i64 c], h => simp only [Ty.dec] at h; simp at h; subst h; rfl
 | qd =>
   match l, h with
   | [.int .i64 a, .int .i64 b, .int .i64 c, .int .i64 d], h => simp only [Ty.dec] at h; simp at h; subst h; rfl
 | hx =>
   match l, h with
   | [.int .i64 a, .int .i64 b, .int .i64 c, .int .i64 d, .int .i64 e, .int .i64 f], h => simp only [Ty.dec] at h; simp at h; subst h; rfl
theorem fJ (t : Ty) (l : List t.den) : (l.flatMap t.enc).length = l.length * t.w := by
 induction l with
 | nil => simp
 | cons x r ih => simp [List.flatMap_cons, nK, ih, Nat.add_mul, Nat.add_comm]
theorem HY (t : Ty) (l : List t.den) (r c : Nat) (hc : c < t.w) : (l.flatMap t.enc)[r * t.w + c]? = (l[r]?).bind fun x => (t.enc x)[c]? := by
 induction l generalizing r with
 | nil => simp
 | cons x rest ih =>
   cases r with
   | zero =>
     have : c < (t.enc x).length := by rw [nK]; exact hc
     simp [List.flatMap_cons, List.getElem?_append_left, this]
   | succ r =>
     have hl := nK t x
     rw [List.flatMap_cons, List.getElem?_append_right (by rw [hl, Nat.add_mul]; omega), hl]
     have e : (r + 1) * t.w + c - t.w = r * t.w + c := by rw [Nat.add_mul]; omega
     rw [e, ih]
     simp
theorem Jq (t : Ty) (l : List t.den) (i : Nat) (av : AV) (h : (l.flatMap t.enc)[i]? = some av) : ∃ u, scal av = some u := by
 have hm := List.mem_of_getElem? h
 obtain ⟨x, _, hx⟩ := List.mem_flatMap.1 hm
 exact ZY t x av hx
theorem Oy (b : Blk) : b.flat.length = b.n * b.w := by
 cases b with
 | rows m e t l => exact fJ t l
 | mix m e l => simp [Blk.flat, Blk.n, Blk.w]
 | map => simp [Blk.flat, Blk.n, Blk.w]
 | bld => simp [Blk.flat, Blk.n, Blk.w]
end Go.Ev
