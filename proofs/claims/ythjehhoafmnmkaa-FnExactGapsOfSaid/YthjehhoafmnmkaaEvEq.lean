/- Arrays and structs of numbers, compared: cell by cell. -/
import Derived.Test.YthjehhoafmnmkaaEvTab
import Derived.ChangeKeysEq
namespace Go.Ev
open Go.RowKit
variable {P : Program} {w : World}
abbrev Z3 := IntKind × Int × Int
def va (z : Z3) : Value := .int z.1 z.2.1
def vb (z : Z3) : Value := .int z.1 z.2.2
def same (z : Z3) : Bool := decide (z.2.1 = z.2.2)
theorem VQ {L : LM} : ∀ {xs ys : List AV} {X Y : List Value} {b : Bool}, nZ xs ys = some b → VAll L xs X → VAll L ys Y → ∃ zs : List Z3, zs.length = xs.length ∧ X = zs.map va ∧ Y = zs.map vb ∧ b = zs.all same
 | [], [], X, Y, b, h, hx, hy => by
   simp only [nZ, Option.some.injEq] at h
   match X, Y, hx, hy with
   | [], [], _, _ => exact ⟨[], rfl, rfl, rfl, by simp [← h]⟩
   | _ :: _, _, hx, _ => simp [VAll] at hx
   | [], _ :: _, _, hy => simp [VAll] at hy
 | [], _ :: _, _, _, _, h, _, _ => by simp [nZ] at h
 | _ :: _, [], _, _, _, h, _, _ => by simp [nZ] at h
 | x0 :: r, y0 :: s, X, Y, b, h, hx, hy => by
   cases x0 with
   | int k x =>
     cases y0 with
     | int k' y =>
       match X, Y, hx, hy with
       | u :: X, v :: Y, hx, hy =>
         simp only [VAll, V] at hx hy
         by_cases hr : r = [] ∧ s = []
         ·obtain ⟨rfl, rfl⟩ := hr
          simp only [nZ] at h
          split at h
          ·rename_i e
           subst e
           match X, Y, hx.2, hy.2 with
           | [], [], _, _ => exact ⟨[(k, x, y)], rfl, by simp [va, hx.1], by simp [vb, hy.1], by simp [same, ← Option.some.inj h]⟩
           | _ :: _, _, hx, _ => simp [VAll] at hx
           | [], _ :: _, _, hy => simp [VAll] at hy
          ·cases h
         ·have h' : (if k = k' then (nZ r s).map fun b => (decide (x = y) && b) else none) = some b := by
           rw [← h]
           cases r with
           | nil =>
             cases s with
             | nil => exact absurd ⟨rfl, rfl⟩ hr
             | cons => rfl
           | cons => cases s <;> rfl
          split at h'
          ·rename_i e
           subst e
           rw [Option.map_eq_some_iff] at h'
           obtain ⟨b', hb', rfl⟩ := h'
           obtain ⟨zs, e1, e2, e3, e4⟩ := VQ hb' hx.2 hy.2
           exact ⟨(k, x, y) :: zs, by simp [e1], by simp [va, hx.1, e2], by simp [vb, hy.1, e3], by simp [same, e4]⟩
          ·cases h'
       | [], _, hx, _ => simp [VAll] at hx
       | _ :: _, [], _, hy => simp [VAll] at hy
     | _ => cases r <;> simp [nZ] at h
   | _ => simp [nZ] at h
def UK (P : Program) (ok : TypeId → Nat → Bool) : Nat → List Field → Nat → Bool
 | off, [], n => Nat.beq off n
 | off, f :: r, n => (match dX P f.type with
   | some s => ok f.type s && (Nat.beq f.offset off && (!(f.name == "_") && UK P ok (off + s) r n))
   | none => false)
def sJ (P : Program) : Nat → TypeId → Nat → Bool
 | 0, _, _ => false
 | d + 1, t, n => (match dX P t with
     | some s => Nat.beq s n
     | none => false) && (match P.underlying t with
   | some (.int _) => Nat.beq n 1
   | some (.array len e) => match dX P e with
     | some s => sJ P d e s && Nat.beq n (len * s)
     | none => false
   | some (.struct fs) => !P.stoodInHeld t && UK P (sJ P d) 0 fs.toList n
   | _ => false)
def valT (P : Program) (t : TypeId) (l : List Value) : Value := match aggT P t with
 | some true => .agg l.toArray
 | _ => l.getD 0 undef
theorem afq {d : Nat} {t : TypeId} {n : Nat} (h : sJ P d t n = true) : dX P t = some n := by
 cases d with
 | zero => simp [sJ] at h
 | succ d =>
   simp only [sJ, Bool.and_eq_true] at h
   have h1 := h.1
   split at h1
   ·rename_i s hs
    rw [hs, ay h1]
   ·cases h1
theorem ahB {d : Nat} {t : TypeId} {n : Nat} (h : sJ P d t n = true) : ∃ ag, aggT P t = some ag ∧ (ag = false → n = 1) := by
 cases d with
 | zero => simp [sJ] at h
 | succ d =>
   simp only [sJ, Bool.and_eq_true] at h
   have h2 := h.2
   unfold aggT
   split at h2
   ·rename_i k hu
    rw [hu]
    exact ⟨false, rfl, fun _ => ay h2⟩
   ·rename_i len e hu
    rw [hu]
    exact ⟨true, rfl, fun h => by cases h⟩
   ·rename_i fs hu
    rw [hu]
    exact ⟨true, rfl, fun h => by cases h⟩
   ·cases h2
theorem Tq {d : Nat} {e : TypeId} {s : Nat} (h : sJ P d e s = true) {zs : List Z3} {f : Z3 → Value} {X : Array Value} (hX : X.toList = zs.map f) {off : Nat} (hoff : off + s ≤ zs.length) :
 (part e X off).run P w = .ok (valT P e (((zs.drop off).take s).map f)) w := by
 obtain ⟨ag, hag, hone⟩ := ahB h
 have hsz : X.size = zs.length := by
  have := congrArg List.length hX
  simpa using this
 rw [Zy (afq h) hag X off (fun hf => by
  have := hone hf
  have hlt : off < X.size := by omega
  exact ⟨X[off], by simp [hlt]⟩)]
 congr 1
 unfold valT
 rw [hag]
 cases ag with
 | true =>
   simp only [if_true]
   congr 1
   apply Array.toList_inj.1
   simp [hX, List.map_drop, List.map_take]
 | false =>
   have := hone rfl
   subst this
   have hlt : off < zs.length := by omega
   simp only [Bool.false_eq_true, if_false]
   have e1 : X.getD off undef = X.toList.getD off undef := by simp [Array.getD_eq_getD_getElem?, List.getD_eq_getElem?_getD]
   rw [e1, hX]
   simp [List.getD_eq_getElem?_getD, hlt]
theorem afd {β : Type} (l : List β) (i s k : Nat) : (l.drop i).take (s + k) = (l.drop i).take s ++ (l.drop (i + s)).take k := by
 rw [List.take_add, List.drop_drop]
theorem adg {D d : Nat} {e : TypeId} {s : Nat} (hf : sJ P d e s = true) {zs : List Z3} {X Y : Array Value} (hX : X.toList = zs.map va) (hY : Y.toList = zs.map vb)
 (ih : ∀ zs : List Z3, zs.length = s → (Op.equalIn D e (valT P e (zs.map va)) (valT P e (zs.map vb))).run P w = .ok (zs.all same) w) :
 ∀ (k j : Nat), (j + k) * s ≤ zs.length → (Op.eqItems D e s X Y (List.range' j k)).run P w = .ok (((zs.drop (j * s)).take (k * s)).all same) w
 | 0, j, _ => by simp [Op.eqItems]
 | k + 1, j, hle => by
   have hle1 : j * s + s ≤ zs.length := by
    have : (j + 1) * s ≤ (j + (k + 1)) * s := Nat.mul_le_mul_right _ (by omega)
    rw [Nat.add_mul] at this
    omega
   simp only [List.range'_succ, Op.eqItems, Sem.run_bind, Tq hf hX hle1, Tq hf hY hle1, Result.andThen_ok]
   rw [ih _ (by simp; omega), Result.andThen_ok]
   have hsp : (zs.drop (j * s)).take ((k + 1) * s) = (zs.drop (j * s)).take s ++ (zs.drop ((j + 1) * s)).take (k * s) := by
    rw [show (k + 1) * s = s + k * s by rw [Nat.add_mul]; omega, afd, show (j + 1) * s = j * s + s by rw [Nat.add_mul]; omega]
   rw [hsp, List.all_append]
   cases hb : ((zs.drop (j * s)).take s).all same with
   | false => simp
   | true =>
     have := adg hf hX hY ih k (j + 1) (by rw [show j + 1 + k = j + (k + 1) by omega]; exact hle)
     simpa using this
theorem abH {D d : Nat} {zs : List Z3} {X Y : Array Value} (hX : X.toList = zs.map va) (hY : Y.toList = zs.map vb)
 (ih : ∀ (t : TypeId) (s : Nat) (zs : List Z3), sJ P d t s = true → zs.length = s → (Op.equalIn D t (valT P t (zs.map va)) (valT P t (zs.map vb))).run P w = .ok (zs.all same) w) :
 ∀ (fs : List Field) (off : Nat), UK P (sJ P d) off fs zs.length = true → (Op.eqFields D X Y fs).run P w = .ok ((zs.drop off).all same) w ∧ off ≤ zs.length
 | [], off, h => by
   simp only [UK] at h
   have := ay h
   subst this
   simp [Op.eqFields]
 | f :: r, off, h => by
   simp only [UK] at h
   split at h
   ·rename_i s hs
    simp only [Bool.and_eq_true, Bool.not_eq_true'] at h
    obtain ⟨h1, h2, h3, h4⟩ := h
    have h2 := ay h2
    obtain ⟨k1, k2⟩ := abH hX hY ih r (off + s) h4
    have hn : f.name ≠ "_" := by simpa using h3
    refine ⟨?_, by omega⟩
    simp only [Op.eqFields, hn, ne_eq, not_false_eq_true, if_true, Sem.run_bind, h2, Tq h1 hX k2, Tq h1 hY k2, Result.andThen_ok]
    rw [ih f.type s _ h1 (by simp; omega), Result.andThen_ok]
    have hsp : zs.drop off = (zs.drop off).take s ++ zs.drop (off + s) := by
     rw [← List.drop_drop, List.take_append_drop]
    conv => rhs; rw [hsp, List.all_append]
    cases hb : ((zs.drop off).take s).all same with
    | false => simp
    | true => simpa using k1
   ·cases h
theorem abh : ∀ (d : Nat) (t : TypeId) (n : Nat) (zs : List Z3), sJ P d t n = true → zs.length = n → ∀ D, d ≤ D → (Op.equalIn D t (valT P t (zs.map va)) (valT P t (zs.map vb))).run P w = .ok (zs.all same) w
 | 0, t, n, zs, h, _, _, _ => by simp [sJ] at h
 | d + 1, t, n, zs, h, hl, D, hD => by
   obtain ⟨D, rfl⟩ : ∃ D', D = D' + 1 := ⟨D - 1, by omega⟩
   have h0 := h
   simp only [sJ, Bool.and_eq_true] at h
   have h2 := h.2
   split at h2
   ·rename_i k hu
    have := ay h2
    subst this
    match zs, hl with
    | [z], _ =>
      have hag : aggT P t = some false := by unfold aggT; rw [hu]
      simp only [valT, hag, List.map_cons, List.map_nil, List.getD_cons_zero]
      rw [show va z = .int z.1 z.2.1 from rfl, show vb z = .int z.1 z.2.2 from rfl, run_equalIn_int w D t z.1 k z.2.1 z.2.2 hu]
      simp only [List.all_cons, List.all_nil, Bool.and_true, same]
      congr 1
   ·rename_i len e hu
    split at h2
    ·rename_i s hs
     simp only [Bool.and_eq_true] at h2
     have hag : aggT P t = some true := by unfold aggT; rw [hu]
     obtain ⟨i, hi, his⟩ := FV hs
     have hc : P.cellsOf e = s := by simp [Program.cellsOf, hi, his]
     have hn := ay h2.2
     simp only [valT, hag]
     rw [run_equalIn_array w D _ _ hu hi, hc, List.range_eq_range']
     have := adg (D := D) (w := w) h2.1 (zs := zs) (X := (zs.map va).toArray) (Y := (zs.map vb).toArray) (by simp) (by simp) (fun zs hz => abh d e s zs h2.1 hz D (by omega)) len 0 (by rw [Nat.zero_add]; omega)
     rw [this, Nat.zero_mul, List.drop_zero, ← hn, ← hl, List.take_length]
    ·cases h2
   ·rename_i fs hu
    simp only [Bool.and_eq_true, Bool.not_eq_true'] at h2
    have hag : aggT P t = some true := by unfold aggT; rw [hu]
    have hfo : P.fieldsOf t = fs := by simp [Program.fieldsOf, hu]
    simp only [valT, hag]
    rw [run_equalIn_struct w D t _ _ (by rw [hfo]; exact hu) h2.1, hfo]
    have := (abH (D := D) (w := w) (d := d) (zs := zs) (X := (zs.map va).toArray) (Y := (zs.map vb).toArray) (by simp) (by simp) (fun t s zs h1 h2 => abh d t s zs h1 h2 D (by omega)) fs.toList 0 (by rw [hl]; exact h2.2)).1
    simpa using this
   ·cases h2
def acz (l : List (TypeId × Nat)) (t : TypeId) (n : Nat) : Bool := match l with
 | [] => false
 | (u, m) :: r => (Nat.beq u t && Nat.beq m n) || acz r t n
def aby (P : Program) : List (TypeId × Nat) → Bool
 | [] => true
 | (u, m) :: r => (match aggT P u with
   | some b => b
   | none => false) && (!P.eqGuardType P.depth u && (sJ P 20 u m && aby P r))
theorem ahF {l : List (TypeId × Nat)} (h : aby P l = true) : EqOK P (acz l) := by
 induction l with
 | nil => intro t n ht; cases ht
 | cons p r ih =>
   obtain ⟨u, m⟩ := p
   simp only [aby, Bool.and_eq_true, Bool.not_eq_true'] at h
   obtain ⟨h1, h2, h3, h4⟩ := h
   intro t n ht
   simp only [acz, Bool.or_eq_true, Bool.and_eq_true] at ht
   rcases ht with ⟨e1, e2⟩ | ht
   ·have e1 := ay e1
    have e2 := ay e2
    subst e1 e2
    refine ⟨h2, fun L w xs ys X Y b hl hb hx hy => ?_⟩
    obtain ⟨zs, k1, k2, k3, rfl⟩ := VQ hb hx hy
    have hag : aggT P u = some true := by
     split at h1
     ·rename_i c hc; rw [hc, h1]
     ·cases h1
    have := abh (w := w) 20 u m zs h3 (by omega) Op.maxDepth (by decide)
    simp only [valT, hag] at this
    have eX : X = (zs.map va).toArray := by apply Array.toList_inj.1; rw [k2]
    have eY : Y = (zs.map vb).toArray := by apply Array.toList_inj.1; rw [k3]
    rw [eX, eY]
    exact this
   ·exact ih h4 t n ht
section
variable {α : Type}
end
section
variable {α : Type}
end
end Go.Ev
