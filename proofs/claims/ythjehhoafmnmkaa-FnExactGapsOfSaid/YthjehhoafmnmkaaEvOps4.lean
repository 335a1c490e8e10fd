/- The evaluator's operations held against the model's: numbers, texts, addresses. -/
import Derived.Test.YthjehhoafmnmkaaEvOps3
namespace Go.Ev
open Go.RowKit
variable {α : Type} {P : Program} {w : World} {F : Fix} {L : LM} {st : St} {a : Act} {o : Oper} {next : Act → World → Prop} {Q : Exit → Act → World → Prop}
variable {k : St → Option α} {r : α}
def EqOK (P : Program) (eqs : TypeId → Nat → Bool) : Prop :=
 ∀ t n, eqs t n = true → P.eqGuardType P.depth t = false ∧
   ∀ (L : LM) (w : World) (xs ys : List AV) (X Y : Array Value) (b : Bool), xs.length = n → nZ xs ys = some b → VAll L xs X.toList → VAll L ys Y.toList → (Op.equal t (.agg X) (.agg Y)).run P w = .ok b w
theorem toList_inj {a b : ByteArray} : a.toList = b.toList ↔ a = b := by
 constructor
 ·intro h
  have h2 : a.data.toList = b.data.toList := by rw [← ByteArray.toList_eq, ← ByteArray.toList_eq]; exact h
  have := Array.toList_inj.1 h2
  cases a; cases b; simp_all
 ·intro h; rw [h]
theorem EX {κ : AV → Option α} {S : Sem Value} {ka : IntKind} {v : Int} (hev : κ (.int ka v) = some r) (hrun : S.run P w = .ok (.int ka v) w) :
 ∃ Z z, κ Z = some r ∧ V L Z z ∧ S.run P w = .ok z w := ⟨_, _, hev, by simp only [V], hrun⟩
theorem sQ {κ : AV → Option α} {S : Sem Value} {v : Bool} (hev : κ (.bool v) = some r) (hrun : S.run P w = .ok (.bool v) w) :
 ∃ Z z, κ Z = some r ∧ V L Z z ∧ S.run P w = .ok z w := ⟨_, _, hev, by simp only [V], hrun⟩
theorem aiP {κ : AV → Option α} {S : Sem Value} {v : ByteArray} (hev : κ (.str v) = some r) (hrun : S.run P w = .ok (.string v) w) :
 ∃ Z z, κ Z = some r ∧ V L Z z ∧ S.run P w = .ok z w := ⟨_, _, hev, by simp only [V], hrun⟩
theorem ajf {eqs : TypeId → Nat → Bool} (heq : EqOK P eqs) {t : TypeId} {op : BinOp} {X Y : AV} {κ : AV → Option α} (hev : SQ P eqs t op X Y κ = some r) {x y : Value} (hx : V L X x) (hy : V L Y y) (ox oy : Operand) :
 ∃ Z z, κ Z = some r ∧ V L Z z ∧ ((do eqGuard op t ox oy x y; binOp op t x y) : Sem Value).run P w = .ok z w := by
 unfold SQ at hev
 split at hev
 ·rename_i ka n ky b
  simp only [V] at hx hy
  subst hx hy
  cases hd : decide (b < 0) with
  | true => simp [hd] at hev
  | false =>
    rw [hd, cond_false] at hev
    have hb : ¬ b < 0 := by simpa using hd
    exact EX hev (by simp [eqGuard, binOp, Op.shift, hb])
 ·rename_i ka n ky b
  simp only [V] at hx hy
  subst hx hy
  cases hd : decide (b < 0) with
  | true => simp [hd] at hev
  | false =>
    rw [hd, cond_false] at hev
    have hb : ¬ b < 0 := by simpa using hd
    exact EX hev (by simp [eqGuard, binOp, Op.shift, hb])
 ·rename_i ka n kb m _ _
  simp only [V] at hx hy
  subst hx hy
  split at hev
  ·simp at hev
  ·rename_i hkk
   have hkk : ka = kb := by simpa using hkk
   subst hkk
   split at hev
   ·exact EX hev (by simp [eqGuard, binOp, Op.intArith])
   ·exact EX hev (by simp [eqGuard, binOp, Op.intArith])
   ·exact EX hev (by simp [eqGuard, binOp, Op.intArith])
   ·cases hd : decide (m = 0) with
    | true => simp [hd] at hev
    | false =>
      rw [hd, cond_false] at hev
      have hb : ¬ m = 0 := by simpa using hd
      exact EX hev (by simp [eqGuard, binOp, Op.intDiv, hb])
   ·cases hd : decide (m = 0) with
    | true => simp [hd] at hev
    | false =>
      rw [hd, cond_false] at hev
      have hb : ¬ m = 0 := by simpa using hd
      exact EX hev (by simp [eqGuard, binOp, Op.intDiv, hb])
   ·exact EX hev (by simp [eqGuard, binOp, Op.intBits])
   ·exact sQ hev (by simp [eqGuard, binOp, Op.intCmp]; rfl)
   ·exact sQ hev (by simp [eqGuard, binOp, Op.intCmp, bne]; rfl)
   ·exact sQ hev (by simp [eqGuard, binOp, Op.intCmp])
   ·exact sQ hev (by simp [eqGuard, binOp, Op.intCmp])
   ·exact sQ hev (by simp [eqGuard, binOp, Op.intCmp])
   ·exact sQ hev (by simp [eqGuard, binOp, Op.intCmp])
   ·simp at hev
 ·simp only [V] at hx hy
  subst hx hy
  split at hev
  ·rename_i hu
   exact sQ hev (by simp only [eqGuard_at_bool, Sem.run_bind, Sem.run_pure, Result.andThen_ok]; exact run_eql_bool w t _ _ hu)
  ·simp at hev
 ·simp only [V] at hx hy
  subst hx hy
  split at hev
  ·rename_i hu
   exact sQ hev (by simp only [eqGuard_at_bool, Sem.run_bind, Sem.run_pure, Result.andThen_ok]; exact run_neq_bool w t _ _ hu)
  ·simp at hev
 ·simp only [V] at hx hy
  subst hx hy
  refine sQ hev ?_
  simp [eqGuard, binOp, Op.stringOp, toList_inj, decide_eq_decide, Bool.beq_eq_decide_eq]
 ·simp only [V] at hx hy
  subst hx hy
  refine sQ hev ?_
  simp [eqGuard, binOp, Op.stringOp, toList_inj, decide_eq_decide, Bool.beq_eq_decide_eq]
 ·rename_i x' y'
  simp only [V] at hx hy
  subst hx hy
  cases hd : decide (x'.size + y'.size ≤ big) with
  | false => simp [hd] at hev
  | true =>
    rw [hd, cond_true] at hev
    have hb : x'.size + y'.size ≤ big := by simpa using hd
    refine aiP hev ?_
    have : ¬ ((9223372036854775807 : Int) < (x'.size : Int) + (y'.size : Int)) := by unfold big at hb; omega
    simp [eqGuard, binOp, Op.stringOp, this]
 ·rename_i xs ys
  simp only [V] at hx hy
  obtain ⟨X, rfl, hX⟩ := hx
  obtain ⟨Y, rfl, hY⟩ := hy
  cases hd : eqs t xs.length with
  | false => simp [hd] at hev
  | true =>
    rw [hd, cond_true, Option.bind_eq_some_iff] at hev
    obtain ⟨b, hb, hev⟩ := hev
    obtain ⟨h1, h2⟩ := heq t xs.length hd
    exact sQ hev (by simp [eqGuard, binOp, h1, h2 L w xs ys X Y b rfl hb hX hY, go_sem])
 ·rename_i xs ys
  simp only [V] at hx hy
  obtain ⟨X, rfl, hX⟩ := hx
  obtain ⟨Y, rfl, hY⟩ := hy
  cases hd : eqs t xs.length with
  | false => simp [hd] at hev
  | true =>
    rw [hd, cond_true, Option.bind_eq_some_iff] at hev
    obtain ⟨b, hb, hev⟩ := hev
    obtain ⟨h1, h2⟩ := heq t xs.length hd
    exact sQ hev (by simp [eqGuard, binOp, h1, h2 L w xs ys X Y b rfl hb hX hY, go_sem])
 ·simp at hev
end Go.Ev
