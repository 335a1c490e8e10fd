/- The evaluator's operations held against the model's: slicing, lengths, numbers compared, values built. -/
import Derived.Test.YthjehhoafmnmkaaEvOps5
namespace Go.Ev
open Go.RowKit
variable {α : Type} {P : Program} {w : World} {F : Fix} {L : LM} {st : St} {a : Act} {o : Oper} {next : Act → World → Prop} {Q : Exit → Act → World → Prop}
variable {k : St → Option α} {r : α}
section
variable [Inhabited az]
theorem zW (h : RelL F L st a w) (x : Option Operand) : (x.map st.get = none ∧ x.map a.eval = none) ∨ ∃ X v, x.map st.get = some X ∧ x.map a.eval = some v ∧ V L X v := by
 cases x with
 | none => exact .inl ⟨rfl, rfl⟩
 | some y => exact .inr ⟨_, _, rfl, rfl, h.get y⟩
end
theorem aaJ {X : Option AV} {x : Option Value} (hx : (X = none ∧ x = none) ∨ ∃ Y v, X = some Y ∧ x = some v ∧ V L Y v) {dflt high : Nat} {κ : Nat → Option α} (h : lQ X dflt high κ = some r) :
 ∃ n, κ n = some r ∧ ((x = none ∧ n = dflt) ∨ ∃ v, x = some v ∧ n ≤ high ∧ ∀ (y : Nat) (code : BoundsCode) (w : World), n ≤ y → (Instr.sliceBound v y code).run P w = .ok n w) := by
 rcases hx with ⟨rfl, rfl⟩ | ⟨Y, v, rfl, rfl, hV⟩
 ·exact ⟨dflt, h, .inl ⟨rfl, rfl⟩⟩
 ·cases Y with
  | int ik m =>
    simp only [V] at hV
    subst hV
    simp only [lQ] at h
    cases hc : (decide (0 ≤ m) && decide (m ≤ (high : Int))) with
    | false => simp [hc] at h
    | true =>
      rw [hc, cond_true] at h
      simp only [Bool.and_eq_true, decide_eq_true_eq] at hc
      refine ⟨m.toNat, h, .inr ⟨_, rfl, by omega, fun y code w hy => ?_⟩⟩
      have h1 : m ≤ (y : Int) := by omega
      simp [Instr.sliceBound, asIntOf, hc.1, h1]
  | _ => simp [lQ] at h
theorem LJ {X Y : Option AV} {x y : Option Value} (hx : (X = none ∧ x = none) ∨ ∃ Z v, X = some Z ∧ x = some v ∧ V L Z v) (hy : (Y = none ∧ y = none) ∨ ∃ Z v, Y = some Z ∧ y = some v ∧ V L Z v)
 {len : Nat} {κ : Nat → Nat → Option α} (h : (lQ Y len len fun hi => lQ X 0 hi fun lo => κ lo hi) = some r) :
 ∃ lo hi, κ lo hi = some r ∧ lo ≤ hi ∧ hi ≤ len ∧ ∀ (isSlice : Bool) (cap : Nat) (w : World), len ≤ cap → (Instr.sliceBounds isSlice len cap x y none).run P w = .ok (lo, hi, cap) w := by
 obtain ⟨hi, h, hhi⟩ := aaJ (P := P) hy h
 obtain ⟨lo, h, hlo⟩ := aaJ (P := P) hx h
 have h1 : hi ≤ len := by rcases hhi with ⟨_, rfl⟩ | ⟨_, _, h, _⟩ <;> omega
 have h2 : lo ≤ hi := by rcases hlo with ⟨_, rfl⟩ | ⟨_, _, h, _⟩ <;> omega
 refine ⟨lo, hi, h, h2, h1, fun isSlice cap w hcap => ?_⟩
 have h3 : hi ≤ cap := Nat.le_trans h1 hcap
 rcases hhi with ⟨rfl, rfl⟩ | ⟨v, rfl, _, hv⟩ <;> rcases hlo with ⟨rfl, rfl⟩ | ⟨u, rfl, _, hu⟩ <;> cases isSlice <;> simp [Instr.sliceBounds, *]
section
variable [Inhabited az]
theorem adz {t : TypeId} {x : Operand} {lo hi : Option Operand} (hop : o.op = .slice t x lo hi none) (h : RelL F L st a w) (hg : Goes F k r next) (ht : P.underlying t = some .string) {s : ByteArray} (hx : st.get x = .str s)
 (hk : (lQ (hi.map st.get) s.size s.size fun b => lQ (lo.map st.get) 0 b fun l => k (st.put o.dst (.str (s.extract l b)))) = some r) : o.wp P a w next Q := by
 have hv := h.get x
 rw [hx] at hv
 simp only [V] at hv
 obtain ⟨l, b, hk, h1, h2, hrun⟩ := LJ (P := P) (zW h lo) (zW h hi) (κ := fun l b => k (st.put o.dst (.str (s.extract l b)))) hk
 refine dV (v := .string (s.extract l b)) (w' := w) ?_ (bV hg h (by simp [V]) hk)
 simp [execOp, hop, hv, Instr.sliceAt, Instr.slice, run_underlying ht, hrun false s.size w (Nat.le_refl _)]
theorem ad3 {t : TypeId} {x : Operand} {lo hi : Option Operand} (hop : o.op = .slice t x lo hi none) (h : RelL F L st a w) (hg : Goes F k r next) {e : TypeId} (ht : P.underlying t = some (.slice e)) {id : Nat} (hx : st.get x = .sl id) {b : Blk} (hb : look st.heap id = some b) (hs : dX P e = some b.w)
 (hk : (lQ (hi.map st.get) b.n b.n fun c => lQ (lo.map st.get) 0 c fun l => k (st.put o.dst (.sub id l (c - l)))) = some r) : o.wp P a w next Q := by
 obtain ⟨l, ad, cap, hL, hbl, he, hsl⟩ := aaD h hx hb
 obtain ⟨p, q, hk, h1, h2, hrun⟩ := LJ (P := P) (zW h lo) (zW h hi) (κ := fun l c => k (st.put o.dst (.sub id l (c - l)))) hk
 have hcap : b.n ≤ cap := by rw [← hbl.hn]; exact hsl.1
 refine dV (v := .slice (if cap = p then ad else ad.map (·.add (p * b.w))) (q - p) (cap - p)) (w' := w) ?_ (bV hg h (x := .sub id p (q - p)) ?_ hk)
 ·simp [execOp, hop, he, Instr.sliceAt, Instr.slice, run_underlying ht, hrun true cap w hcap, iK hs]
 ·simp only [V]
  refine ⟨l, hL, by rw [hbl.hn]; omega, _, _, rfl, by omega, fun hne => ?_, fun hp => ?_⟩
  ·have hbk := aaN hbl (by omega)
   obtain ⟨had, _⟩ := hsl.2.1 hbk
   rw [if_neg (by omega), had]
   simp only [Option.map_some, Addr.add_lit, hbl.hw]
  ·subst hp
   have e : (if cap = 0 then ad else ad.map (·.add (0 * b.w))) = ad := by
    split
    ·rfl
    ·simp [Addr.add_zero']
   rw [e, Nat.sub_zero]
   exact hsl
theorem adn {t : TypeId} {x : Operand} {lo hi : Option Operand} (hop : o.op = .slice t x lo hi none) (h : RelL F L st a w) (hg : Goes F k r next) {e : TypeId} (ht : P.underlying t = some (.slice e)) {id m n : Nat} (hx : st.get x = .sub id m n) {b : Blk} (hb : look st.heap id = some b) (hs : dX P e = some b.w)
 (hk : (lQ (hi.map st.get) n n fun c => lQ (lo.map st.get) 0 c fun l => k (st.put o.dst (.sub id (jq m l 1) (c - l)))) = some r) : o.wp P a w next Q := by
 obtain ⟨l, ad, cap, hL, hbl, he, hle, hcap, hadr, hsl⟩ := aar h hx hb
 obtain ⟨p, q, hk, h1, h2, hrun⟩ := LJ (P := P) (zW h lo) (zW h hi) (κ := fun l c => k (st.put o.dst (.sub id (jq m l 1) (c - l)))) hk
 rw [Dx, Nat.mul_one] at hk
 refine dV (v := .slice (if cap = p then ad else ad.map (·.add (p * b.w))) (q - p) (cap - p)) (w' := w) ?_ (bV hg h (x := .sub id (m + p) (q - p)) ?_ hk)
 ·simp [execOp, hop, he, Instr.sliceAt, Instr.slice, run_underlying ht, hrun true cap w hcap, iK hs]
 ·simp only [V]
  refine ⟨l, hL, by rw [hbl.hn]; omega, _, _, rfl, by omega, fun hne => ?_, fun hp => ?_⟩
  ·have had := hadr (by omega)
   rw [if_neg (by omega), had]
   simp only [Option.map_some, Addr.add_lit, hbl.hw]
   rw [Nat.add_mul, Nat.add_assoc]
  ·have hm0 : m = 0 := by omega
   have hp0 : p = 0 := by omega
   subst hm0 hp0
   have e : (if cap = 0 then ad else ad.map (·.add (0 * b.w))) = ad := by
    split
    ·rfl
    ·simp [Addr.add_zero']
   rw [e, Nat.sub_zero]
   exact hsl rfl
theorem Nq {t : TypeId} {x : Operand} {lo hi mx : Option Operand} (hop : o.op = .slice t x lo hi mx) (h : RelL F L st a w) (hg : Goes F k r next) {e : TypeId} (ht : P.underlying t = some (.slice e)) (hse : ∃ n, dX P e = some n)
 (hx : (∃ id, st.get x = .sl id) ∨ (∃ id m n, st.get x = .sub id m n) ∨ st.get x = .nilsl) {k1 k2 k3 : IntKind} (h1 : lo.map st.get = some (.int k1 0)) (h2 : hi.map st.get = some (.int k2 0)) (h3 : mx.map st.get = some (.int k3 0))
 (hk : k (st.put o.dst .emp) = some r) : o.wp P a w next Q := by
 have e1 : lo.map a.eval = some (.int k1 0) := by
  rcases zW h lo with ⟨h, _⟩ | ⟨X, v, h, hv, hV⟩
  ·rw [h] at h1; cases h1
  ·rw [h] at h1; cases h1; simp only [V] at hV; rw [hv, hV]
 have e2 : hi.map a.eval = some (.int k2 0) := by
  rcases zW h hi with ⟨h, _⟩ | ⟨X, v, h, hv, hV⟩
  ·rw [h] at h2; cases h2
  ·rw [h] at h2; cases h2; simp only [V] at hV; rw [hv, hV]
 have e3 : mx.map a.eval = some (.int k3 0) := by
  rcases zW h mx with ⟨h, _⟩ | ⟨X, v, h, hv, hV⟩
  ·rw [h] at h3; cases h3
  ·rw [h] at h3; cases h3; simp only [V] at hV; rw [hv, hV]
 obtain ⟨ad, n, cap, hv⟩ : ∃ ad n cap, a.eval x = .slice ad n cap := by
  have hv := h.get x
  rcases hx with ⟨id, hx⟩ | ⟨id, m, n, hx⟩ | hx <;> rw [hx] at hv <;> simp only [V] at hv
  ·obtain ⟨l, _, ad, cap, hv, _⟩ := hv; exact ⟨_, _, _, hv⟩
  ·obtain ⟨l, _, _, ad, cap, hv, _⟩ := hv; exact ⟨_, _, _, hv⟩
  ·exact ⟨_, _, _, hv⟩
 obtain ⟨sz, hsz⟩ := hse
 refine dV (v := .slice ad 0 0) (w' := w) ?_ (bV hg h (x := .emp) (by simp [V]) hk)
 simp [execOp, hop, hv, e1, e2, e3, Instr.sliceAt, Instr.slice, run_underlying ht, Instr.sliceBounds, Instr.sliceBound, asIntOf, iK hsz]
theorem VK {t : TypeId} {x : Operand} {lo hi : Option Operand} (hop : o.op = .slice t x lo hi none) (h : RelL F L st a w) (hg : Goes F k r next) {e : TypeId} (ht : P.underlying t = some (.slice e)) (hx : st.get x = .nilsl ∨ st.get x = .emp) (hs : ∃ n, dX P e = some n)
 (hk : (lQ (hi.map st.get) 0 0 fun c => lQ (lo.map st.get) 0 c fun _ => k (st.put o.dst (st.get x))) = some r) : o.wp P a w next Q := by
 obtain ⟨sz, hs⟩ := hs
 obtain ⟨p, q, hk, h1, h2, hrun⟩ := LJ (P := P) (zW h lo) (zW h hi) (κ := fun _ _ => k (st.put o.dst (st.get x))) hk
 have hv := h.get x
 have hv2 := hv
 obtain ⟨ad, he, hV⟩ : ∃ ad, a.eval x = .slice ad 0 0 ∧ ∀ ad', ad' = ad → V L (st.get x) (.slice ad' 0 0) := by
  rcases hx with hx | hx
  ·rw [hx] at hv
   simp only [V] at hv
   exact ⟨none, hv, fun ad' e => by rw [hx, e]; simp [V]⟩
  ·rw [hx] at hv
   simp only [V] at hv
   obtain ⟨ad, hv⟩ := hv
   exact ⟨ad, hv, fun ad' e => by rw [hx]; simp [V]⟩
 have hq : q = 0 := by omega
 have hp : p = 0 := by omega
 subst hq hp
 refine dV (v := .slice ad 0 0) (w' := w) ?_ (bV hg h (x := st.get x) (hV ad rfl) hk)
 simp [execOp, hop, he, Instr.sliceAt, Instr.slice, run_underlying ht, hrun true 0 w (Nat.le_refl _), iK hs]
theorem aa1 {x : Operand} {t : TypeId} {e : TypeId} (hop : o.op = .call { callee := .builtin .cap, args := #[x], argTypes := #[t] }) (h : RelL F L st a w) (hg : Goes F k r next) (ht : P.underlying t = some (.slice e)) (hx : st.get x = .nilsl ∨ st.get x = .emp)
 (hk : k (st.put o.dst (.int .i64 0)) = some r) : o.wp P a w next Q := by
 have hv := h.get x
 obtain ⟨ad, he⟩ : ∃ ad, a.eval x = .slice ad 0 0 := by
  rcases hx with hx | hx
  ·rw [hx] at hv; simp only [V] at hv; exact ⟨_, hv⟩
  ·rw [hx] at hv; simp only [V] at hv; exact hv
 exact dV (v := .int .i64 0) (w' := w) (by simp [execOp, hop, resolve, invoke, builtin, he, Builtin.cap_, run_underlying ht, goInt]) (bV hg h (by simp [V]) hk)
theorem ajn (h : RelL F L st a w) {x : Operand} {n : Nat} (hn : xX st.heap (st.get x) = some n) (hns : ∀ s, st.get x ≠ .str s) : ∃ ad cap, a.eval x = .slice ad n cap := by
 have hv := h.get x
 cases hx : st.get x with
 | sl id =>
   rw [hx] at hn
   simp only [xX, Option.map_eq_some_iff] at hn
   obtain ⟨b, hb, rfl⟩ := hn
   obtain ⟨l, ad, cap, _, _, he, _⟩ := aaD h hx hb
   exact ⟨_, _, he⟩
 | sub id m n' =>
   rw [hx] at hn hv
   simp only [xX, Option.some.injEq] at hn
   subst hn
   simp only [V] at hv
   obtain ⟨l, _, _, ad, cap, hv, _⟩ := hv
   exact ⟨_, _, hv⟩
 | nilsl =>
   rw [hx] at hn hv
   simp only [xX, Option.some.injEq] at hn
   subst hn
   simp only [V] at hv
   exact ⟨_, _, hv⟩
 | emp =>
   rw [hx] at hn hv
   simp only [xX, Option.some.injEq] at hn
   subst hn
   simp only [V] at hv
   obtain ⟨_, hv⟩ := hv
   exact ⟨_, _, hv⟩
 | str s => exact absurd hx (hns s)
 | _ => rw [hx] at hn; simp [xX] at hn
theorem agQ {x : Operand} {t : TypeId} {e : TypeId} (hop : o.op = .call { callee := .builtin .len, args := #[x], argTypes := #[t] }) (h : RelL F L st a w) (hg : Goes F k r next) (ht : P.underlying t = some (.slice e)) {n : Nat} (hn : xX st.heap (st.get x) = some n) (hns : ∀ s, st.get x ≠ .str s)
 (hk : k (st.put o.dst (.int .i64 n)) = some r) : o.wp P a w next Q := by
 obtain ⟨ad, cap, hv⟩ := ajn h hn hns
 exact dV (v := .int .i64 n) (w' := w) (by simp [execOp, hop, resolve, invoke, builtin, hv, Builtin.len_, run_underlying ht, goInt]) (bV hg h (by simp [V]) hk)
theorem aeZ {x : Operand} {t : TypeId} (hop : o.op = .call { callee := .builtin .len, args := #[x], argTypes := #[t] }) (h : RelL F L st a w) (hg : Goes F k r next) (ht : P.underlying t = some .string) {s : ByteArray} (hx : st.get x = .str s)
 (hk : k (st.put o.dst (.int .i64 s.size)) = some r) : o.wp P a w next Q := by
 have hv := h.get x
 rw [hx] at hv
 simp only [V] at hv
 exact dV (v := .int .i64 s.size) (w' := w) (by simp [execOp, hop, resolve, invoke, builtin, hv, Builtin.len_, run_underlying ht, goInt]) (bV hg h (by simp [V]) hk)
end
theorem Vw (f : Int → Int → Int) (g : Value → Value → Sem Value) (hfg : ∀ ka x y, g (.int ka x) (.int ka y) = pure (.int ka (f x y))) {ka : IntKind} : ∀ {xs : List AV} {x : Int} {κ : AV → Option α} {vs : List Value}, VAll L xs vs → vk f ka x xs κ = some r →
 ∃ y, κ (.int ka y) = some r ∧ (vs.foldlM g (.int ka x)).run P w = .ok (.int ka y) w
 | [], x, κ, [], _, h => ⟨x, h, by simp⟩
 | X :: xs, x, κ, v :: vs, hV, h => by
   simp only [VAll] at hV
   cases X with
   | int kb y =>
     simp only [vk] at h
     split at h
     ·rename_i e
      subst e
      have hv := hV.1
      simp only [V] at hv
      subst hv
      obtain ⟨z, h1, h2⟩ := Vw f g hfg hV.2 h
      exact ⟨z, h1, by simp [List.foldlM_cons, hfg, h2]⟩
     ·simp at h
   | _ => simp [vk] at h
 | [], _, _, _ :: _, hV, _ => by simp [VAll] at hV
 | _ :: _, _, _, [], hV, _ => by simp [VAll] at hV
section
variable [Inhabited az]
theorem WW (h : RelL F L st a w) (xs : List Operand) : VAll L (xs.map st.get) (xs.map a.eval) := by
 induction xs with
 | nil => simp [VAll]
 | cons x r ih => simp [VAll, h.get x, ih]
theorem ajQ {c : Call} (hop : o.op = .call c) (hc : c.callee = .builtin .max) (h : RelL F L st a w) (hg : Goes F k r next) {ka : IntKind} {x : Int} {xs : List AV} (hx : c.args.toList.map st.get = .int ka x :: xs)
 (hk : vk max ka x xs (fun v => k (st.put o.dst v)) = some r) : o.wp P a w next Q := by
 have hV := WW h c.args.toList
 rw [hx] at hV
 match he : c.args.toList.map a.eval, hV with
 | v :: vs, hV =>
   simp only [VAll] at hV
   have hv := hV.1
   simp only [V] at hv
   subst hv
   obtain ⟨y, hk, hrun⟩ := Vw (P := P) (w := w) max Builtin.max2 (fun ka x y => by
    simp only [Builtin.max2]
    congr 2
    rw [Int.max_def]
    split <;> split <;> omega) hV.2 hk
   exact dV (v := .int ka y) (w' := w) (by simp [execOp, hop, resolve, hc, invoke, builtin, Builtin.max_, he, hrun]) (bV hg h (by simp [V]) hk)
theorem ajy {c : Call} (hop : o.op = .call c) (hc : c.callee = .builtin .min) (h : RelL F L st a w) (hg : Goes F k r next) {ka : IntKind} {x : Int} {xs : List AV} (hx : c.args.toList.map st.get = .int ka x :: xs)
 (hk : vk min ka x xs (fun v => k (st.put o.dst v)) = some r) : o.wp P a w next Q := by
 have hV := WW h c.args.toList
 rw [hx] at hV
 match he : c.args.toList.map a.eval, hV with
 | v :: vs, hV =>
   simp only [VAll] at hV
   have hv := hV.1
   simp only [V] at hv
   subst hv
   obtain ⟨y, hk, hrun⟩ := Vw (P := P) (w := w) min Builtin.min2 (fun ka x y => by
    simp only [Builtin.min2]
    congr 2
    rw [Int.min_def]
    split <;> split <;> omega) hV.2 hk
   exact dV (v := .int ka y) (w' := w) (by simp [execOp, hop, resolve, hc, invoke, builtin, Builtin.min_, he, hrun]) (bV hg h (by simp [V]) hk)
end
end Go.Ev
