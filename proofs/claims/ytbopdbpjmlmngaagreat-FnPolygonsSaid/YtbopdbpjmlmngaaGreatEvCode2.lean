/- The evaluator held against the model: regions, code, loops. -/
import Derived.Test.YtbopdbpjmlmngaaGreatEvPrep
namespace Go.Ev
open Go.RowKit
variable {α : Type} {P : Program} {w : World} {F : Fix} {L : LM} {st : St} {a : Act} {r : α} {R : Res → Act → World → Prop} {E : Env α}
theorem RelL.learn (h : RelL F L st a w) {d : Nat} {x : AV} (hv : V L x (a.tmps.getD d undef)) : RelL F L (st.put (some d) x) a w := by
 refine { h with len := by simp [St.put, h.len], slots := fun i y hy => ?_ }
 simp only [St.put, List.getElem?_set] at hy
 split at hy
 ·rename_i e
  subst e
  split at hy
  ·simp at hy
   subst hy
   exact hv
  ·simp at hy
 ·exact h.slots i y hy
theorem apz (L : LM) : V L (.tup []) undef := ⟨#[], rfl, by simp [VAll]⟩
theorem avI {a b : Option α} (h : both a b = some r) : a = some r ∧ b = some r := by
 unfold both at h
 by_cases e : a = b
 ·rw [if_pos e] at h
  exact ⟨h, e ▸ h⟩
 ·rw [if_neg e] at h
  cases h
theorem abX {two : Bool} {k : Bool → Option α} (h : alq two k = some r) (b : Bool) : k b = some r := by
 unfold alq at h
 cases two with
 | false => cases h
 | true =>
   obtain ⟨h1, h2⟩ := avI h
   cases b <;> assumption
theorem an1 (h : RelL F L st a w) {two : Bool} {X : AV} {x : Value} (hx : V L X x) {k : Bool → Option α} (hk : anz two st.heap X k = some r) {t : TypeId} {e : TypeId} (ht : P.underlying t = some (.slice e)) (ox oy : Operand) :
 ∃ b, k b = some r ∧ ((do eqGuard .eql t ox oy x (.slice none 0 0); binOp .eql t x (.slice none 0 0)) : Sem Value).run P w = .ok (.bool b) w ∧ ((do eqGuard .neq t ox oy x (.slice none 0 0); binOp .neq t x (.slice none 0 0)) : Sem Value).run P w = .ok (.bool (!b)) w := by
 have h0 : ∀ d n c, (Op.equalIn (d + 1) t (.slice none n c) (.slice none 0 0)).run P w = .ok true w := fun d n c => by simp [Op.equalIn, run_underlying ht]
 have h1 : ∀ d ad n c, (Op.equalIn (d + 1) t (.slice (some ad) n c) (.slice none 0 0)).run P w = .ok false w := fun d ad n c => by simp [Op.equalIn, run_underlying ht]
 have g0 : ∀ n c, k true = some r → ∃ b, k b = some r ∧ ((do eqGuard .eql t ox oy (.slice none n c) (.slice none 0 0); binOp .eql t (.slice none n c) (.slice none 0 0)) : Sem Value).run P w = .ok (.bool b) w ∧ ((do eqGuard .neq t ox oy (.slice none n c) (.slice none 0 0); binOp .neq t (.slice none n c) (.slice none 0 0)) : Sem Value).run P w = .ok (.bool (!b)) w :=
  fun n c hk => ⟨true, hk, by simp [eqGuard, binOp, Op.equal, Op.maxDepth, h0 9999], by simp [eqGuard, binOp, Op.equal, Op.maxDepth, h0 9999]⟩
 have g1 : ∀ ad n c, k false = some r → ∃ b, k b = some r ∧ ((do eqGuard .eql t ox oy (.slice (some ad) n c) (.slice none 0 0); binOp .eql t (.slice (some ad) n c) (.slice none 0 0)) : Sem Value).run P w = .ok (.bool b) w ∧ ((do eqGuard .neq t ox oy (.slice (some ad) n c) (.slice none 0 0); binOp .neq t (.slice (some ad) n c) (.slice none 0 0)) : Sem Value).run P w = .ok (.bool (!b)) w :=
  fun ad n c hk => ⟨false, hk, by simp [eqGuard, binOp, Op.equal, Op.maxDepth, h1 9999], by simp [eqGuard, binOp, Op.equal, Op.maxDepth, h1 9999]⟩
 unfold anz at hk
 split at hk
 ·simp only [V] at hx
  subst hx
  exact g0 0 0 hk
 ·simp only [V] at hx
  obtain ⟨ad, rfl⟩ := hx
  cases ad with
  | none => exact g0 0 0 (abX hk true)
  | some ad => exact g1 ad 0 0 (abX hk false)
 ·rename_i id
  rw [Option.bind_eq_some_iff] at hk
  obtain ⟨b, hb, hk⟩ := hk
  obtain ⟨l, hl, hbl⟩ := h.heap id b hb
  simp only [V] at hx
  obtain ⟨l', hl', ad, cap, rfl, hs, _⟩ := hx
  rw [hl] at hl'
  have := Option.some.inj hl'
  subst this
  cases hn : Nat.beq b.n 0 with
  | true =>
    rw [hn, cond_true] at hk
    cases ad with
    | none => exact g0 _ _ (abX hk true)
    | some ad => exact g1 ad _ _ (abX hk false)
  | false =>
    rw [hn, cond_false] at hk
    have hne : l.n ≠ 0 := by rw [hbl.hn]; exact qJ hn
    have hbk : l.backed = true := by
     cases hb' : l.backed with
     | true => rfl
     | false => exact absurd (hs.2.2 hb').1 hne
    obtain ⟨rfl, _⟩ := hs.2.1 hbk
    exact g1 _ _ _ hk
 ·rename_i id lo n
  simp only [V] at hx
  obtain ⟨l, _, _, ad, cap, rfl, _, ha, _⟩ := hx
  cases hn : Nat.beq n 0 with
  | true =>
    rw [hn, cond_true] at hk
    cases ad with
    | none => exact g0 _ _ (abX hk true)
    | some ad => exact g1 ad _ _ (abX hk false)
  | false =>
    rw [hn, cond_false] at hk
    have := ha (qJ hn)
    subst this
    exact g1 _ _ _ hk
 ·cases hk
theorem akj (hE : ab8 F E R) {o : Oper} {next : Act → World → Prop} {Q : Exit → Act → World → Prop} {k : St → Option α} (h : RelL F L st a w) (hg : Goes F k r next) (hk : alJ E o st k = some r) : o.wp E.P a w next Q := by
 unfold alJ at hk
 split at hk
 ·rename_i op t x y ty hop
  split at hk
  ·rename_i hy
   have hvy : a.eval y = .slice none 0 0 := by
    have := h.get y
    rw [hy] at this
    simpa only [V] using this
   split at hk
   ·rename_i e ht
    obtain ⟨b, hk, h1, _⟩ := an1 h (h.get x) hk ht x y
    refine kY (v := .bool b) (w' := w) ?_ (iw hg h (x := .bool b) (by simp only [V]) hk)
    rw [← hvy] at h1
    simp only [execOp, hop, Sem.run_bind] at h1 ⊢
    rw [h1]
    rfl
   ·rename_i e ht
    obtain ⟨b, hk, _, h1⟩ := an1 h (h.get x) hk ht x y
    refine kY (v := .bool (!b)) (w' := w) ?_ (iw hg h (x := .bool (!b)) (by simp only [V]) hk)
    rw [← hvy] at h1
    simp only [execOp, hop, Sem.run_bind] at h1 ⊢
    rw [h1]
    rfl
   ·cases hk
  ·exact afC hE h hg hk
 ·exact afC hE h hg hk
theorem agp (hE : ab8 F E R) {ops : Array Oper} {Q : Exit → Act → World → Prop} {k : St → Option α} (hg : Goes F k r (Q .normal)) : ∀ {rest : List Oper} {st : St} {a : Act} {w : World}, aeA E ops rest st k = some r → Rel F st a w → wpList E.P ops Q rest a w
 | [], st, a, w, hk, h => hg _ _ _ hk h
 | o :: rest, st, a, w, hk, ⟨L, h⟩ => by
   have hgo : Goes F (fun st => aeA E ops rest st k) r (wpList E.P ops Q rest) := fun st' a' w' hk hr => agp hE hg hk hr
   simp only [aeA] at hk
   unfold wpList
   split at hk
   ·rename_i hgd
    rw [if_pos (by simp [Region.wanted, hgd])]
    exact .inl (akj hE h hgo hk)
   ·rename_i j want hgd
    split at hk
    ·rename_i d b hy
     have hyy : yielded ops a.tmps j = some b ∧ a.tmps.getD d undef = .bool b := by
      unfold adp at hy
      rw [Option.bind_eq_some_iff] at hy
      obtain ⟨d', hd', hy⟩ := hy
      split at hy
      ·rename_i b' hs
       simp only [Option.some.injEq, Prod.mk.injEq] at hy
       obtain ⟨rfl, rfl⟩ := hy
       have hsl : st.slots[d']? = some (.bool b') := by
        simp only [List.getD] at hs
        cases hx : st.slots[d']? with
        | none => simp [hx] at hs
        | some y => simp [hx] at hs; rw [hs]
       have hv := h.slots d' _ hsl
       simp only [V] at hv
       refine ⟨?_, hv⟩
       unfold yielded
       rw [hd']
       simp only [Option.bind_some]
       have : a.tmps[d']? = some (.bool b') := by
        rw [Array.getD_eq_getD_getElem?] at hv
        cases hx : a.tmps[d']? with
        | none => simp [hx, undef] at hv
        | some y => simp [hx] at hv; rw [hv]
       rw [this]
      ·simp at hy
     obtain ⟨hy1, hy2⟩ := hyy
     cases b with
     | true =>
       rw [cond_true] at hk
       have h' := h.learn (d := d) (x := .bool true) (by rw [hy2]; simp [V])
       cases want with
       | true =>
         rw [cond_true] at hk
         rw [if_pos (by simp [Region.wanted, hgd, hy1])]
         exact .inl (akj hE h' hgo hk)
       | false =>
         rw [cond_false] at hk
         rw [if_neg (by simp [Region.wanted, hgd, hy1])]
         exact agp hE hg hk ⟨L, h'.put (apz _) o.dst⟩
     | false =>
       rw [cond_false] at hk
       have h' := h.learn (d := d) (x := .bool false) (by rw [hy2]; simp [V])
       cases want with
       | true =>
         rw [cond_true] at hk
         rw [if_neg (by simp [Region.wanted, hgd, hy1])]
         exact agp hE hg hk ⟨L, h'.put (apz _) o.dst⟩
       | false =>
         rw [cond_false] at hk
         rw [if_pos (by simp [Region.wanted, hgd, hy1])]
         exact .inl (akj hE h' hgo hk)
    ·obtain ⟨hv, hk⟩ := ifB hk
     have hno : yielded ops a.tmps j = none := by
      unfold aeS at hv
      unfold yielded
      split at hv
      ·rename_i d hd
       rw [hd]
       simp only [Option.bind_some]
       split at hv
       ·rename_i l hs
        split at hv
        ·have hx := h.get (.tmp d)
         simp only [St.get, hs, V, Act.eval] at hx
         obtain ⟨arr, he, _⟩ := hx
         rw [Array.getD_eq_getD_getElem?] at he
         cases hx : a.tmps[d]? with
         | none => rfl
         | some y =>
           rw [hx] at he
           simp only [Option.getD_some] at he
           rw [he]
        ·cases hv
       ·cases hv
      ·cases hv
     rw [if_neg (by simp [Region.wanted, hgd, hno])]
     exact agp hE hg hk ⟨L, h.put (apz _) o.dst⟩
def Wk (x y : AV) : Prop := ∀ L v, V L x v → V L y v
def QW : List AV → List AV → Prop
 | [], [] => True
 | x :: xs, y :: ys => Wk x y ∧ QW xs ys
 | _, _ => False
theorem ajv {L : LM} : ∀ {xs ys : List AV} {vs : List Value}, QW xs ys → VAll L xs vs → VAll L ys vs
 | [], [], vs, _, h => h
 | x :: xs, y :: ys, [], _, h => by simp [VAll] at h
 | x :: xs, y :: ys, v :: vs, hw, h => by
   simp only [QW] at hw
   simp only [VAll] at h ⊢
   exact ⟨hw.1 L v h.1, ajv hw.2 h.2⟩
 | [], _ :: _, _, hw, _ => by simp [QW] at hw
 | _ :: _, [], _, hw, _ => by simp [QW] at hw
theorem aje : ∀ {xs ys : List AV} {i : Nat} {y : AV}, QW xs ys → ys[i]? = some y → ∃ x, xs[i]? = some x ∧ Wk x y
 | [], [], i, y, _, h => by simp at h
 | x :: xs, z :: ys, i, y, hw, h => by
   simp only [QW] at hw
   cases i with
   | zero => simp at h; subst h; exact ⟨x, rfl, hw.1⟩
   | succ i => simpa using aje hw.2 (by simpa using h)
 | [], _ :: _, _, _, hw, _ => by simp [QW] at hw
 | _ :: _, [], _, _, hw, _ => by simp [QW] at hw
theorem adk : ∀ {xs ys : List AV}, QW xs ys → xs.length = ys.length
 | [], [], _ => rfl
 | x :: xs, y :: ys, h => by simp only [QW] at h; simp [adk h.2]
 | [], _ :: _, h => by simp [QW] at h
 | _ :: _, [], h => by simp [QW] at h
mutual
theorem apY : ∀ (s : Sk) (x : AV) (p q : List P1), WW s x = some p → ∃ y, Oj s (p ++ q) = some (y, q) ∧ Wk x y
 | .any, x, p, q, h => by
   simp only [WW, Option.some.injEq] at h
   subst h
   exact ⟨.undef, by simp [Oj], fun L v _ => by simp [V]⟩
 | .int k, .int k' n, p, q, h => by
   simp only [WW] at h
   split at h
   ·rename_i e
    subst e
    simp at h
    subst h
    exact ⟨.int k n, by simp [Oj], fun _ _ h => h⟩
   ·simp at h
 | .bool, .bool b, p, q, h => by
   simp only [WW, Option.some.injEq] at h
   subst h
   exact ⟨.bool b, by simp [Oj], fun _ _ h => h⟩
 | .str, .str b, p, q, h => by
   simp only [WW, Option.some.injEq] at h
   subst h
   exact ⟨.str b, by simp [Oj], fun _ _ h => h⟩
 | .lit k n, .int k' m, p, q, h => by
   simp only [WW] at h
   split at h
   ·rename_i e
    split at h
    ·rename_i e2
     subst e e2
     simp only [Option.some.injEq] at h
     subst h
     exact ⟨.int k m, by simp [Oj], fun _ _ h => h⟩
    ·cases h
   ·cases h
 | .nilptr, .nilptr, p, q, h => by
   simp only [WW, Option.some.injEq] at h
   subst h
   exact ⟨.nilptr, by simp [Oj], fun _ _ h => h⟩
 | .nilsl, .nilsl, p, q, h => by
   simp only [WW, Option.some.injEq] at h
   subst h
   exact ⟨.nilsl, by simp [Oj], fun _ _ h => h⟩
 | .emp, .emp, p, q, h => by
   simp only [WW, Option.some.injEq] at h
   subst h
   exact ⟨.emp, by simp [Oj], fun _ _ h => h⟩
 | .ptr i r c, .ptr i' r' c', p, q, h => by
   simp only [WW] at h
   obtain ⟨hc, h⟩ := ifB h
   simp only [Bool.and_eq_true] at hc
   have h1 := gY hc.1
   have h2 := gY hc.2.1
   have h3 := gY hc.2.2
   simp at h
   subst h h1 h2 h3
   exact ⟨.ptr i r c, by simp [Oj], fun _ _ h => h⟩
 | .sl i, .sl i', p, q, h => by
   simp only [WW] at h
   obtain ⟨hc, h⟩ := ifB h
   have h1 := gY hc
   simp at h
   subst h h1
   exact ⟨.sl i, by simp [Oj], fun _ _ h => h⟩
 | .sub i, .sub i' lo n, p, q, h => by
   simp only [WW] at h
   obtain ⟨hc, h⟩ := ifB h
   have h1 := gY hc
   simp at h
   subst h h1
   exact ⟨.sub i lo n, by simp [Oj], fun _ _ h => h⟩
 | .map i, .map i', p, q, h => by
   simp only [WW] at h
   obtain ⟨hc, h⟩ := ifB h
   have h1 := gY hc
   simp at h
   subst h h1
   exact ⟨.map i, by simp [Oj], fun _ _ h => h⟩
 | .agg s, .agg l, p, q, h => by
   simp only [WW] at h
   obtain ⟨ys, hy, hw⟩ := aad s l p q h
   exact ⟨.agg ys, by simp [Oj, hy], fun L v hv => by
    simp only [V] at hv ⊢
    obtain ⟨arr, rfl, hv⟩ := hv
    exact ⟨arr, rfl, ajv hw hv⟩⟩
 | .tup s, .tup l, p, q, h => by
   simp only [WW] at h
   obtain ⟨ys, hy, hw⟩ := aad s l p q h
   exact ⟨.tup ys, by simp [Oj, hy], fun L v hv => by
    simp only [V] at hv ⊢
    obtain ⟨arr, rfl, hv⟩ := hv
    exact ⟨arr, rfl, ajv hw hv⟩⟩
 | .fn f s, .fn f' l, p, q, h => by
   simp only [WW] at h
   obtain ⟨hc, h2⟩ := ifB h
   clear h
   have h1 := gY hc
   subst h1
   obtain ⟨ys, hy, hw⟩ := aad s l p q h2
   exact ⟨.fn f ys, by simp [Oj, hy], fun L v hv => by
    simp only [V] at hv ⊢
    obtain ⟨arr, rfl, hv⟩ := hv
    exact ⟨arr, rfl, ajv hw hv⟩⟩
theorem aad : ∀ (s : List Sk) (xs : List AV) (p q : List P1), ads s xs = some p → ∃ ys, ab5 s (p ++ q) = some (ys, q) ∧ QW xs ys
 | [], [], p, q, h => by
   simp only [ads, Option.some.injEq] at h
   subst h
   exact ⟨[], by simp [ab5], by simp [QW]⟩
 | s :: ss, x :: xs, p, q, h => by
   simp only [ads, Option.bind_eq_some_iff, Option.map_eq_some_iff] at h
   obtain ⟨p1, h1, p2, h2, rfl⟩ := h
   obtain ⟨y, hy, hw⟩ := apY s x p1 (p2 ++ q) h1
   obtain ⟨ys, hys, hws⟩ := aad ss xs p2 q h2
   exact ⟨y :: ys, by simp [ab5, List.append_assoc, hy, hys], by simp [QW, hw, hws]⟩
end
theorem apW {s : BSk} {b : Blk} {p : List P1} (q : List P1) (h : aax s b = some p) : ∃ c, ahq s (p ++ q) = some (c, q) ∧ c.mode = b.mode ∧ c.e = b.e ∧ c.w = b.w ∧ c.n = b.n ∧ QW b.flat c.flat ∧ (c.isMap = true → c = b) := by
 have refl : ∀ xs : List AV, QW xs xs := by
  intro xs
  induction xs with
  | nil => simp [QW]
  | cons x r ih => exact ⟨fun _ _ h => h, ih⟩
 cases s with
 | map e kt vt =>
   cases b with
   | mix => simp [aax] at h
   | rows => simp [aax] at h
   | map e' kt' vt' ks vs =>
     simp only [aax] at h
     obtain ⟨hc, h⟩ := ifB h
     have h1 := gY hc
     subst h1
     split at h
     ·rename_i e3
      subst e3
      split at h
      ·rename_i e4
       subst e4
       simp at h
       subst h
       exact ⟨.map e kt' vt' ks vs, by simp [ahq], rfl, rfl, rfl, rfl, refl _, fun _ => rfl⟩
      ·simp at h
     ·simp at h
 | ints m e k n =>
   cases b with
   | map => simp [aax] at h
   | mix => simp [aax] at h
   | rows m' e' t' l =>
     cases t' with
     | int k' =>
       simp only [aax] at h
       obtain ⟨hc, h4⟩ := ifB h
       clear h
       simp only [Bool.and_eq_true] at hc
       have h1 := gY hc.1
       have h2 := gY hc.2.1
       have h3 := gY hc.2.2
       subst h1 h2
       split at h4
       ·rename_i e3
        subst e3
        have hp := Option.some.inj h4
        subst hp
        have key : ∀ (l : List Int) (q : List P1), af4 l.length (l.map P1.int ++ q) = some (l, q) := by
         intro l
         induction l with
         | nil => intro q; simp [af4]
         | cons x r ih => intro q; simp [af4, ih q]
        have hk := key l q
        rw [h3] at hk
        exact ⟨.rows m e (.int k) l, by simp [ahq, hk], rfl, rfl, rfl, rfl, refl _, fun e => by cases e⟩
       ·simp at h4
     | _ => simp [aax] at h
 | rows m e t =>
   cases b with
   | map => simp [aax] at h
   | mix => simp [aax] at h
   | rows m' e' t' l =>
     simp only [aax] at h
     obtain ⟨hc, h⟩ := ifB h
     simp only [Bool.and_eq_true] at hc
     have h1 := gY hc.1
     have h2 := gY hc.2
     subst h1 h2
     split at h
     ·rename_i e3
      subst e3
      simp at h
      subst h
      exact ⟨.rows m e t' l, by simp [ahq], rfl, rfl, rfl, rfl, refl _, fun e => by cases e⟩
     ·simp at h
 | mix m e s =>
   cases b with
   | map => simp [aax] at h
   | rows => simp [aax] at h
   | mix m' e' l =>
     simp only [aax] at h
     obtain ⟨hc, h3⟩ := ifB h
     clear h
     simp only [Bool.and_eq_true] at hc
     have h1 := gY hc.1
     have h2 := gY hc.2
     subst h1 h2
     obtain ⟨ys, hy, hw⟩ := aad s l p q h3
     exact ⟨.mix m e ys, by simp [ahq, hy], rfl, rfl, rfl, (adk hw).symm, hw, fun e => by cases e⟩
theorem ajN {h : Heap} : ∀ {s : List (Nat × BSk)} {p : List P1} (q : List P1), ak9 h s = some p → ∃ g, ai0 s (p ++ q) = some (g, q) ∧
 ∀ id c, look g id = some c → ∃ b, look h id = some b ∧ c.mode = b.mode ∧ c.e = b.e ∧ c.w = b.w ∧ c.n = b.n ∧ QW b.flat c.flat ∧ (c.isMap = true → c = b)
 | [], p, q, hp => by
   simp only [ak9, Option.some.injEq] at hp
   subst hp
   exact ⟨[], by simp [ai0], fun id c hc => by simp [look] at hc⟩
 | (i, s) :: r, p, q, hp => by
   simp only [ak9, Option.bind_eq_some_iff, Option.map_eq_some_iff] at hp
   obtain ⟨b, hb, p1, h1, p2, h2, rfl⟩ := hp
   obtain ⟨c, hc, hfacts⟩ := apW (p2 ++ q) h1
   obtain ⟨g, hg, hg2⟩ := ajN q h2
   refine ⟨(i, c) :: g, by simp [ai0, List.append_assoc, hc, hg], fun id d hd => ?_⟩
   simp only [look] at hd
   cases hi : Nat.beq i id with
   | true =>
     rw [hi, cond_true] at hd
     have := gY hi
     subst this
     have := Option.some.inj hd
     subst this
     exact ⟨b, hb, hfacts⟩
   | false =>
     rw [hi, cond_false] at hd
     exact hg2 id d hd
theorem apD {t : Tpl} {p : List P1} (h : t.take0 st = some p) : ∃ st', t.build p = some st' ∧ ∀ a w, Rel F st a w → Rel F st' a w := by
 unfold Tpl.take0 at h
 simp only [Option.bind_eq_some_iff, Option.map_eq_some_iff] at h
 obtain ⟨p1, h1, p2, h2, rfl⟩ := h
 obtain ⟨ys, hy, hw⟩ := aad t.slots st.slots p1 p2 h1
 obtain ⟨g, hg, hg2⟩ := ajN [] h2
 rw [List.append_nil] at hg
 refine ⟨⟨ys, g⟩, by simp [Tpl.build, hy, hg], fun a w ⟨L, hr⟩ => ⟨L, ?_⟩⟩
 refine { hr with len := by rw [← hr.len]; exact (adk hw).symm, slots := fun i y hy => ?_, heap := fun id c hc => ?_, inj := fun i j b c l m hi hj hl hm hne hbl hbm h1 h2 => ?_, maps := hr.maps.tr _root_.id (fun j b hj hm => ?_) (fun _ _ _ _ _ _ _ _ h => h) (fun _ _ _ _ h => h) }
 ·obtain ⟨x, hx, hwx⟩ := aje hw hy
  exact hwx L _ (hr.slots i x hx)
 ·obtain ⟨b, hb, e1, e2, e3, e4, hwb, _⟩ := hg2 id c hc
  obtain ⟨l, hL, hbl⟩ := hr.heap id b hb
  have hlen := adk hwb
  refine ⟨l, hL, ⟨by rw [e3]; exact hbl.hw, by rw [e4]; exact hbl.hn, by rw [e1]; exact hbl.hm, by rw [e1]; exact hbl.le, fun hbk i y hi => ?_, fun hbk hm hf => hbl.ro hbk (by rw [← e1]; exact hm) (fun e => hf ?_), fun hbk hm => ?_, fun hbk hm => hbl.m1 hbk (by rw [← e1]; exact hm), fun hbk hm => hbl.m2 hbk (by rw [← e1]; exact hm), fun hbk => ?_⟩⟩
  ·obtain ⟨x, hx, hwx⟩ := aje hwb hi
   obtain ⟨v, hv, hV, h1⟩ := hbl.cells hbk i x hx
   exact ⟨v, hv, hwx L v hV, h1⟩
  ·rw [e] at hlen
   exact List.eq_nil_of_length_eq_zero hlen.symm
  ·rw [e2, ← hlen]
   exact hbl.own hbk (by rw [← e1]; exact hm)
  ·have h0 := hbl.nb hbk
   rw [h0] at hlen
   exact List.eq_nil_of_length_eq_zero hlen.symm
 ·obtain ⟨b1, hb1, _⟩ := hg2 i b hi
  obtain ⟨c1, hc1, _⟩ := hg2 j c hj
  exact hr.inj i j b1 c1 l m hb1 hc1 hl hm hne hbl hbm h1 h2
 ·obtain ⟨b1, hb1, _, _, _, _, _, hmm⟩ := hg2 j b hj
  rw [hmm hm]
  exact ⟨hb1, rfl⟩
theorem afm {t : Tpl} {p : List P1} (h : t.take F.low st = some p) : ∃ st', t.build p = some st' ∧ ∀ a w, Rel F st a w → Rel F st' a w := by
 unfold Tpl.take at h
 obtain ⟨st', h1, h2⟩ := apD (F := F) h
 exact ⟨st', h1, fun a w hr => h2 a w (akL hr)⟩
def afS (P : Program) (c : Code) (Q : Exit → Act → World → Prop) (a : Act) (w : World) : Prop :=
 ∀ (b : Frame) (k : List Item) (cs : List Frame), ∃ e a' w', Q e a' w' ∧ Arrives P (lone (b.at a (.code c :: .inLoop c :: k)) cs w) b k cs e a' w'
theorem agW {c : Code} {Q : Exit → Act → World → Prop} (h : c.wp P (Exit.then (afS P c Q) Q) a w) : afS P c Q a w := by
 intro b k cs
 obtain ⟨e, a₁, w₁, hq, harr⟩ := h b (.inLoop c :: k) cs
 cases e with
 | normal =>
   obtain ⟨e₂, a₂, w₂, hq₂, harr₂⟩ := hq b k cs
   exact ⟨e₂, a₂, w₂, hq₂, .of_steps (Steps.trans harr (.one step_inLoop)) harr₂⟩
 | exit id => exact ⟨_, a₁, w₁, hq, .pass (x := .inLoop c) rfl (fun _ _ => .inl (by simp)) harr⟩
 | goto l => exact ⟨_, a₁, w₁, hq, .pass (x := .inLoop c) rfl (fun _ _ => .inl (by simp)) harr⟩
 | ret => exact ⟨_, a₁, w₁, hq, .pass (x := .inLoop c) rfl (fun _ _ => .inl (by simp)) harr⟩
 | panic ch => exact ⟨_, a₁, w₁, hq, .pass (x := .inLoop c) rfl (fun _ _ => .inl (by simp)) harr⟩
 | outgrown => exact ⟨_, a₁, w₁, hq, .pass (x := .inLoop c) rfl (fun _ _ => .inl (by simp)) harr⟩
theorem amd {c : Code} {Q : Exit → Act → World → Prop} (h : afS P c Q a w) : (Code.loop c).wp P Q a w := by
 intro b k cs
 obtain ⟨e, a', w', hq, harr⟩ := h b k cs
 exact ⟨e, a', w', hq, .of_steps (.one step_loop) harr⟩
def NJ (F : Fix) (R : Res → Act → World → Prop) : Out → Exit → Act → World → Prop
 | .normal st, .normal, a, w => Rel F st a w
 | .exit i st, .exit j, a, w => i = j ∧ Rel F st a w
 | .ret rr, .ret, a, w => R rr a w
 | _, _, _, _ => False
def Post (F : Fix) (R : Res → Act → World → Prop) (k : Out → Option α) (r : α) : Exit → Act → World → Prop := fun e a w => ∃ out, k out = some r ∧ NJ F R out e a w
def aiA (P : Program) (F : Fix) (R : Res → Act → World → Prop) (b : Code) (T : Lp α) : Prop :=
 ∀ (r : α) (p : List P1) (brk : Nat → List P1 → Option α) (ret : Res → Option α), T.run p brk ret = some r → ∀ st, T.tpl.build p = some st → ∀ a w, Rel F st a w →
   afS P b (fun e a w => (∃ j q st', e = .exit j ∧ brk j q = some r ∧ T.tpl.build q = some st' ∧ Rel F st' a w) ∨ (∃ rr, e = .ret ∧ ret rr = some r ∧ R rr a w)) a w
def Zz (F : Fix) (R : Res → Act → World → Prop) (E : Env α) : Code → Prop
 | .seq a b => Zz F R E a ∧ Zz F R E b
 | .cond _ a b => Zz F R E a ∧ Zz F R E b
 | .block _ b => Zz F R E b
 | .loop b => Zz F R E b ∧ (∀ T, (qX b).bind E.lp = some T → aiA E.P F R b T) ∧ ∀ T, ((qX b).bind fun i => E.lp (i + 100000)) = some T → aiA E.P F R b T
 | _ => True
theorem azD {t : Option Tpl} {k : St → Option α} (hk : ag3 F.low t st k = some r) (h : Rel F st a w) : ∃ st', k st' = some r ∧ Rel F st' a w := by
 unfold ag3 at hk
 cases t with
 | none => exact ⟨st, hk, h⟩
 | some t =>
   simp only [Option.bind_eq_some_iff] at hk
   obtain ⟨p, hp, st', hst', hk⟩ := hk
   obtain ⟨st2, hst2, hrel⟩ := afm (F := F) hp
   rw [hst'] at hst2
   cases hst2
   exact ⟨st', hk, hrel a w h⟩
theorem afn (hE : ab8 F E R) : ∀ (c : Code), Zz F R E c → ∀ {st : St} {a : Act} {w : World} {k : Out → Option α} {r : α}, ev E c st k = some r → Rel F st a w → c.wp E.P (Post F R k r) a w
 | .skip, _, st, a, w, k, r, hk, h => by
   simp only [ev] at hk
   exact wp_skip ⟨_, hk, h⟩
 | .label l, _, st, a, w, k, r, hk, h => by
   simp only [ev] at hk
   exact wp_label ⟨_, hk, h⟩
 | .ret, _, st, a, w, k, r, hk, h => by
   simp only [ev] at hk
   obtain ⟨rr, hk, hR⟩ := hE.res _ _ _ _ _ hk h
   exact wp_ret ⟨_, hk, hR⟩
 | .exit id, _, st, a, w, k, r, hk, h => by
   simp only [ev] at hk
   exact wp_exit ⟨_, hk, rfl, h⟩
 | .region id ops draw, _, st, a, w, k, r, hk, h => by
   simp only [ev] at hk
   rw [hE.low] at hk
   obtain ⟨st, hk, h⟩ := azD hk h
   unfold afY at hk
   cases draw with
   | true =>
     rw [cond_true] at hk
     exact atZ hE (k := fun st => k (.normal st)) (fun st' a' w' hk hr => ⟨.normal st', hk, hr⟩) hk h
   | false =>
     rw [cond_false] at hk
     exact wp_region_list (agp hE (Q := Post F R k r) (fun st' a' w' hk hr => ⟨.normal st', hk, hr⟩) hk h)
 | .seq x y, hl, st, a, w, k, r, hk, h => by
   simp only [ev] at hk
   refine wp_seq (wp_mono (afn hE x hl.1 hk h) fun e a' w' ⟨out, ho, hr⟩ => ?_)
   cases out with
   | normal st' =>
     cases e <;> simp only [NJ] at hr
     exact afn hE y hl.2 ho hr
   | exit j st' =>
     cases e <;> simp only [NJ] at hr
     exact ⟨_, ho, hr⟩
   | ret rr =>
     cases e <;> simp only [NJ] at hr
     exact ⟨_, ho, hr⟩
 | .cond c x y, hl, st, a, w, k, r, hk, h => by
   simp only [ev] at hk
   split at hk
   ·rename_i t hc
    have hv : a.eval c = .bool t := by
     obtain ⟨L, hr⟩ := h
     have := hr.get c
     rw [hc] at this
     simpa only [V] using this
    cases t with
    | true => exact wp_cond_true hv (afn hE x hl.1 hk h)
    | false => exact wp_cond_false hv (afn hE y hl.2 hk h)
   ·simp at hk
 | .block id b, hl, st, a, w, k, r, hk, h => by
   simp only [ev] at hk
   refine wp_block (wp_mono (afn hE b hl hk h) fun e a' w' ⟨out, ho, hr⟩ => ?_)
   cases out with
   | normal st' =>
     cases e <;> simp only [NJ] at hr
     exact ⟨_, ho, hr⟩
   | exit j st' =>
     cases e <;> simp only [NJ] at hr
     rename_i j'
     obtain ⟨rfl, hr⟩ := hr
     simp only at ho
     simp only [Exit.inBlock]
     cases hj : Nat.beq j id with
     | true =>
       rw [hj, cond_true] at ho
       rw [if_pos (gY hj)]
       exact ⟨_, ho, hr⟩
     | false =>
       rw [hj, cond_false] at ho
       rw [if_neg (qJ hj)]
       exact ⟨_, ho, rfl, hr⟩
   | ret rr =>
     cases e <;> simp only [NJ] at hr
     exact ⟨_, ho, hr⟩
 | .loop b, hl, st, a, w, k, r, hk, h => by
   simp only [ev] at hk
   split at hk
   ·
     have key : ∀ (n : Nat) {st : St} {a : Act} {w : World}, aiK (fun st k => ev E b st k) n st k = some r → Rel F st a w → afS E.P b (Post F R k r) a w := by
      intro n
      induction n with
      | zero => intro st a w hk; simp [aiK] at hk
      | succ n ih =>
        intro st a w hk h
        simp only [aiK] at hk
        refine agW (wp_mono (afn hE b hl.1 hk h) fun e a' w' ⟨out, ho, hr⟩ => ?_)
        cases out with
        | normal st' =>
          cases e <;> simp only [NJ] at hr
          exact ih ho hr
        | exit j st' =>
          cases e <;> simp only [NJ] at hr
          exact ⟨_, ho, hr⟩
        | ret rr =>
          cases e <;> simp only [NJ] at hr
          exact ⟨_, ho, hr⟩
     exact amd (key 40 hk h)
   ·rename_i T hT
    have told1 : ∀ {T : Lp α}, aiA E.P F R b T → ∀ {st : St} {a : Act} {w : World} {p : List P1}, T.tpl.take E.low st = some p → T.run p (fun j q => (T.tpl.build q).bind fun st' => k (.exit j st')) (fun r => k (.ret r)) = some r → Rel F st a w → afS E.P b (Post F R k r) a w := by
     intro T hok st a w p hp hk h
     rw [hE.low] at hp
     obtain ⟨st', hst', hrel⟩ := afm (F := F) hp
     intro fr ks cs
     obtain ⟨e, a', w', hq, harr⟩ := hok r p _ _ hk st' hst' a w (hrel a w h) fr ks cs
     refine ⟨e, a', w', ?_, harr⟩
     rcases hq with ⟨j, q, st2, rfl, hb, hst2, hr⟩ | ⟨rr, rfl, hrr, hR⟩
     ·rw [Option.bind_eq_some_iff] at hb
      obtain ⟨st3, hst3, hb⟩ := hb
      rw [hst2] at hst3
      have := Option.some.inj hst3
      subst this
      exact ⟨_, hb, rfl, hr⟩
     ·exact ⟨_, hrr, hR⟩
    have told : ∀ {st : St} {a : Act} {w : World}, anH E b T st k = some r → Rel F st a w → afS E.P b (Post F R k r) a w := by
     intro st a w hk h
     unfold anH at hk
     split at hk
     ·rename_i p hp
      exact told1 (hl.2.1 T hT) hp hk h
     ·rw [Option.bind_eq_some_iff] at hk
      obtain ⟨T2, hT2, hk⟩ := hk
      rw [Option.bind_eq_some_iff] at hk
      obtain ⟨p, hp, hk⟩ := hk
      exact told1 (hl.2.2 T2 hT2) hp hk h
    cases hp : T.tpl.peel with
    | false =>
      rw [hp, cond_false] at hk
      exact amd (told hk h)
    | true =>
      rw [hp, cond_true] at hk
      refine amd (agW (wp_mono (afn hE b hl.1 hk h) fun e a' w' ⟨out, ho, hr⟩ => ?_))
      cases out with
      | normal st' =>
        cases e <;> simp only [NJ] at hr
        exact told ho hr
      | exit j st' =>
        cases e <;> simp only [NJ] at hr
        exact ⟨_, ho, hr⟩
      | ret rr =>
        cases e <;> simp only [NJ] at hr
        exact ⟨_, ho, hr⟩
 | .rangeFunc _ _ _ _, _, _, _, _, _, _, hk, _ => by simp [ev] at hk
 | .scope _, _, _, _, _, _, _, hk, _ => by simp [ev] at hk
 | .goto _, _, _, _, _, _, _, hk, _ => by simp [ev] at hk
 | .refuse _, _, _, _, _, _, _, hk, _ => by simp [ev] at hk
end Go.Ev
