/- The evaluator held against the model: regions, code, loops. -/
import Derived.Test.YthjehhoafmnmkaaEvPrep
namespace Go.Ev
open Go.RowKit
variable {α : Type} {P : Program} {w : World} {F : Fix} {L : LM} {st : St} {a : Act} {r : α} {R : Res → Act → World → Prop} {E : Env α}
section
variable [Inhabited az]
theorem RelL.learn (h : RelL F L st a w) {d : Nat} {x : AV} (hv : V L x (a.tmps.getD d undef)) : RelL F L (st.put (some d) x) a w := by
 refine { h with len := by simp [St.put, h.len], slots := fun i y hy => ?_ }
 simp only [St.put, List.getElem?_set] at hy
 split at hy
 ·rename_i e
  subst e
  split at hy
  ·simp at hy
   subst hy
   exact hv
  ·simp at hy
 ·exact h.slots i y hy
end
theorem adr (L : LM) : V L (.tup []) undef := ⟨#[], rfl, by simp [VAll]⟩
theorem ag0 {a b : Option α} (h : both a b = some r) : a = some r ∧ b = some r := by
 unfold both at h
 by_cases e : a = b
 ·rw [if_pos e] at h
  exact ⟨h, e ▸ h⟩
 ·rw [if_neg e] at h
  cases h
theorem CJ {two : Bool} {k : Bool → Option α} (h : aap two k = some r) (b : Bool) : k b = some r := by
 unfold aap at h
 cases two with
 | false => cases h
 | true =>
   obtain ⟨h1, h2⟩ := ag0 h
   cases b <;> assumption
section
variable [Inhabited az]
theorem acT (h : RelL F L st a w) {two : Bool} {X : AV} {x : Value} (hx : V L X x) {k : Bool → Option α} (hk : acs two st.heap X k = some r) {t : TypeId} {e : TypeId} (ht : P.underlying t = some (.slice e)) (ox oy : Operand) :
 ∃ b, k b = some r ∧ ((do eqGuard .eql t ox oy x (.slice none 0 0); binOp .eql t x (.slice none 0 0)) : Sem Value).run P w = .ok (.bool b) w ∧ ((do eqGuard .neq t ox oy x (.slice none 0 0); binOp .neq t x (.slice none 0 0)) : Sem Value).run P w = .ok (.bool (!b)) w := by
 have h0 : ∀ d n c, (Op.equalIn (d + 1) t (.slice none n c) (.slice none 0 0)).run P w = .ok true w := fun d n c => by simp [Op.equalIn, run_underlying ht]
 have h1 : ∀ d ad n c, (Op.equalIn (d + 1) t (.slice (some ad) n c) (.slice none 0 0)).run P w = .ok false w := fun d ad n c => by simp [Op.equalIn, run_underlying ht]
 have g0 : ∀ n c, k true = some r → ∃ b, k b = some r ∧ ((do eqGuard .eql t ox oy (.slice none n c) (.slice none 0 0); binOp .eql t (.slice none n c) (.slice none 0 0)) : Sem Value).run P w = .ok (.bool b) w ∧ ((do eqGuard .neq t ox oy (.slice none n c) (.slice none 0 0); binOp .neq t (.slice none n c) (.slice none 0 0)) : Sem Value).run P w = .ok (.bool (!b)) w :=
  fun n c hk => ⟨true, hk, by simp [eqGuard, binOp, Op.equal, Op.maxDepth, h0 9999], by simp [eqGuard, binOp, Op.equal, Op.maxDepth, h0 9999]⟩
 have g1 : ∀ ad n c, k false = some r → ∃ b, k b = some r ∧ ((do eqGuard .eql t ox oy (.slice (some ad) n c) (.slice none 0 0); binOp .eql t (.slice (some ad) n c) (.slice none 0 0)) : Sem Value).run P w = .ok (.bool b) w ∧ ((do eqGuard .neq t ox oy (.slice (some ad) n c) (.slice none 0 0); binOp .neq t (.slice (some ad) n c) (.slice none 0 0)) : Sem Value).run P w = .ok (.bool (!b)) w :=
  fun ad n c hk => ⟨false, hk, by simp [eqGuard, binOp, Op.equal, Op.maxDepth, h1 9999], by simp [eqGuard, binOp, Op.equal, Op.maxDepth, h1 9999]⟩
 unfold acs at hk
 split at hk
 ·simp only [V] at hx
  subst hx
  exact g0 0 0 hk
 ·simp only [V] at hx
  obtain ⟨ad, rfl⟩ := hx
  cases ad with
  | none => exact g0 0 0 (CJ hk true)
  | some ad => exact g1 ad 0 0 (CJ hk false)
 ·rename_i id
  rw [Option.bind_eq_some_iff] at hk
  obtain ⟨b, hb, hk⟩ := hk
  obtain ⟨l, hl, hbl⟩ := h.heap id b hb
  simp only [V] at hx
  obtain ⟨l', hl', ad, cap, rfl, hs, _⟩ := hx
  rw [hl] at hl'
  have := Option.some.inj hl'
  subst this
  cases hn : Nat.beq b.n 0 with
  | true =>
    rw [hn, cond_true] at hk
    cases ad with
    | none => exact g0 _ _ (CJ hk true)
    | some ad => exact g1 ad _ _ (CJ hk false)
  | false =>
    rw [hn, cond_false] at hk
    have hne : l.n ≠ 0 := by rw [hbl.hn]; exact gW hn
    have hbk : l.backed = true := by
     cases hb' : l.backed with
     | true => rfl
     | false => exact absurd (hs.2.2 hb').1 hne
    obtain ⟨rfl, _⟩ := hs.2.1 hbk
    exact g1 _ _ _ hk
 ·rename_i id lo n
  simp only [V] at hx
  obtain ⟨l, _, _, ad, cap, rfl, _, ha, _⟩ := hx
  cases hn : Nat.beq n 0 with
  | true =>
    rw [hn, cond_true] at hk
    cases ad with
    | none => exact g0 _ _ (CJ hk true)
    | some ad => exact g1 ad _ _ (CJ hk false)
  | false =>
    rw [hn, cond_false] at hk
    have := ha (gW hn)
    subst this
    exact g1 _ _ _ hk
 ·cases hk
end
theorem FQ {eb : TypeId} {id : Nat} : ∀ {h : Heap}, aan eb id h = true → ∀ {j : Nat} {b : Blk}, look h j = some b → j ≠ id → b.isBld = false ∧ (b.mode = 2 → b.e ≠ eb)
 | [], _, j, b, hl, _ => by simp [look] at hl
 | (i, c) :: r, hs, j, b, hl, hne => by
   simp only [aan, Bool.and_eq_true] at hs
   simp only [look] at hl
   cases hi : Nat.beq i j with
   | true =>
     rw [hi, cond_true] at hl
     cases Option.some.inj hl
     have hij := ay hi
     subst hij
     have h1 := hs.1
     have hb : Nat.beq i id = false := by cases hh : Nat.beq i id with
      | true => exact absurd (ay hh) hne
      | false => rfl
     rw [hb, Bool.false_or, Bool.not_eq_true', Bool.or_eq_false_iff] at h1
     refine ⟨h1.1, fun hm he => ?_⟩
     have h2 := h1.2
     rw [hm, he] at h2
     have e1 : Nat.beq 2 2 = true := rfl
     have e2 : Nat.beq eb eb = true := by simp
     rw [e1, e2] at h2
     cases h2
   | false =>
     rw [hi, cond_false] at hl
     exact FQ hs.2 hl hne
section
variable [Inhabited az]
theorem acd (h : RelL F L st a w) {id : Nat} {e eb : TypeId} {s s' : ByteArray} {l : Loc} (hb : look st.heap id = some (.bld e eb s)) (hL : L id = some l) (hne : e ≠ eb) (hsolo : aan eb id st.heap = true) (hq : ¬ Qt) {w' : World}
 (hB : Lib.IsBuilderF e eb F.N l.b (Lib.strCells s') w') (hbe : Below F.N w w') (hok : Lib.OthersKept eb (some l.b) w w') : RelL F L { st with heap := upd st.heap id (.bld e eb s') } a w' := by
 have hB0 : Lib.IsBuilderF e eb F.N l.b (Lib.strCells s) w := by
  obtain ⟨l2, hL2, _, hB0⟩ := h.maps.bat id e eb s hb
  rw [hL] at hL2
  cases hL2
  exact hB0
 obtain ⟨p, v, hcur, _, _⟩ := Ox hB0
 let S : Nat → Prop := fun k => k = l.b ∨ (F.N ≤ k ∧ ∃ cur fz, w.heap[k]? = some (.cells cur eb fz))
 have hS : Step w w' S := ⟨hbe.os, hbe.tape, hbe.output, hbe.size, fun k hk hn => by
  rcases Nat.lt_or_ge k F.N with h1 | h1
  ·exact hbe.block k h1
  ·have e1 : w.heap[k]? = some w.heap[k] := Array.getElem?_eq_getElem hk
   rw [e1]
   exact hok k _ e1 (fun e2 => hn (.inl (Option.some.inj e2))) (fun c fz e2 => hn (.inr ⟨h1, c, fz, by rw [e1, e2]⟩)), fun q => absurd q hq⟩
 have hhid : Hid L st.heap w l.b := ⟨id, e, eb, s, l, hb, hL, .inl rfl⟩
 have hvis : ∀ j b m, look st.heap j = some b → L j = some m → m.backed = true → b.flat ≠ [] ∨ b.mode ≠ 0 → ¬ S m.b := fun j b m hj hm hbk hor hs => by
  rcases hs with hs | ⟨hN, cur, fz, hc⟩
  ·exact h.apart hhid hj hm hbk hor hs
  ·obtain ⟨m2, hm2, hbl⟩ := h.heap j b hj
   rw [hm] at hm2
   cases hm2
   by_cases hz : b.mode = 0
   ·have := (hbl.ro hbk hz (hor.resolve_right fun e => e hz)).1
    omega
   ·have hle := hbl.le
    rcases (show b.mode = 1 ∨ b.mode = 2 by omega) with h1 | h1
    ·have := h.mu _ (hbl.m1 hbk h1)
     omega
    ·obtain ⟨_, cur2, hc2, _⟩ := hbl.own hbk hz
     rw [hc2] at hc
     have he : b.e = eb := by injection hc with hc; injection hc
     by_cases ej : j = id
     ·rw [ej, hb] at hj
      cases hj
      exact hz rfl
     ·exact (FQ hsolo hj ej).2 h1 he
 refine h.build hb hL hS hvis (fun k hk => ?_) (fun g es c hg hs => ?_) (fun j x hne2 hx hs => ?_) hB (fun g hg => ⟨fun hv => ?_, fun j hne2 hx => ?_⟩)
 ·rcases hk with rfl | ⟨h1, _⟩
  ·exact (uk hB0).1
  ·exact h1
 ·rcases hs with rfl | ⟨_, cur, fz, hc⟩
  ·rw [hcur] at hg; cases hg
  ·rw [hc] at hg; cases hg
 ·obtain ⟨e2, eb2, s2, l2, h1, _⟩ := hx
  have := (FQ hsolo h1 hne2).1
  cases this
 ·obtain ⟨hN, _, cur, fz, hc⟩ := AY hB hg
  obtain ⟨j, b, m, hj, hm, hbk, hmm, rfl⟩ := hv
  obtain ⟨m2, hm2, hbl⟩ := h.heap j b hj
  rw [hm] at hm2
  cases hm2
  have hz : b.mode ≠ 0 := by rw [← hbl.hm]; exact hmm
  obtain ⟨_, cur2, hc2, _⟩ := hbl.own hbk hz
  have hk := hS.block m.b (tK hc2) (hvis j b m hj hm hbk (.inr hz))
  rw [hk, hc2] at hc
  have he : b.e = eb := by injection hc with hc; injection hc
  have hle := hbl.le
  rcases (show b.mode = 1 ∨ b.mode = 2 by omega) with h1 | h1
  ·have := h.mu _ (hbl.m1 hbk h1)
   omega
  ·by_cases ej : j = id
   ·rw [ej, hb] at hj
    cases hj
    exact hz rfl
   ·exact (FQ hsolo hj ej).2 h1 he
 ·obtain ⟨e2, eb2, s2, l2, h1, _⟩ := hx
  have := (FQ hsolo h1 hne2).1
  cases this
end
theorem Wy (s : ByteArray) : (Lib.strCells s).length = s.size := by
 unfold Lib.strCells
 rw [List.length_map, Array.length_toList]
 rfl
theorem arr1 {x : AV} {arr : Array Value} (h : VAll L [x] arr.toList) : ∃ u, arr = #[u] ∧ V L x u := by
 obtain ⟨l⟩ := arr
 match l, h with
 | [u], h => exact ⟨u, rfl, h.1⟩
 | [], h => exact h.elim
 | _ :: _ :: _, h => exact h.2.elim
theorem arr2 {x y : AV} {arr : Array Value} (h : VAll L [x, y] arr.toList) : ∃ u v, arr = #[u, v] ∧ V L x u ∧ V L y v := by
 obtain ⟨l⟩ := arr
 match l, h with
 | [u, v], h => exact ⟨u, v, rfl, h.1, h.2.1⟩
 | [], h => exact h.elim
 | [_], h => exact h.2.elim
 | _ :: _ :: _ :: _, h => exact h.2.2.elim
theorem aal (s t : ByteArray) : Lib.strCells (s ++ t) = Lib.strCells s ++ Lib.strCells t := by simp [Lib.strCells]
section
variable [Inhabited az]
theorem ahl (h : RelL F L st a w) {o : Oper} {next : Act → World → Prop} {Q : Exit → Act → World → Prop} {k : St → Option α} (hg : Goes F k r next) {P : Program} {c : Call} (hop : o.op = .call c) {g : FuncId} (hcal : c.callee = .value (.func g)) {O : Opt} (hB : aiw P g (O.bm g) O.T O.eb)
 (hk : aeY O (O.bm g) o.dst (c.args.toList.map st.get) st k = some r) : o.wp P a w next Q := by
 have hargs := WW h c.args.toList
 have hexec : (execOp a.eval o).run P w = .ok (.enter g (c.args.map a.eval)) w := by
  simp [execOp, hop, resolve, hcal, Act.eval, Deferred.ofValue, invoke, hB.enters]
 unfold aeY at hk
 split at hk
 ·rename_i id rest hxs
  rw [hxs] at hargs
  rw [Option.bind_eq_some_iff] at hk
  obtain ⟨b, hb, hk⟩ := hk
  split at hk
  ·rename_i e eb t
   obtain ⟨hc, hk⟩ := ifB hk
   simp only [Bool.and_eq_true] at hc
   obtain ⟨h1, h2, hsolo⟩ := hc
   have h1 := ay h1
   have h2 := ay h2
   subst h1 h2
   obtain ⟨l, hL, ho, hBl⟩ := h.maps.bat id _ _ t hb
   have hN : F.N ≤ w.heap.size := h.below.size
   split at hk
   ·rename_i s hr
    obtain ⟨hc, hk⟩ := ifB hk
    simp only [Bool.and_eq_true, decide_eq_true_eq] at hc
    obtain ⟨u, v, harr, hu, hv⟩ := arr2 (arr := c.args.map a.eval) (by rw [Array.toList_map]; exact hargs)
    have hvs : c.args.map a.eval = #[.pointer (some ⟨l.b, 0, none⟩), .string s] := by
     simp only [V] at hu hv
     obtain ⟨l2, hL2, hu⟩ := hu
     rw [hL] at hL2
     cases hL2
     rw [harr, hu, hv, ho]
     simp
    unfold Oper.wp
    rw [hexec, Oper.upon_enter, hvs]
    refine (hB.write (ay hc.1) F.N l.b _ s w hBl (by rw [Wy]; have := hc.2; unfold big at this; omega) hN).mono fun e w' ⟨he, h3, h4, h5⟩ => ?_
    subst he
    rw [← aal] at h3
    refine hg _ _ _ hk ⟨L, (acd h hb hL hB.neq hsolo hB.nq h3 h4 h5).put (by simp [V, VAll]) o.dst⟩
   ·rename_i hr
    obtain ⟨u, harr, hu⟩ := arr1 (arr := c.args.map a.eval) (by rw [Array.toList_map]; exact hargs)
    have hvs : c.args.map a.eval = #[.pointer (some ⟨l.b, 0, none⟩)] := by
     simp only [V] at hu
     obtain ⟨l2, hL2, hu⟩ := hu
     rw [hL] at hL2
     cases hL2
     rw [harr, hu, ho]
     simp
    cases h2 : Nat.beq (O.bm g) 2 with
    | true =>
      rw [h2, cond_true] at hk
      unfold Oper.wp
      rw [hexec, Oper.upon_enter, hvs]
      refine (hB.str (ay h2) F.N l.b t.data.toList w hBl hN).mono fun e w' ⟨he, h3, h4, h5⟩ => ?_
      subst he
      refine hg _ _ _ hk ⟨L, (acd h hb hL hB.neq hsolo hB.nq h3 h4 h5).put (by simp [V]) o.dst⟩
    | false =>
      rw [h2, cond_false] at hk
      obtain ⟨h3, hk⟩ := ifB hk
      unfold Oper.wp
      rw [hexec, Oper.upon_enter, hvs]
      refine (hB.len (ay h3) F.N l.b _ w hBl).mono fun e w' ⟨he, hw⟩ => ?_
      subst he hw
      refine hg _ _ _ hk ⟨L, h.put (by simp [V, Wy]) o.dst⟩
   ·cases hk
  ·cases hk
 ·cases hk
theorem Zz (hE : BX F E R) {o : Oper} {next : Act → World → Prop} {Q : Exit → Act → World → Prop} {k : St → Option α} (h : RelL F L st a w) (hg : Goes F k r next) (hk : aaA E o st k = some r) : o.wp E.P a w next Q := by
 unfold aaA at hk
 split at hk
 ·rename_i op t x y ty hop
  split at hk
  ·rename_i hy
   have hvy : a.eval y = .slice none 0 0 := by
    have := h.get y
    rw [hy] at this
    simpa only [V] using this
   split at hk
   ·rename_i e ht
    obtain ⟨b, hk, h1, _⟩ := acT h (h.get x) hk ht x y
    refine dV (v := .bool b) (w' := w) ?_ (bV hg h (x := .bool b) (by simp only [V]) hk)
    rw [← hvy] at h1
    simp only [execOp, hop, Sem.run_bind] at h1 ⊢
    rw [h1]
    rfl
   ·rename_i e ht
    obtain ⟨b, hk, _, h1⟩ := acT h (h.get x) hk ht x y
    refine dV (v := .bool (!b)) (w' := w) ?_ (bV hg h (x := .bool (!b)) (by simp only [V]) hk)
    rw [← hvy] at h1
    simp only [execOp, hop, Sem.run_bind] at h1 ⊢
    rw [h1]
    rfl
   ·cases hk
  ·exact BK hE h hg hk
 ·rename_i c hop
  split at hk
  ·rename_i f hcal
   split at hk
   ·rename_i g
    cases hz : Nat.beq (E.two.bm g) 0 with
    | true => rw [hz, cond_true] at hk; exact BK hE h hg hk
    | false =>
      rw [hz, cond_false] at hk
      exact ahl h hg hop hcal (hE.bld g (gW hz)) hk
   ·exact BK hE h hg hk
  ·exact BK hE h hg hk
 ·exact BK hE h hg hk
theorem NV (hE : BX F E R) {ops : Array Oper} {Q : Exit → Act → World → Prop} {k : St → Option α} (hg : Goes F k r (Q .normal)) : ∀ {rest : List Oper} {st : St} {a : Act} {w : World}, IV E ops rest st k = some r → Rel F st a w → wpList E.P ops Q rest a w
 | [], st, a, w, hk, h => hg _ _ _ hk h
 | o :: rest, st, a, w, hk, ⟨L, h⟩ => by
   have hgo : Goes F (fun st => IV E ops rest st k) r (wpList E.P ops Q rest) := fun st' a' w' hk hr => NV hE hg hk hr
   simp only [IV] at hk
   unfold wpList
   split at hk
   ·rename_i hgd
    rw [if_pos (by simp [Region.wanted, hgd])]
    exact .inl (Zz hE h hgo hk)
   ·rename_i j want hgd
    split at hk
    ·rename_i d b hy
     have hyy : yielded ops a.tmps j = some b ∧ a.tmps.getD d undef = .bool b := by
      unfold Fv at hy
      rw [Option.bind_eq_some_iff] at hy
      obtain ⟨d', hd', hy⟩ := hy
      split at hy
      ·rename_i b' hs
       simp only [Option.some.injEq, Prod.mk.injEq] at hy
       obtain ⟨rfl, rfl⟩ := hy
       have hsl : st.slots[d']? = some (.bool b') := by
        simp only [List.getD] at hs
        cases hx : st.slots[d']? with
        | none => simp [hx] at hs
        | some y => simp [hx] at hs; rw [hs]
       have hv := h.slots d' _ hsl
       simp only [V] at hv
       refine ⟨?_, hv⟩
       unfold yielded
       rw [hd']
       simp only [Option.bind_some]
       have : a.tmps[d']? = some (.bool b') := by
        rw [Array.getD_eq_getD_getElem?] at hv
        cases hx : a.tmps[d']? with
        | none => simp [hx, undef] at hv
        | some y => simp [hx] at hv; rw [hv]
       rw [this]
      ·simp at hy
     obtain ⟨hy1, hy2⟩ := hyy
     cases b with
     | true =>
       rw [cond_true] at hk
       have h' := h.learn (d := d) (x := .bool true) (by rw [hy2]; simp [V])
       cases want with
       | true =>
         rw [cond_true] at hk
         rw [if_pos (by simp [Region.wanted, hgd, hy1])]
         exact .inl (Zz hE h' hgo hk)
       | false =>
         rw [cond_false] at hk
         rw [if_neg (by simp [Region.wanted, hgd, hy1])]
         exact NV hE hg hk ⟨L, h'.put (adr _) o.dst⟩
     | false =>
       rw [cond_false] at hk
       have h' := h.learn (d := d) (x := .bool false) (by rw [hy2]; simp [V])
       cases want with
       | true =>
         rw [cond_true] at hk
         rw [if_neg (by simp [Region.wanted, hgd, hy1])]
         exact NV hE hg hk ⟨L, h'.put (adr _) o.dst⟩
       | false =>
         rw [cond_false] at hk
         rw [if_pos (by simp [Region.wanted, hgd, hy1])]
         exact .inl (Zz hE h' hgo hk)
    ·obtain ⟨hv, hk⟩ := ifB hk
     have hno : yielded ops a.tmps j = none := by
      unfold JY at hv
      unfold yielded
      split at hv
      ·rename_i d hd
       rw [hd]
       simp only [Option.bind_some]
       split at hv
       ·rename_i l hs
        split at hv
        ·have hx := h.get (.tmp d)
         simp only [St.get, hs, V, Act.eval] at hx
         obtain ⟨arr, he, _⟩ := hx
         rw [Array.getD_eq_getD_getElem?] at he
         cases hx : a.tmps[d]? with
         | none => rfl
         | some y =>
           rw [hx] at he
           simp only [Option.getD_some] at he
           rw [he]
        ·cases hv
       ·cases hv
      ·cases hv
     rw [if_neg (by simp [Region.wanted, hgd, hno])]
     exact NV hE hg hk ⟨L, h.put (adr _) o.dst⟩
end
def Wk (x y : AV) : Prop := ∀ L v, V L x v → V L y v
def rW : List AV → List AV → Prop
 | [], [] => True
 | x :: xs, y :: ys => Wk x y ∧ rW xs ys
 | _, _ => False
theorem XQ {L : LM} : ∀ {xs ys : List AV} {vs : List Value}, rW xs ys → VAll L xs vs → VAll L ys vs
 | [], [], vs, _, h => h
 | x :: xs, y :: ys, [], _, h => by simp [VAll] at h
 | x :: xs, y :: ys, v :: vs, hw, h => by
   simp only [rW] at hw
   simp only [VAll] at h ⊢
   exact ⟨hw.1 L v h.1, XQ hw.2 h.2⟩
 | [], _ :: _, _, hw, _ => by simp [rW] at hw
 | _ :: _, [], _, hw, _ => by simp [rW] at hw
theorem VV : ∀ {xs ys : List AV} {i : Nat} {y : AV}, rW xs ys → ys[i]? = some y → ∃ x, xs[i]? = some x ∧ Wk x y
 | [], [], i, y, _, h => by simp at h
 | x :: xs, z :: ys, i, y, hw, h => by
   simp only [rW] at hw
   cases i with
   | zero => simp at h; subst h; exact ⟨x, rfl, hw.1⟩
   | succ i => simpa using VV hw.2 (by simpa using h)
 | [], _ :: _, _, _, hw, _ => by simp [rW] at hw
 | _ :: _, [], _, _, hw, _ => by simp [rW] at hw
theorem FZ : ∀ {xs ys : List AV}, rW xs ys → xs.length = ys.length
 | [], [], _ => rfl
 | x :: xs, y :: ys, h => by simp only [rW] at h; simp [FZ h.2]
 | [], _ :: _, h => by simp [rW] at h
 | _ :: _, [], h => by simp [rW] at h
mutual
theorem adR : ∀ (s : Sk) (x : AV) (p q : List P1), uy s x = some p → ∃ y, qX s (p ++ q) = some (y, q) ∧ Wk x y
 | .any, x, p, q, h => by
   simp only [uy, Option.some.injEq] at h
   subst h
   exact ⟨.undef, by simp [qX], fun L v _ => by simp [V]⟩
 | .int k, .int k' n, p, q, h => by
   simp only [uy] at h
   split at h
   ·rename_i e
    subst e
    simp at h
    subst h
    exact ⟨.int k n, by simp [qX], fun _ _ h => h⟩
   ·simp at h
 | .bool, .bool b, p, q, h => by
   simp only [uy, Option.some.injEq] at h
   subst h
   exact ⟨.bool b, by simp [qX], fun _ _ h => h⟩
 | .str, .str b, p, q, h => by
   simp only [uy, Option.some.injEq] at h
   subst h
   exact ⟨.str b, by simp [qX], fun _ _ h => h⟩
 | .lit k n, .int k' m, p, q, h => by
   simp only [uy] at h
   split at h
   ·rename_i e
    split at h
    ·rename_i e2
     subst e e2
     simp only [Option.some.injEq] at h
     subst h
     exact ⟨.int k m, by simp [qX], fun _ _ h => h⟩
    ·cases h
   ·cases h
 | .nilptr, .nilptr, p, q, h => by
   simp only [uy, Option.some.injEq] at h
   subst h
   exact ⟨.nilptr, by simp [qX], fun _ _ h => h⟩
 | .nilsl, .nilsl, p, q, h => by
   simp only [uy, Option.some.injEq] at h
   subst h
   exact ⟨.nilsl, by simp [qX], fun _ _ h => h⟩
 | .emp, .emp, p, q, h => by
   simp only [uy, Option.some.injEq] at h
   subst h
   exact ⟨.emp, by simp [qX], fun _ _ h => h⟩
 | .ptr i r c, .ptr i' r' c', p, q, h => by
   simp only [uy] at h
   obtain ⟨hc, h⟩ := ifB h
   simp only [Bool.and_eq_true] at hc
   have h1 := ay hc.1
   have h2 := ay hc.2.1
   have h3 := ay hc.2.2
   simp at h
   subst h h1 h2 h3
   exact ⟨.ptr i r c, by simp [qX], fun _ _ h => h⟩
 | .sl i, .sl i', p, q, h => by
   simp only [uy] at h
   obtain ⟨hc, h⟩ := ifB h
   have h1 := ay hc
   simp at h
   subst h h1
   exact ⟨.sl i, by simp [qX], fun _ _ h => h⟩
 | .sub i, .sub i' lo n, p, q, h => by
   simp only [uy] at h
   obtain ⟨hc, h⟩ := ifB h
   have h1 := ay hc
   simp at h
   subst h h1
   exact ⟨.sub i lo n, by simp [qX], fun _ _ h => h⟩
 | .map i, .map i', p, q, h => by
   simp only [uy] at h
   obtain ⟨hc, h⟩ := ifB h
   have h1 := ay hc
   simp at h
   subst h h1
   exact ⟨.map i, by simp [qX], fun _ _ h => h⟩
 | .agg s, .agg l, p, q, h => by
   simp only [uy] at h
   obtain ⟨ys, hy, hw⟩ := wQ s l p q h
   exact ⟨.agg ys, by simp [qX, hy], fun L v hv => by
    simp only [V] at hv ⊢
    obtain ⟨arr, rfl, hv⟩ := hv
    exact ⟨arr, rfl, XQ hw hv⟩⟩
 | .tup s, .tup l, p, q, h => by
   simp only [uy] at h
   obtain ⟨ys, hy, hw⟩ := wQ s l p q h
   exact ⟨.tup ys, by simp [qX, hy], fun L v hv => by
    simp only [V] at hv ⊢
    obtain ⟨arr, rfl, hv⟩ := hv
    exact ⟨arr, rfl, XQ hw hv⟩⟩
 | .fn f s, .fn f' l, p, q, h => by
   simp only [uy] at h
   obtain ⟨hc, h2⟩ := ifB h
   clear h
   have h1 := ay hc
   subst h1
   obtain ⟨ys, hy, hw⟩ := wQ s l p q h2
   exact ⟨.fn f ys, by simp [qX, hy], fun L v hv => by
    simp only [V] at hv ⊢
    obtain ⟨arr, rfl, hv⟩ := hv
    exact ⟨arr, rfl, XQ hw hv⟩⟩
theorem wQ : ∀ (s : List Sk) (xs : List AV) (p q : List P1), GV s xs = some p → ∃ ys, Bj s (p ++ q) = some (ys, q) ∧ rW xs ys
 | [], [], p, q, h => by
   simp only [GV, Option.some.injEq] at h
   subst h
   exact ⟨[], by simp [Bj], by simp [rW]⟩
 | s :: ss, x :: xs, p, q, h => by
   simp only [GV, Option.bind_eq_some_iff, Option.map_eq_some_iff] at h
   obtain ⟨p1, h1, p2, h2, rfl⟩ := h
   obtain ⟨y, hy, hw⟩ := adR s x p1 (p2 ++ q) h1
   obtain ⟨ys, hys, hws⟩ := wQ ss xs p2 q h2
   exact ⟨y :: ys, by simp [Bj, List.append_assoc, hy, hys], by simp [rW, hw, hws]⟩
end
theorem ad2 {s : BSk} {b : Blk} {p : List P1} (q : List P1) (h : qW s b = some p) : ∃ c, NQ s (p ++ q) = some (c, q) ∧ c.mode = b.mode ∧ c.e = b.e ∧ c.w = b.w ∧ c.n = b.n ∧ rW b.flat c.flat ∧ (c.isMap = true → c = b) := by
 have refl : ∀ xs : List AV, rW xs xs := by
  intro xs
  induction xs with
  | nil => simp [rW]
  | cons x r ih => exact ⟨fun _ _ h => h, ih⟩
 cases s with
 | map e kt vt =>
   cases b with
   | mix => simp [qW] at h
   | bld => simp [qW] at h
   | rows => simp [qW] at h
   | map e' kt' vt' ks vs =>
     simp only [qW] at h
     obtain ⟨hc, h⟩ := ifB h
     have h1 := ay hc
     subst h1
     split at h
     ·rename_i e3
      subst e3
      split at h
      ·rename_i e4
       subst e4
       simp at h
       subst h
       exact ⟨.map e kt' vt' ks vs, by simp [NQ], rfl, rfl, rfl, rfl, refl _, fun _ => rfl⟩
      ·simp at h
     ·simp at h
 | bld e eb =>
   cases b with
   | bld e' eb' t =>
     simp only [qW] at h
     obtain ⟨hc, h⟩ := ifB h
     simp only [Bool.and_eq_true] at hc
     have h1 := ay hc.1
     have h2 := ay hc.2
     subst h1 h2
     simp at h
     subst h
     exact ⟨.bld e eb t, by simp [NQ], rfl, rfl, rfl, rfl, refl _, fun _ => rfl⟩
   | _ => simp [qW] at h
 | ints m e k n =>
   cases b with
   | map => simp [qW] at h
   | bld => simp [qW] at h
   | mix => simp [qW] at h
   | rows m' e' t' l =>
     cases t' with
     | int k' =>
       simp only [qW] at h
       obtain ⟨hc, h4⟩ := ifB h
       clear h
       simp only [Bool.and_eq_true] at hc
       have h1 := ay hc.1
       have h2 := ay hc.2.1
       have h3 := ay hc.2.2
       subst h1 h2
       split at h4
       ·rename_i e3
        subst e3
        have hp := Option.some.inj h4
        subst hp
        have key : ∀ (l : List Int) (q : List P1), NY l.length (l.map P1.int ++ q) = some (l, q) := by
         intro l
         induction l with
         | nil => intro q; simp [NY]
         | cons x r ih => intro q; simp [NY, ih q]
        have hk := key l q
        rw [h3] at hk
        exact ⟨.rows m e (.int k) l, by simp [NQ, hk], rfl, rfl, rfl, rfl, refl _, fun e => by cases e⟩
       ·simp at h4
     | _ => simp [qW] at h
 | rows m e t =>
   cases b with
   | map => simp [qW] at h
   | bld => simp [qW] at h
   | mix => simp [qW] at h
   | rows m' e' t' l =>
     simp only [qW] at h
     obtain ⟨hc, h⟩ := ifB h
     simp only [Bool.and_eq_true] at hc
     have h1 := ay hc.1
     have h2 := ay hc.2
     subst h1 h2
     split at h
     ·rename_i e3
      subst e3
      simp at h
      subst h
      exact ⟨.rows m e t' l, by simp [NQ], rfl, rfl, rfl, rfl, refl _, fun e => by cases e⟩
     ·simp at h
 | mix m e s =>
   cases b with
   | map => simp [qW] at h
   | bld => simp [qW] at h
   | rows => simp [qW] at h
   | mix m' e' l =>
     simp only [qW] at h
     obtain ⟨hc, h3⟩ := ifB h
     clear h
     simp only [Bool.and_eq_true] at hc
     have h1 := ay hc.1
     have h2 := ay hc.2
     subst h1 h2
     obtain ⟨ys, hy, hw⟩ := wQ s l p q h3
     exact ⟨.mix m e ys, by simp [NQ, hy], rfl, rfl, rfl, (FZ hw).symm, hw, fun e => by cases e⟩
theorem Yw {h : Heap} : ∀ {s : List (Nat × BSk)} {p : List P1} (q : List P1), aaR h s = some p → ∃ g, Uk s (p ++ q) = some (g, q) ∧
 ∀ id c, look g id = some c → ∃ b, look h id = some b ∧ c.mode = b.mode ∧ c.e = b.e ∧ c.w = b.w ∧ c.n = b.n ∧ rW b.flat c.flat ∧ (c.isMap = true → c = b)
 | [], p, q, hp => by
   simp only [aaR, Option.some.injEq] at hp
   subst hp
   exact ⟨[], by simp [Uk], fun id c hc => by simp [look] at hc⟩
 | (i, s) :: r, p, q, hp => by
   simp only [aaR, Option.bind_eq_some_iff, Option.map_eq_some_iff] at hp
   obtain ⟨b, hb, p1, h1, p2, h2, rfl⟩ := hp
   obtain ⟨c, hc, hfacts⟩ := ad2 (p2 ++ q) h1
   obtain ⟨g, hg, hg2⟩ := Yw q h2
   refine ⟨(i, c) :: g, by simp [Uk, List.append_assoc, hc, hg], fun id d hd => ?_⟩
   simp only [look] at hd
   cases hi : Nat.beq i id with
   | true =>
     rw [hi, cond_true] at hd
     have := ay hi
     subst this
     have := Option.some.inj hd
     subst this
     exact ⟨b, hb, hfacts⟩
   | false =>
     rw [hi, cond_false] at hd
     exact hg2 id d hd
section
variable [Inhabited az]
theorem adN {t : Tpl} {p : List P1} (h : t.take0 st = some p) : ∃ st', t.build p = some st' ∧ ∀ a w, Rel F st a w → Rel F st' a w := by
 unfold Tpl.take0 at h
 simp only [Option.bind_eq_some_iff, Option.map_eq_some_iff] at h
 obtain ⟨p1, h1, p2, h2, rfl⟩ := h
 obtain ⟨ys, hy, hw⟩ := wQ t.slots st.slots p1 p2 h1
 obtain ⟨g, hg, hg2⟩ := Yw [] h2
 rw [List.append_nil] at hg
 refine ⟨⟨ys, g⟩, by simp [Tpl.build, hy, hg], fun a w ⟨L, hr⟩ => ⟨L, ?_⟩⟩
 refine { hr with len := by rw [← hr.len]; exact (FZ hw).symm, slots := fun i y hy => ?_, heap := fun id c hc => ?_, inj := fun i j b c l m hi hj hl hm hne hbl hbm h1 h2 => ?_, maps := hr.maps.tr _root_.id (fun j b hj hm => ?_) (fun _ _ _ _ _ _ _ _ h => h) (fun _ _ _ _ h => h) (fun _ _ _ => rfl) (fun x _ hx => .inl (by
  obtain ⟨j, c, m, hj, hm, hbk⟩ := hx
  obtain ⟨b1, hb1, _⟩ := hg2 j c hj
  exact ⟨j, b1, m, hb1, hm, hbk⟩)) }
 ·obtain ⟨x, hx, hwx⟩ := VV hw hy
  exact hwx L _ (hr.slots i x hx)
 ·obtain ⟨b, hb, e1, e2, e3, e4, hwb, _⟩ := hg2 id c hc
  obtain ⟨l, hL, hbl⟩ := hr.heap id b hb
  have hlen := FZ hwb
  refine ⟨l, hL, ⟨by rw [e3]; exact hbl.hw, by rw [e4]; exact hbl.hn, by rw [e1]; exact hbl.hm, by rw [e1]; exact hbl.le, fun hbk i y hi => ?_, fun hbk hm hf => hbl.ro hbk (by rw [← e1]; exact hm) (fun e => hf ?_), fun hbk hm => ?_, fun hbk hm => hbl.m1 hbk (by rw [← e1]; exact hm), fun hbk hm => hbl.m2 hbk (by rw [← e1]; exact hm), fun hbk => ?_⟩⟩
  ·obtain ⟨x, hx, hwx⟩ := VV hwb hi
   obtain ⟨v, hv, hV, h1⟩ := hbl.cells hbk i x hx
   exact ⟨v, hv, hwx L v hV, h1⟩
  ·rw [e] at hlen
   exact List.eq_nil_of_length_eq_zero hlen.symm
  ·rw [e2, ← hlen]
   exact hbl.own hbk (by rw [← e1]; exact hm)
  ·have h0 := hbl.nb hbk
   rw [h0] at hlen
   exact List.eq_nil_of_length_eq_zero hlen.symm
 ·obtain ⟨b1, hb1, _⟩ := hg2 i b hi
  obtain ⟨c1, hc1, _⟩ := hg2 j c hj
  exact hr.inj i j b1 c1 l m hb1 hc1 hl hm hne hbl hbm h1 h2
 ·obtain ⟨b1, hb1, _, _, _, _, _, hmm⟩ := hg2 j b hj
  rw [hmm hm]
  exact ⟨hb1, rfl⟩
theorem KY {t : Tpl} {p : List P1} (h : t.take F.low st = some p) : ∃ st', t.build p = some st' ∧ ∀ a w, Rel F st a w → Rel F st' a w := by
 unfold Tpl.take at h
 obtain ⟨st', h1, h2⟩ := adN (F := F) h
 exact ⟨st', h1, fun a w hr => h2 a w (aaG hr)⟩
end
def Ny (P : Program) (c : Code) (Q : Exit → Act → World → Prop) (a : Act) (w : World) : Prop :=
 ∀ (b : Frame) (k : List Item) (cs : List Frame), ∃ e a' w', Q e a' w' ∧ Arrives P (lone (b.at a (.code c :: .inLoop c :: k)) cs w) b k cs e a' w'
theorem Pj {c : Code} {Q : Exit → Act → World → Prop} (h : c.wp P (Exit.then (Ny P c Q) Q) a w) : Ny P c Q a w := by
 intro b k cs
 obtain ⟨e, a₁, w₁, hq, harr⟩ := h b (.inLoop c :: k) cs
 cases e with
 | normal =>
   obtain ⟨e₂, a₂, w₂, hq₂, harr₂⟩ := hq b k cs
   exact ⟨e₂, a₂, w₂, hq₂, .of_steps (Steps.trans harr (.one step_inLoop)) harr₂⟩
 | exit id => exact ⟨_, a₁, w₁, hq, .pass (x := .inLoop c) rfl (fun _ _ => .inl (by simp)) harr⟩
 | goto l => exact ⟨_, a₁, w₁, hq, .pass (x := .inLoop c) rfl (fun _ _ => .inl (by simp)) harr⟩
 | ret => exact ⟨_, a₁, w₁, hq, .pass (x := .inLoop c) rfl (fun _ _ => .inl (by simp)) harr⟩
 | panic ch => exact ⟨_, a₁, w₁, hq, .pass (x := .inLoop c) rfl (fun _ _ => .inl (by simp)) harr⟩
 | outgrown => exact ⟨_, a₁, w₁, hq, .pass (x := .inLoop c) rfl (fun _ _ => .inl (by simp)) harr⟩
theorem abk {c : Code} {Q : Exit → Act → World → Prop} (h : Ny P c Q a w) : (Code.loop c).wp P Q a w := by
 intro b k cs
 obtain ⟨e, a', w', hq, harr⟩ := h b k cs
 exact ⟨e, a', w', hq, .of_steps (.one step_loop) harr⟩
section
variable [Inhabited az]
def pX (F : Fix) (R : Res → Act → World → Prop) : Out → Exit → Act → World → Prop
 | .normal st, .normal, a, w => Rel F st a w
 | .exit i st, .exit j, a, w => i = j ∧ Rel F st a w
 | .ret rr, .ret, a, w => R rr a w
 | _, _, _, _ => False
def Post (F : Fix) (R : Res → Act → World → Prop) (k : Out → Option α) (r : α) : Exit → Act → World → Prop := fun e a w => ∃ out, k out = some r ∧ pX F R out e a w
def WV (P : Program) (F : Fix) (R : Res → Act → World → Prop) (b : Code) (T : Lp α) : Prop :=
 ∀ (r : α) (p : List P1) (brk : Nat → List P1 → Option α) (ret : Res → Option α), T.run p brk ret = some r → ∀ st, T.tpl.build p = some st → ∀ a w, Rel F st a w →
   Ny P b (fun e a w => (∃ j q st', e = .exit j ∧ brk j q = some r ∧ T.tpl.build q = some st' ∧ Rel F st' a w) ∨ (∃ rr, e = .ret ∧ ret rr = some r ∧ R rr a w)) a w
def vz (F : Fix) (R : Res → Act → World → Prop) (E : Env α) : Code → Prop
 | .seq a b => vz F R E a ∧ vz F R E b
 | .cond _ a b => vz F R E a ∧ vz F R E b
 | .block _ b => vz F R E b
 | .loop b => vz F R E b ∧ (∀ T, (gY b).bind E.lp = some T → WV E.P F R b T) ∧ ∀ T, ((gY b).bind fun i => E.lp (i + 100000)) = some T → WV E.P F R b T
 | _ => True
theorem aiQ {t : Option Tpl} {k : St → Option α} (hk : adl F.low t st k = some r) (h : Rel F st a w) : ∃ st', k st' = some r ∧ Rel F st' a w := by
 unfold adl at hk
 cases t with
 | none => exact ⟨st, hk, h⟩
 | some t =>
   simp only [Option.bind_eq_some_iff] at hk
   obtain ⟨p, hp, st', hst', hk⟩ := hk
   obtain ⟨st2, hst2, hrel⟩ := KY (F := F) hp
   rw [hst'] at hst2
   cases hst2
   exact ⟨st', hk, hrel a w h⟩
theorem KX (hE : BX F E R) : ∀ (c : Code), vz F R E c → ∀ {st : St} {a : Act} {w : World} {k : Out → Option α} {r : α}, ev E c st k = some r → Rel F st a w → c.wp E.P (Post F R k r) a w
 | .skip, _, st, a, w, k, r, hk, h => by
   simp only [ev] at hk
   exact wp_skip ⟨_, hk, h⟩
 | .label l, _, st, a, w, k, r, hk, h => by
   simp only [ev] at hk
   exact wp_label ⟨_, hk, h⟩
 | .ret, _, st, a, w, k, r, hk, h => by
   simp only [ev] at hk
   obtain ⟨rr, hk, hR⟩ := hE.res _ _ _ _ _ hk h
   exact wp_ret ⟨_, hk, hR⟩
 | .exit id, _, st, a, w, k, r, hk, h => by
   simp only [ev] at hk
   exact wp_exit ⟨_, hk, rfl, h⟩
 | .region id ops draw, _, st, a, w, k, r, hk, h => by
   simp only [ev] at hk
   rw [hE.low] at hk
   obtain ⟨st, hk, h⟩ := aiQ hk h
   unfold acR at hk
   cases draw with
   | true =>
     rw [cond_true] at hk
     exact agz hE (k := fun st => k (.normal st)) (fun st' a' w' hk hr => ⟨.normal st', hk, hr⟩) hk h
   | false =>
     rw [cond_false] at hk
     exact wp_region_list (NV hE (Q := Post F R k r) (fun st' a' w' hk hr => ⟨.normal st', hk, hr⟩) hk h)
 | .seq x y, hl, st, a, w, k, r, hk, h => by
   simp only [ev] at hk
   refine wp_seq (wp_mono (KX hE x hl.1 hk h) fun e a' w' ⟨out, ho, hr⟩ => ?_)
   cases out with
   | normal st' =>
     cases e <;> simp only [pX] at hr
     exact KX hE y hl.2 ho hr
   | exit j st' =>
     cases e <;> simp only [pX] at hr
     exact ⟨_, ho, hr⟩
   | ret rr =>
     cases e <;> simp only [pX] at hr
     exact ⟨_, ho, hr⟩
 | .cond c x y, hl, st, a, w, k, r, hk, h => by
   simp only [ev] at hk
   split at hk
   ·rename_i t hc
    have hv : a.eval c = .bool t := by
     obtain ⟨L, hr⟩ := h
     have := hr.get c
     rw [hc] at this
     simpa only [V] using this
    cases t with
    | true => exact wp_cond_true hv (KX hE x hl.1 hk h)
    | false => exact wp_cond_false hv (KX hE y hl.2 hk h)
   ·simp at hk
 | .block id b, hl, st, a, w, k, r, hk, h => by
   simp only [ev] at hk
   refine wp_block (wp_mono (KX hE b hl hk h) fun e a' w' ⟨out, ho, hr⟩ => ?_)
   cases out with
   | normal st' =>
     cases e <;> simp only [pX] at hr
     exact ⟨_, ho, hr⟩
   | exit j st' =>
     cases e <;> simp only [pX] at hr
     rename_i j'
     obtain ⟨rfl, hr⟩ := hr
     simp only at ho
     simp only [Exit.inBlock]
     cases hj : Nat.beq j id with
     | true =>
       rw [hj, cond_true] at ho
       rw [if_pos (ay hj)]
       exact ⟨_, ho, hr⟩
     | false =>
       rw [hj, cond_false] at ho
       rw [if_neg (gW hj)]
       exact ⟨_, ho, rfl, hr⟩
   | ret rr =>
     cases e <;> simp only [pX] at hr
     exact ⟨_, ho, hr⟩
 | .loop b, hl, st, a, w, k, r, hk, h => by
   simp only [ev] at hk
   split at hk
   ·
     have key : ∀ (n : Nat) {st : St} {a : Act} {w : World}, WZ (fun st k => ev E b st k) n st k = some r → Rel F st a w → Ny E.P b (Post F R k r) a w := by
      intro n
      induction n with
      | zero => intro st a w hk; simp [WZ] at hk
      | succ n ih =>
        intro st a w hk h
        simp only [WZ] at hk
        refine Pj (wp_mono (KX hE b hl.1 hk h) fun e a' w' ⟨out, ho, hr⟩ => ?_)
        cases out with
        | normal st' =>
          cases e <;> simp only [pX] at hr
          exact ih ho hr
        | exit j st' =>
          cases e <;> simp only [pX] at hr
          exact ⟨_, ho, hr⟩
        | ret rr =>
          cases e <;> simp only [pX] at hr
          exact ⟨_, ho, hr⟩
     exact abk (key 40 hk h)
   ·rename_i T hT
    have told1 : ∀ {T : Lp α}, WV E.P F R b T → ∀ {st : St} {a : Act} {w : World} {p : List P1}, T.tpl.take E.low st = some p → T.run p (fun j q => (T.tpl.build q).bind fun st' => k (.exit j st')) (fun r => k (.ret r)) = some r → Rel F st a w → Ny E.P b (Post F R k r) a w := by
     intro T hok st a w p hp hk h
     rw [hE.low] at hp
     obtain ⟨st', hst', hrel⟩ := KY (F := F) hp
     intro fr ks cs
     obtain ⟨e, a', w', hq, harr⟩ := hok r p _ _ hk st' hst' a w (hrel a w h) fr ks cs
     refine ⟨e, a', w', ?_, harr⟩
     rcases hq with ⟨j, q, st2, rfl, hb, hst2, hr⟩ | ⟨rr, rfl, hrr, hR⟩
     ·rw [Option.bind_eq_some_iff] at hb
      obtain ⟨st3, hst3, hb⟩ := hb
      rw [hst2] at hst3
      have := Option.some.inj hst3
      subst this
      exact ⟨_, hb, rfl, hr⟩
     ·exact ⟨_, hrr, hR⟩
    have told : ∀ {st : St} {a : Act} {w : World}, acu E b T st k = some r → Rel F st a w → Ny E.P b (Post F R k r) a w := by
     intro st a w hk h
     unfold acu at hk
     split at hk
     ·rename_i p hp
      exact told1 (hl.2.1 T hT) hp hk h
     ·rw [Option.bind_eq_some_iff] at hk
      obtain ⟨T2, hT2, hk⟩ := hk
      rw [Option.bind_eq_some_iff] at hk
      obtain ⟨p, hp, hk⟩ := hk
      exact told1 (hl.2.2 T2 hT2) hp hk h
    cases hp : T.tpl.peel with
    | false =>
      rw [hp, cond_false] at hk
      exact abk (told hk h)
    | true =>
      rw [hp, cond_true] at hk
      refine abk (Pj (wp_mono (KX hE b hl.1 hk h) fun e a' w' ⟨out, ho, hr⟩ => ?_))
      cases out with
      | normal st' =>
        cases e <;> simp only [pX] at hr
        exact told ho hr
      | exit j st' =>
        cases e <;> simp only [pX] at hr
        exact ⟨_, ho, hr⟩
      | ret rr =>
        cases e <;> simp only [pX] at hr
        exact ⟨_, ho, hr⟩
 | .rangeFunc _ _ _ _, _, _, _, _, _, _, hk, _ => by simp [ev] at hk
 | .scope _, _, _, _, _, _, _, hk, _ => by simp [ev] at hk
 | .goto _, _, _, _, _, _, _, hk, _ => by simp [ev] at hk
 | .refuse _, _, _, _, _, _, _, hk, _ => by simp [ev] at hk
end
end Go.Ev
