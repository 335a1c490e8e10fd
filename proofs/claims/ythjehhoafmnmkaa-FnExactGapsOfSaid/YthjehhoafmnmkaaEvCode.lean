/- The evaluator held against the model: operations, regions, code. -/
import Derived.Test.YthjehhoafmnmkaaEvCall4
import Derived.Test.YthjehhoafmnmkaaEvMap
namespace Go.Ev
open Go.RowKit
variable {α : Type} {P : Program} {w : World} {F : Fix} {L : LM} {st : St} {a : Act} {r : α}
section
variable [Inhabited az]
structure aiw (P : Program) (g : FuncId) (m : Nat) (T eb : TypeId) : Prop where
 nq : ¬ Qt
 neq : T ≠ eb
 enters : ∀ (args : Array Value) (w : World), (callFunc g args).run P w = .ok (.enter g args) w
 write : m = 1 → ∀ (N b : Nat) (bs : List Value) (s : ByteArray) (w : World), Lib.IsBuilderF T eb N b bs w → bs.length + s.size ≤ 140737488355328 → N ≤ w.heap.size →
  Calls P g #[.pointer (some ⟨b, 0, none⟩), .string s] w fun e w' => e = .returned (.tuple #[.int .i64 s.size, .nilIface]) ∧ Lib.IsBuilderF T eb N b (bs ++ Lib.strCells s) w' ∧ Below N w w' ∧ Lib.OthersKept eb (some b) w w'
 str : m = 2 → ∀ (N b : Nat) (l : List UInt8) (w : World), Lib.IsBuilderF T eb N b (Lib.byteCells l) w → N ≤ w.heap.size →
  Calls P g #[.pointer (some ⟨b, 0, none⟩)] w fun e w' => e = .returned (.string ⟨l.toArray⟩) ∧ Lib.IsBuilderF T eb N b (Lib.byteCells l) w' ∧ Below N w w' ∧ Lib.OthersKept eb (some b) w w'
 len : m = 3 → ∀ (N b : Nat) (bs : List Value) (w : World), Lib.IsBuilderF T eb N b bs w →
  Calls P g #[.pointer (some ⟨b, 0, none⟩)] w fun e w' => e = .returned (.int .i64 bs.length) ∧ w' = w
def Rk (P : Program) (O : Opt) : Prop := ∀ g, O.bm g ≠ 0 → aiw P g (O.bm g) O.T O.eb
theorem ag5 {P : Program} : Rk P o0 := fun _ h => absurd rfl h
theorem age {P : Program} : Rk P o1 := fun _ h => absurd rfl h
structure BX (F : Fix) (E : Env α) (R : Res → Act → World → Prop) : Prop where
 hC : Rx E.P E.C
 heq : EqOK E.P E.eqs
 low : E.low = F.low
 bld : Rk E.P E.two
 res : ∀ st a w k r, E.res st k = some r → Rel F st a w → ∃ rr, k rr = some r ∧ R rr a w
end
theorem ifB {c : Bool} {x : Option α} (h : (bif c then x else none) = some r) : c = true ∧ x = some r := by
 cases c with
 | true => exact ⟨rfl, h⟩
 | false => cases h
theorem ifN {c : Bool} {x : Option α} (h : (bif c then none else x) = some r) : c = false ∧ x = some r := by
 cases c with
 | false => exact ⟨rfl, h⟩
 | true => cases h
theorem ww {E : Env α} {dst : Option Tmp} {k : Nat → Option α} (h : oq E dst k = some r) : E.low ≤ fQ dst ∧ k (fQ dst) = some r := by
 unfold oq at h
 obtain ⟨h1, h2⟩ := ifB h
 exact ⟨Nat.le_of_ble_eq_true h1, h2⟩
variable {R : Res → Act → World → Prop} {E : Env α} {o : Oper} {k : St → Option α} {next : Act → World → Prop} {Q : Exit → Act → World → Prop}
section
variable [Inhabited az]
theorem ad8 (hE : BX F E R) (h : RelL F L st a w) (hg : Goes F k r next) {c : Call} (hop : o.op = .call c) (hcal : c.callee = .builtin .append) {s x : Operand} (hargs : c.args.toList = [s, x]) {T u : TypeId} (htys : c.argTypes.toList = [T, u]) {e' : TypeId} (hu : E.P.underlying u = some (.slice e'))
 (hk : UQ E T o.dst (st.get s) (st.get x) st k = some r) : o.wp E.P a w next Q := by
 unfold UQ at hk
 split at hk
 ·rename_i e ht
  rw [Option.bind_eq_some_iff] at hk
  obtain ⟨t, hty, hk⟩ := hk
  obtain ⟨hby, hk⟩ := ifB hk
  rw [Option.bind_eq_some_iff] at hk
  obtain ⟨sz, hsz, hk⟩ := hk
  obtain ⟨hszw, hk⟩ := ifB hk
  rw [ay hszw] at hsz
  rw [Option.bind_eq_some_iff] at hk
  obtain ⟨xs, hxs, hk⟩ := hk
  split at hk
  ·rename_i id hs
   rw [Option.bind_eq_some_iff] at hk
   obtain ⟨b, hb, hk⟩ := hk
   cases b with
   | map => first | rfl | (cases h; done) | (simp at h; done) | (simp at *; done)
   | bld => first | rfl | (cases h; done) | (simp at h; done) | (simp at *; done)
   | mix => simp at hk
   | rows m e2 t2 l =>
     simp only at hk
     obtain ⟨hm, hk⟩ := ifB hk
     simp only [Bool.and_eq_true] at hm
     rw [ay hm.1, ← ay hm.2] at hb
     clear hm
     split at hk
     ·rename_i e3
      subst e3
      obtain ⟨hbig, hk⟩ := ifB hk
      exact OZ hop hcal hargs htys h hg ht hu hty hby hsz hxs (id := id) (n := l.length) (l := l) (.inl ⟨l, hb, .inl ⟨hs, rfl, rfl⟩⟩) (by simpa using hbig) hk
     ·simp at hk
  ·rename_i id n hs
   rw [Option.bind_eq_some_iff] at hk
   obtain ⟨b, hb, hk⟩ := hk
   cases b with
   | map => first | rfl | (cases h; done) | (simp at h; done) | (simp at *; done)
   | bld => first | rfl | (cases h; done) | (simp at h; done) | (simp at *; done)
   | mix => simp at hk
   | rows m e2 t2 l =>
     simp only at hk
     obtain ⟨hm, hk⟩ := ifB hk
     simp only [Bool.and_eq_true] at hm
     rw [ay hm.1, ← ay hm.2] at hb
     clear hm
     split at hk
     ·rename_i e3
      subst e3
      obtain ⟨hbig, hk⟩ := ifB hk
      exact OZ hop hcal hargs htys h hg ht hu hty hby hsz hxs (id := id) (n := n) (l := l.take n) (.inl ⟨l, hb, .inr ⟨hs, rfl⟩⟩) (by simpa using hbig) hk
     ·simp at hk
  ·rename_i hs
   obtain ⟨hbig, hk⟩ := ifB hk
   obtain ⟨hlow, hk⟩ := ww hk
   exact OZ hop hcal hargs htys h hg ht hu hty hby hsz hxs (id := fQ o.dst) (n := 0) (l := []) (.inr ⟨.inl hs, rfl, rfl, by rw [← hE.low]; exact hlow⟩) (by simpa using hbig) (by simpa using hk)
  ·rename_i hs
   obtain ⟨hbig, hk⟩ := ifB hk
   obtain ⟨hlow, hk⟩ := ww hk
   exact OZ hop hcal hargs htys h hg ht hu hty hby hsz hxs (id := fQ o.dst) (n := 0) (l := []) (.inr ⟨.inr hs, rfl, rfl, by rw [← hE.low]; exact hlow⟩) (by simpa using hbig) (by simpa using hk)
  ·simp at hk
 ·simp at hk
theorem ac6 (hE : BX F E R) (h : RelL F L st a w) (hg : Goes F k r next) {c : Call} (hop : o.op = .call c) (hcal : c.callee = .builtin .append) {s x : Operand} (hargs : c.args.toList = [s, x]) {T u : TypeId} (htys : c.argTypes.toList = [T, u]) {ik : IntKind} (hu : E.P.underlying u = some (.int ik))
 (hk : PZ E T o.dst (st.get s) (st.get x) st k = some r) : o.wp E.P a w next Q := by
 unfold PZ at hk
 split at hk
 ·rename_i e ht
  rw [Option.bind_eq_some_iff] at hk
  obtain ⟨t, hty, hk⟩ := hk
  rw [Option.bind_eq_some_iff] at hk
  obtain ⟨z, hz, hk⟩ := hk
  rw [Option.bind_eq_some_iff] at hk
  obtain ⟨d, hd, hk⟩ := hk
  obtain ⟨hby, hk⟩ := ifB hk
  rw [Option.bind_eq_some_iff] at hk
  obtain ⟨sz, hsz, hk⟩ := hk
  obtain ⟨hszw, hk⟩ := ifB hk
  rw [ay hszw] at hsz
  split at hk
  ·rename_i n hs hx
   obtain ⟨hb, hk⟩ := ifB hk
   simp only [Bool.and_eq_true, decide_eq_true_eq] at hb
   obtain ⟨hlow, hk⟩ := ww hk
   exact aaQ hop hcal hargs htys h hg ht hu hz hd hby hsz (.inl hs) hx hb.1 hb.2 (by rw [← hE.low]; exact hlow) hk
  ·rename_i n hs hx
   obtain ⟨hb, hk⟩ := ifB hk
   simp only [Bool.and_eq_true, decide_eq_true_eq] at hb
   obtain ⟨hlow, hk⟩ := ww hk
   exact aaQ hop hcal hargs htys h hg ht hu hz hd hby hsz (.inr hs) hx hb.1 hb.2 (by rw [← hE.low]; exact hlow) hk
  ·simp at hk
 ·simp at hk
end
theorem map2 {xs : List Operand} {f : Operand → AV} {x y : AV} (h : xs.map f = [x, y]) : ∃ p q, xs = [p, q] ∧ f p = x ∧ f q = y := by
 match xs, h with
 | [p, q], h => simp at h; exact ⟨p, q, rfl, h.1, h.2⟩
theorem map1 {xs : List Operand} {f : Operand → AV} {x : AV} (h : xs.map f = [x]) : ∃ p, xs = [p] ∧ f p = x := by
 match xs, h with
 | [p], h => simp at h; exact ⟨p, rfl, h⟩
section
variable [Inhabited az]
theorem acH (hE : BX F E R) (h : RelL F L st a w) (hg : Goes F k r next) {c : Call} (hop : o.op = .call c) {b : Builtin} (hcal : c.callee = .builtin b)
 (hk : zV E o.dst b c.argTypes.toList (c.args.toList.map st.get) st k = some r) : o.wp E.P a w next Q := by
 unfold zV at hk
 split at hk
 ·rename_i x hargs
  obtain ⟨p, hp, rfl⟩ := map1 hargs
  split at hk
  ·rename_i t hts
   have e1 : c = { callee := .builtin .len, args := #[p], argTypes := #[t] } := by
    obtain ⟨c1, c2, c3⟩ := c
    simp only at hcal hp hts
    subst hcal
    congr
    ·rw [← Array.toList_inj]; exact hp
    ·rw [← Array.toList_inj]; exact hts
   subst e1
   split at hk
   ·simp at hk
   ·rename_i s hu hs
    exact aeZ hop h hg hu hs hk
   ·rename_i e x' hns hu
    have hns2 := hns
    rw [Option.bind_eq_some_iff] at hk
    obtain ⟨n, hn, hk⟩ := hk
    exact agQ hop h hg (by assumption) hn (fun s hs => by first | exact hns s hs | exact hu s hs) hk
   ·simp at hk
  ·simp at hk
 ·rename_i x hargs
  obtain ⟨p, hp, rfl⟩ := map1 hargs
  split at hk
  ·rename_i t hts
   have e1 : c = { callee := .builtin .cap, args := #[p], argTypes := #[t] } := by
    obtain ⟨c1, c2, c3⟩ := c
    simp only at hcal hp hts
    subst hcal
    congr
    ·rw [← Array.toList_inj]; exact hp
    ·rw [← Array.toList_inj]; exact hts
   subst e1
   split at hk
   ·rename_i e hu hx
    exact aa1 hop h hg hu (.inl hx) hk
   ·rename_i e hu hx
    exact aa1 hop h hg hu (.inr hx) hk
   ·simp at hk
  ·simp at hk
 ·rename_i s x hargs
  obtain ⟨p, q, hp, rfl, rfl⟩ := map2 hargs
  split at hk
  ·rename_i t u hts
   split at hk
   ·rename_i e' hu
    exact ad8 hE h hg hop hcal hp hts hu hk
   ·rename_i ik hu
    exact ac6 hE h hg hop hcal hp hts hu hk
   ·simp at hk
  ·simp at hk
 ·rename_i ka x xs hargs
  exact ajQ hop hcal h hg hargs hk
 ·rename_i ka x xs hargs
  exact ajy hop hcal h hg hargs hk
 ·rename_i id lo n hargs
  obtain ⟨p, hp, hpx⟩ := map1 hargs
  split at hk
  ·rename_i T hts
   split at hk
   ·rename_i e hu
    rw [Option.bind_eq_some_iff] at hk
    obtain ⟨b, hb, hk⟩ := hk
    cases b with
    | map => first | rfl | (cases h; done) | (simp at h; done) | (simp at *; done)
    | bld => first | rfl | (cases h; done) | (simp at h; done) | (simp at *; done)
    | mix => simp at hk
    | rows m e' t l =>
      simp only [Option.bind_eq_some_iff] at hk
      obtain ⟨z, hz, d, hd, hk⟩ := hk
      obtain ⟨hc, hk⟩ := ifB hk
      simp only [Bool.and_eq_true, Bool.not_eq_true'] at hc
      have he := ay hc.2
      subst he
      exact ahs hop hcal hp hts h hg hu hpx hb (gW hc.1) hz hd hk
   ·simp at hk
  ·simp at hk
 ·simp at hk
theorem afg (h : RelL F L st a w) (hg : Goes F k r next) {T : TypeId} {x : Operand} {lo hi mx : Option Operand} (hop : o.op = .slice T x lo hi mx) (hk : YY P T o.dst (st.get x) (lo.map st.get) (hi.map st.get) (mx.map st.get) st k = some r) : o.wp P a w next Q := by
 have hnone : ∀ {m : Option Operand}, m.map st.get = none → m = none := by
  intro m hm
  cases m with
  | none => rfl
  | some => simp at hm
 unfold YY xQ at hk
 simp only at hk
 split at hk
 ·rename_i hu hm
  have := hnone hm
  subst this
  split at hk
  ·rename_i s hs
   exact adz hop h hg hu hs hk
  ·simp at hk
 ·rename_i e hu hm
  have := hnone hm
  subst this
  split at hk
  ·rename_i id hs
   rw [Option.bind_eq_some_iff] at hk
   obtain ⟨b, hb, hk⟩ := hk
   rw [Option.bind_eq_some_iff] at hk
   obtain ⟨sz, hsz, hk⟩ := hk
   obtain ⟨hw, hk⟩ := ifB hk
   rw [ay hw] at hsz
   exact ad3 hop h hg hu hs hb hsz hk
  ·rename_i id m n hs
   rw [Option.bind_eq_some_iff] at hk
   obtain ⟨b, hb, hk⟩ := hk
   rw [Option.bind_eq_some_iff] at hk
   obtain ⟨sz, hsz, hk⟩ := hk
   obtain ⟨hw, hk⟩ := ifB hk
   rw [ay hw] at hsz
   exact adn hop h hg hu hs hb hsz hk
  ·rename_i hs
   rw [Option.bind_eq_some_iff] at hk
   obtain ⟨sz, hsz, hk⟩ := hk
   exact VK hop h hg hu (.inl hs) ⟨sz, hsz⟩ (by rw [hs]; exact hk)
  ·rename_i hs
   rw [Option.bind_eq_some_iff] at hk
   obtain ⟨sz, hsz, hk⟩ := hk
   exact VK hop h hg hu (.inr hs) ⟨sz, hsz⟩ (by rw [hs]; exact hk)
  ·simp at hk
 ·rename_i e k3 hu hm
  rw [Option.bind_eq_some_iff] at hk
  obtain ⟨sz, hsz, hk⟩ := hk
  split at hk
  ·rename_i id k1 k2 hs h1 h2
   exact Nq hop h hg hu ⟨_, hsz⟩ (.inl ⟨_, hs⟩) h1 h2 hm hk
  ·rename_i id m n k1 k2 hs h1 h2
   exact Nq hop h hg hu ⟨_, hsz⟩ (.inr (.inl ⟨_, _, _, hs⟩)) h1 h2 hm hk
  ·rename_i k1 k2 hs h1 h2
   exact Nq hop h hg hu ⟨_, hsz⟩ (.inr (.inr hs)) h1 h2 hm hk
  ·simp at hk
 ·simp at hk
theorem BK (hE : BX F E R) (h : RelL F L st a w) (hg : Goes F k r next) (hk : evOp E o st k = some r) : o.wp E.P a w next Q := by
 unfold evOp at hk
 simp only at hk
 split at hk
 ·rename_i x hop
  exact aex (.inl hop) h hg hk
 ·rename_i x hop
  exact aex (.inr hop) h hg hk
 ·rename_i x hop
  split at hk
  ·rename_i id row col hx
   exact adX hop h hg hx hk
  ·simp at hk
 ·rename_i c x y hop
  split at hk
  ·rename_i t hc
   exact aiV hop h hg hc hk
  ·simp at hk
 ·rename_i t hop
  rw [Option.bind_eq_some_iff] at hk
  obtain ⟨z, hz, hk⟩ := hk
  obtain ⟨hc, hk⟩ := ifB hk
  obtain ⟨hlow, hk⟩ := ww hk
  obtain ⟨hn, hk⟩ := ifN hk
  exact afU hop h hg (by rw [← hE.low]; exact hlow) hz hc hn hk
 ·rename_i t x hop
  obtain ⟨hc, hk⟩ := ifB hk
  obtain ⟨hlow, hk⟩ := ww hk
  obtain ⟨hn, hk⟩ := ifN hk
  exact ajp hop h hg (by rw [← hE.low]; exact hlow) hc hn hk
 ·rename_i t parts hop
  rw [Option.bind_eq_some_iff] at hk
  obtain ⟨X, hX, hk⟩ := hk
  exact ahp hop h hg hX hk
 ·rename_i t len parts hop
  rw [Option.bind_eq_some_iff] at hk
  obtain ⟨b, hb, hk⟩ := hk
  obtain ⟨hlow, hk⟩ := ww hk
  obtain ⟨hn, hk⟩ := ifN hk
  exact acm hop h hg (by rw [← hE.low]; exact hlow) hb hn hk
 ·rename_i t x y hop
  split at hk
  ·rename_i e n hu hx
   rw [Option.bind_eq_some_iff] at hk
   obtain ⟨ty, hty, hk⟩ := hk
   rw [Option.bind_eq_some_iff] at hk
   obtain ⟨z, hz, hk⟩ := hk
   rw [Option.bind_eq_some_iff] at hk
   obtain ⟨d, hd, hk⟩ := hk
   rw [Option.bind_eq_some_iff] at hk
   obtain ⟨sz, hsz, hk⟩ := hk
   obtain ⟨hc, hk⟩ := ifB hk
   simp only [Bool.and_eq_true] at hc
   rw [ay hc.1] at hsz
   obtain ⟨hr, hk⟩ := ifB hk
   simp only [Bool.and_eq_true, decide_eq_true_eq] at hr
   obtain ⟨hlow, hk⟩ := ww hk
   exact ads hop h hg hu hx hc.2.2 hz hd hsz hc.2.1 hr.1 hr.2 (by rw [← hE.low]; exact hlow) hk
  ·simp at hk
 ·rename_i t x hop
  split at hk
  ·rename_i id row col hx
   rw [Option.bind_eq_some_iff] at hk
   obtain ⟨b, hb, hk⟩ := hk
   rw [Option.bind_eq_some_iff] at hk
   obtain ⟨n, hn, hk⟩ := hk
   rw [Option.bind_eq_some_iff] at hk
   obtain ⟨ag, hag, hk⟩ := hk
   obtain ⟨cs, hk, hl, hcs⟩ := ab5 hk
   exact ai8 hop h hg hx hb hn hag hl hcs hk
  ·simp at hk
 ·rename_i t x y hop
  split at hk
  ·rename_i id row col hx
   rw [Option.bind_eq_some_iff] at hk
   obtain ⟨b, hb, hk⟩ := hk
   rw [Option.bind_eq_some_iff] at hk
   obtain ⟨n, hn, hk⟩ := hk
   obtain ⟨hc, hk⟩ := ifB hk
   cases hbb : b.isBld with
   | false =>
     obtain ⟨b', hk, h1, h2, h3, h4, h5, h6, h7, h8⟩ := aff hbb hk
     exact ah7 hop h hg hx hb hn (ay hc) h1 h2 h3 h4 h5 h6 h7 h8 hk
   | true =>
     cases b with
     | bld e eb s =>
       obtain ⟨e1, e2, e3, hk2⟩ := abK hk
       subst e1 e2
       exact afp hop h hg hx hb hn (ay hc) e3 hk2
     | _ => cases hbb
  ·simp at hk
 ·rename_i op t x y t2 hop
  obtain ⟨Z, z, hk, hV, hrun⟩ := ajf (w := w) hE.heq hk (h.get x) (h.get y) x y
  refine dV (v := z) (w' := w) ?_ (bV hg h hV hk)
  simp only [execOp, hop, Sem.run_bind] at hrun ⊢
  rw [hrun]
  rfl
 ·rename_i op t x hop
  exact ai3 hop h hg hk
 ·rename_i s d x hop
  split at hk
  ·rename_i td ik jk n hs hd hx
   exact abl hop h hg hs hd hx hk
  ·rename_i td n hs hd hx
   exact abf hop h hg hs hd hx hk
  ·simp at hk
 ·rename_i s x f hop
  split at hk
  ·rename_i fs id row col hu hx
   rw [Option.bind_eq_some_iff] at hk
   obtain ⟨fd, hf, hk⟩ := hk
   rw [Option.bind_eq_some_iff] at hk
   obtain ⟨n, hn, hk⟩ := hk
   obtain ⟨hn0, hk⟩ := ifN hk
   rw [Option.bind_eq_some_iff] at hk
   obtain ⟨b, hb, hk⟩ := hk
   exact ade hop h hg hu hx hf hn (gW hn0) hb hk
  ·simp at hk
 ·rename_i t x f hop
  split at hk
  ·rename_i fs l hu hx
   rw [Option.bind_eq_some_iff] at hk
   obtain ⟨fd, hf, hk⟩ := hk
   rw [Option.bind_eq_some_iff] at hk
   obtain ⟨n, hn, hk⟩ := hk
   rw [Option.bind_eq_some_iff] at hk
   obtain ⟨ag, hag, hk⟩ := hk
   exact ahx hop h hg hu hx hf hn hag hk
  ·simp at hk
 ·rename_i t x i hop
  split at hk
  ·rename_i len e id row col ik n hu hx hi
   rw [Option.bind_eq_some_iff] at hk
   obtain ⟨s, hs, hk⟩ := hk
   rw [Option.bind_eq_some_iff] at hk
   obtain ⟨b, hb, hk⟩ := hk
   obtain ⟨hr, hk⟩ := ifB hk
   simp only [Bool.and_eq_true, decide_eq_true_eq] at hr
   exact aac hop h hg hu hx hi hs hb hr.1 hr.2 hk
  ·rename_i e id ik n hu hx hi
   rw [Option.bind_eq_some_iff] at hk
   obtain ⟨s, hs, hk⟩ := hk
   rw [Option.bind_eq_some_iff] at hk
   obtain ⟨b, hb, hk⟩ := hk
   obtain ⟨hw, hk⟩ := ifB hk
   rw [ay hw] at hs
   obtain ⟨hr, hk⟩ := ifB hk
   simp only [Bool.and_eq_true, decide_eq_true_eq] at hr
   exact aaV hop h hg hu hx hi hb hs hr.1 hr.2 hk
  ·rename_i e id lo m ik n hu hx hi
   rw [Option.bind_eq_some_iff] at hk
   obtain ⟨s, hs, hk⟩ := hk
   rw [Option.bind_eq_some_iff] at hk
   obtain ⟨b, hb, hk⟩ := hk
   obtain ⟨hw, hk⟩ := ifB hk
   rw [ay hw] at hs
   obtain ⟨hr, hk⟩ := ifB hk
   simp only [Bool.and_eq_true, decide_eq_true_eq] at hr
   exact aad hop h hg hu hx hi hb hs hr.1 hr.2 hk
  ·simp at hk
 ·rename_i t x i hop
  split at hk
  ·rename_i s ik n hu hx hi
   obtain ⟨hr, hk⟩ := ifB hk
   rw [Option.bind_eq_some_iff] at hk
   obtain ⟨c, hc, hk⟩ := hk
   exact acJ hop h hg hu hx hi (by simpa using hr) hc hk
  ·rename_i len e l ik n hu hx hi
   rw [Option.bind_eq_some_iff] at hk
   obtain ⟨s, hs, hk⟩ := hk
   rw [Option.bind_eq_some_iff] at hk
   obtain ⟨ag, hag, hk⟩ := hk
   obtain ⟨hr, hk⟩ := ifB hk
   simp only [Bool.and_eq_true, decide_eq_true_eq] at hr
   exact adk hop h hg hu hx hi hs hag hr.1 hr.2 hk
  ·simp at hk
 ·rename_i t x lo hi mx hop
  exact afg h hg hop hk
 ·rename_i x i hop
  split at hk
  ·rename_i l hx
   exact ae5 hop h hg hx hk
  ·simp at hk
 ·rename_i t rv hop
  split at hk
  ·rename_i kt et ht
   rw [Option.bind_eq_some_iff] at hk
   obtain ⟨K, _, hk⟩ := hk
   rw [Option.bind_eq_some_iff] at hk
   obtain ⟨U, _, hk⟩ := hk
   obtain ⟨hid, hk⟩ := ww hk
   exact aeW hop h hg (hE.low ▸ hid) hk
  ·simp at hk
 ·rename_i t x i okc hop
  have hq := ifN hk
  clear hk
  obtain ⟨hok, hk⟩ := hq
  rw [hok] at hop
  split at hk
  ·rename_i kt et id ht hx
   rw [Option.bind_eq_some_iff] at hk
   obtain ⟨b, hb, hk⟩ := hk
   split at hk
   ·rename_i K U ks vs
    rw [Option.bind_eq_some_iff] at hk
    obtain ⟨z, hz, hk⟩ := hk
    rw [Option.bind_eq_some_iff] at hk
    obtain ⟨d, hd, hk⟩ := hk
    rw [Option.bind_eq_some_iff] at hk
    obtain ⟨key, hi, hk⟩ := hk
    obtain ⟨hkey, hk⟩ := ifB hk
    exact af5 hE.heq ht hop h hg hx hb hz hd hi hkey hk
   ·simp at hk
  ·simp at hk
 ·rename_i t x i y hop
  split at hk
  ·rename_i kt et id ht hx
   rw [Option.bind_eq_some_iff] at hk
   obtain ⟨b, hb, hk⟩ := hk
   split at hk
   ·rename_i e K U ks vs
    rw [Option.bind_eq_some_iff] at hk
    obtain ⟨u, hy, hk⟩ := hk
    rw [Option.bind_eq_some_iff] at hk
    obtain ⟨key, hi, hk⟩ := hk
    obtain ⟨hkey, hk⟩ := ifB hk
    exact ac8 hE.heq ht hop h hg hx hb hy hi hkey hk
   ·simp at hk
  ·simp at hk
 ·rename_i fn first caps hop
  split at hk
  ·rename_i f hfirst
   exact adW hop hfirst h hg hk
  ·simp at hk
 ·rename_i c hop
  split at hk
  ·rename_i f hcal
   exact ajb hE.hC hop hcal h hE.low hg hk
  ·rename_i b hcal
   exact acH hE h hg hop hcal hk
  ·simp at hk
 ·simp at hk
end
end Go.Ev
