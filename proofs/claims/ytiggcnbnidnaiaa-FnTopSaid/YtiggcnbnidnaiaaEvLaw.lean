/- From a law's contract to what its row says. -/
import Derived.Test.YtiggcnbnidnaiaaEvTab
import Derived.ProofKit
import Derived.OpenShut
namespace Go.Ev
open Go.RowKit Go.ChangeShapes Go.WideShapes Go.ChangeAt
variable {P : Program}
theorem ab7 {H : Type} {enc : TypeId × Value → H} (hl : laidOutB P = true) {W W' : World} (hb : Below W.heap.size W W') : ∀ {ts : List TypeId} {vs : List Value} {ds : List (DataW H)} {ps : List MemPlace}, (∀ t ∈ ts, P.readableRec t = true ∧ t < P.types.size) →
 DataW.TrodAll enc P W 0 (fun _ => true) true ts vs ds ps → (∀ x ∈ ps, x.block < W.heap.size) → DataW.TrodAll enc P W' 0 (fun b => decide (b < W.heap.size)) true ts vs ds ps
 | [], [], [], ps, _, h, _ => h
 | t :: ts, v :: vs, d :: ds, ps, ht, h, hlt => by
   simp only [DataW.TrodAll] at h ⊢
   obtain ⟨p, q, h1, h2, rfl⟩ := h
   exact ⟨p, q, Below.trod hl (ht t (by simp)).1 (ht t (by simp)).2 h1 hb (fun x hx => hlt x (by simp [hx])), ab7 hl hb (fun t h => ht t (by simp [h])) h2 (fun x hx => hlt x (by simp [hx])), rfl⟩
 | [], _ :: _, _, _, _, h, _ => by simp [DataW.TrodAll] at h
 | [], [], _ :: _, _, _, h, _ => by simp [DataW.TrodAll] at h
 | _ :: _, [], _, _, _, h, _ => by simp [DataW.TrodAll] at h
 | _ :: _, _ :: _, [], _, _, h, _ => by simp [DataW.TrodAll] at h
section
variable [Inhabited aQ]
theorem akh {f : FuncId} {S : Nat → List D → (Res → Option Res) → Option Res} (hgood : ∀ n, az P f (S n)) {W : World} {ds : List D} {vs : Array Value} (hin : gy W (· ∈ ([] : List Nat)) ds vs.toList []) (hk : ∃ k, S k ds some = some ⟨[.bool true], []⟩) :
 Calls P f vs W fun e W' => e = .returned (.bool true) ∧ Below W.heap.size W W' := by
 obtain ⟨k, hk⟩ := hk
 refine ((hgood k).runs ds some _ hk W vs [] hin List.nodup_nil).mono fun e W' ⟨v, res, he, hres, hpost⟩ => ?_
 have := Option.some.inj hres
 subst this
 obtain ⟨vals, ν, hv, hd, _, _⟩ := hpost.rs
 match vals, hd with
 | [u], hd =>
   simp only [Oq] at hd
   obtain ⟨ν1, ν2, _, h1, _⟩ := hd
   simp only [DOut, RX, MQ] at h1
   have hu := Option.some.inj h1.2
   subst hu
   refine ⟨by rw [he, hv]; rfl, hpost.frame.os, hpost.frame.tape, hpost.frame.output, hpost.frame.size, fun i hi => hpost.frame.block i hi (by simp)⟩
 | [], hd => simp [Oq] at hd
 | _ :: _ :: _, hd => simp [Oq] at hd
end
inductive ArgK where
 | int
 | agg (n : Nat)
 | sl (e : TypeId) (t : Ty)
 | str
def Qv (n : Int) : Prop := -9223372036854775808 ≤ n ∧ n ≤ 9223372036854775807
def InK (k : IntKind) (n : Int) : Prop := k.min ≤ n ∧ n ≤ k.max
def afX : (t : Ty) → t.den → Prop
 | .int k, n => InK k n
 | .pt, p => Qv p.1 ∧ Qv p.2
 | .tr, p => Qv p.1 ∧ Qv p.2.1 ∧ Qv p.2.2
 | _, _ => True
def FitD : ArgK → D → Prop
 | .sl e t, d => ∃ l : List t.den, d = .sl e t l ∧ l.length ≤ maxLen ∧ ∀ x ∈ l, afX t x
 | .str, d => ∃ s : ByteArray, d = .str s ∧ s.size ≤ maxLen
 | .int, d => ∃ n, d = .int .i64 n ∧ Qv n
 | .agg n, d => ∃ l : List Int, l.length = n ∧ d = .agg (l.map (D.int .i64)) ∧ ∀ x ∈ l, Qv x
def abC : List ArgK → List D → Prop
 | [], [] => True
 | k :: ks, d :: ds => FitD k d ∧ abC ks ds
 | _, _ => False
theorem aji {k : ArgK} {ks : List ArgK} {ds : List D} (h : abC (k :: ks) ds) : ∃ d r, ds = d :: r ∧ FitD k d ∧ abC ks r := by
 cases ds with
 | nil => exact h.elim
 | cons d r => exact ⟨d, r, rfl, h⟩
theorem alM {ds : List D} (h : abC [] ds) : ds = [] := by
 cases ds with
 | nil => rfl
 | cons d r => exact h.elim
def abY (P : Program) (t : TypeId) : Bool := match P.underlying t with
 | some (.int .i64) => true
 | _ => false
def ajq (P : Program) (t : TypeId) : Bool := match P.underlying t with
 | some (.struct _) => true
 | some (.array _ _) => true
 | _ => false
def ab1 (P : Program) (e : TypeId) : Ty → Bool
 | .int k => (match P.underlying e with
   | some (.int k') => decide (k' = k)
   | _ => false) && Nat.beq (P.cellsOf e) 1
 | .pt => (match P.underlying e with
   | some (.array n e') => Nat.beq n 2 && (abY P e' && Nat.beq (P.cellsOf e') 1)
   | _ => false) && Nat.beq (P.cellsOf e) 2
 | .tr => (match P.underlying e with
   | some (.array n e') => Nat.beq n 3 && (abY P e' && Nat.beq (P.cellsOf e') 1)
   | _ => false) && Nat.beq (P.cellsOf e) 3
 | _ => false
def aeo (P : Program) : ArgK → TypeId → Bool
 | .int, t => abY P t
 | .sl e t, ty => (match P.underlying ty with
   | some (.slice e') => Nat.beq e' e
   | _ => false) && ab1 P e t
 | .str, ty => match P.underlying ty with
   | some .string => true
   | _ => false
 | .agg n, t => ajq P t && (match P.cellTypes P.depth t with
   | some ts => Nat.beq ts.length n && ts.all (abY P)
   | none => false) && Nat.beq (P.cellsOf t) n
def abm (P : Program) : List ArgK → List TypeId → Bool
 | [], [] => true
 | k :: ks, t :: ts => aeo P k t && abm P ks ts
 | _, _ => false
theorem BK {t : TypeId} (h : abY P t = true) : P.underlying t = some (.int .i64) := by
 unfold abY at h
 split at h
 ·assumption
 ·cases h
theorem agy {W : World} {r : Reach} {base : Nat} {t : TypeId} {v : Value} (ht : P.underlying t = some (.int .i64)) (h : Cell.okWide P W r base t v) : ∃ n, v = .int .i64 n ∧ Qv n := by
 unfold Cell.okWide at h
 rw [ht] at h
 cases v <;> simp [Cell.ok, ht] at h
 rename_i k n
 obtain ⟨rfl, h⟩ := h
 refine ⟨n, rfl, ?_⟩
 exact h
theorem aco {n : Int} (h : (Lit.int .i64 n).wf = true) : Qv n := by
 simp only [Lit.wf, Bool.and_eq_true, decide_eq_true_eq] at h
 exact h
section
variable {H : Type} {enc : TypeId × Value → H}
theorem ajr {W : World} {sp : Nat → Bool} {hd : Bool} {e : TypeId} {t : Ty} (ht : ab1 P e t = true) {n : Nat} {cs : List Value} {x : DataW H × List MemPlace} (h : DataW.trod enc P W 0 sp hd n e cs = some x) :
 P.cellsOf e = t.w ∧ ∃ y : t.den, afX t y ∧ cs.length = t.w ∧ ∀ (i : Nat) (av : AV), (t.enc y)[i]? = some av → ∃ v, scal av = some v ∧ cs[i]? = some v := by
 cases t with
 | int k =>
   simp only [ab1, Bool.and_eq_true] at ht
   obtain ⟨h1, h2⟩ := ht
   split at h1
   ·rename_i k' hu
    have := of_decide_eq_true h1
    subst this
    obtain ⟨m, rfl, _, hw⟩ := DataW.trod_int hu h
    refine ⟨aJ h2, m, ?_, rfl, fun i av hi => ?_⟩
    ·simp only [Lit.wf, Bool.and_eq_true, decide_eq_true_eq] at hw
     exact hw
    ·match i, hi with
     | 0, hi =>
       simp only [Ty.enc, List.getElem?_cons_zero, Option.some.injEq] at hi
       subst hi
       exact ⟨_, rfl, rfl⟩
     | i + 1, hi => simp [Ty.enc] at hi
   ·cases h1
 | pt =>
   simp only [ab1, Bool.and_eq_true] at ht
   obtain ⟨h1, h2⟩ := ht
   have h2 := aJ h2
   split at h1
   ·rename_i len e' hu
    simp only [Bool.and_eq_true] at h1
    obtain ⟨h3, h4, h5⟩ := h1
    have h3 := aJ h3
    have h5 := aJ h5
    subst h3
    obtain ⟨xs, m, _, _, hlen, hxs, hel⟩ := DataW.trod_array hu h
    rw [h2] at hlen
    rw [h5] at hel
    match cs, hlen with
    | [c0, c1], _ =>
      have e0 := hel 0 (by omega)
      have e1 := hel 1 (by omega)
      rw [List.getElem?_eq_getElem (by omega)] at e0 e1
      obtain ⟨n0, k0, _, w0⟩ := DataW.trod_int (BK h4) e0
      obtain ⟨n1, k1, _, w1⟩ := DataW.trod_int (BK h4) e1
      simp at k0 k1
      subst k0 k1
      refine ⟨h2, (n0, n1), ⟨aco w0, aco w1⟩, rfl, fun i av hi => ?_⟩
      match i, hi with
      | 0, hi =>
        simp only [Ty.enc, List.getElem?_cons_zero, Option.some.injEq] at hi
        subst hi
        exact ⟨_, rfl, rfl⟩
      | 1, hi =>
        simp only [Ty.enc, List.getElem?_cons_succ, List.getElem?_cons_zero, Option.some.injEq] at hi
        subst hi
        exact ⟨_, rfl, rfl⟩
      | i + 2, hi => simp [Ty.enc] at hi
   ·cases h1
 | tr =>
   simp only [ab1, Bool.and_eq_true] at ht
   obtain ⟨h1, h2⟩ := ht
   have h2 := aJ h2
   split at h1
   ·rename_i len e' hu
    simp only [Bool.and_eq_true] at h1
    obtain ⟨h3, h4, h5⟩ := h1
    have h3 := aJ h3
    have h5 := aJ h5
    subst h3
    obtain ⟨xs, m, _, _, hlen, hxs, hel⟩ := DataW.trod_array hu h
    rw [h2] at hlen
    rw [h5] at hel
    match cs, hlen with
    | [c0, c1, c2], _ =>
      have e0 := hel 0 (by omega)
      have e1 := hel 1 (by omega)
      have e2 := hel 2 (by omega)
      rw [List.getElem?_eq_getElem (by omega)] at e0 e1 e2
      obtain ⟨n0, k0, _, w0⟩ := DataW.trod_int (BK h4) e0
      obtain ⟨n1, k1, _, w1⟩ := DataW.trod_int (BK h4) e1
      obtain ⟨n2, k2, _, w2⟩ := DataW.trod_int (BK h4) e2
      simp at k0 k1 k2
      subst k0 k1 k2
      refine ⟨h2, (n0, n1, n2), ⟨aco w0, aco w1, aco w2⟩, rfl, fun i av hi => ?_⟩
      match i, hi with
      | 0, hi =>
        simp only [Ty.enc, List.getElem?_cons_zero, Option.some.injEq] at hi
        subst hi
        exact ⟨_, rfl, rfl⟩
      | 1, hi =>
        simp only [Ty.enc, List.getElem?_cons_succ, List.getElem?_cons_zero, Option.some.injEq] at hi
        subst hi
        exact ⟨_, rfl, rfl⟩
      | 2, hi =>
        simp only [Ty.enc, List.getElem?_cons_succ, List.getElem?_cons_zero, Option.some.injEq] at hi
        subst hi
        exact ⟨_, rfl, rfl⟩
      | i + 3, hi => simp [Ty.enc] at hi
   ·cases h1
 | _ => simp [ab1] at ht
theorem ahT {β : Type} {Q : Nat → β → Prop} : ∀ {n : Nat}, (∀ i < n, ∃ y, Q i y) → ∃ l : List β, l.length = n ∧ ∀ i y, l[i]? = some y → Q i y
 | 0, _ => ⟨[], rfl, by simp⟩
 | n + 1, h => by
   obtain ⟨l, h1, h2⟩ := ahT (n := n) fun i hi => h i (by omega)
   obtain ⟨y, hy⟩ := h n (by omega)
   refine ⟨l ++ [y], by simp [h1], fun i z hz => ?_⟩
   rw [List.getElem?_append] at hz
   split at hz
   ·exact h2 i z hz
   ·rename_i hi
    have : i - l.length = 0 := by
     have := (List.getElem?_eq_some_iff.1 hz).1
     simp at this
     omega
    rw [this] at hz
    simp at hz
    subst hz
    have : i = n := by omega
    subst this
    exact hy
theorem anh {W : World} {base : Nat} {bad : Nat → Prop} (hbad : ∀ b, ¬ bad b) {e : TypeId} {t : Ty} {ty : TypeId} (hu : P.underlying ty = some (.slice e)) (he : ab1 P e t = true) {v : Value} (hv : Value.okWide P W .any base ty v)
 {d : DataW H} {ps : List MemPlace} (hT : DataW.Trod enc P W 0 (fun _ => true) true ty v d ps) : ∃ l : List t.den, l.length ≤ maxLen ∧ (∀ x ∈ l, afX t x) ∧ DIn W bad (.sl e t l) v := by
 obtain ⟨a0, len, cap, rfl⟩ := okWide_slice hu hv
 obtain ⟨fuel, hf⟩ := hT
 rcases DataW.trod_slice hu hf with ⟨h0, _⟩ | ⟨a, len', cap', elems, rest, n, _, h0, _, hb, hl, hm, hlen, hel, _⟩
 ·simp only [Value.cells, List.cons.injEq, Value.slice.injEq, and_true] at h0
  obtain ⟨rfl, rfl, rfl⟩ := h0
  refine ⟨[], by simp, by simp, ?_⟩
  simp only [DIn]
  exact ⟨none, 0, rfl, Nat.le_refl _, .inl trivial⟩
 ·simp only [Value.cells, List.cons.injEq, Value.slice.injEq, and_true] at h0
  obtain ⟨rfl, rfl, rfl⟩ := h0
  have each : ∀ i < len, ∃ y : t.den, afX t y ∧ ∀ (j : Nat) (av : AV), (t.enc y)[j]? = some av → ∃ v, scal av = some v ∧ W.cell? ((a.add (i * t.w)).add j) = some v := by
   intro i hi
   have h1 := hel i hi
   rw [List.getElem?_eq_getElem (by omega), Option.bind_eq_some_iff] at h1
   obtain ⟨cs, hcs, htr⟩ := h1
   obtain ⟨hc, y, hy, hlen2, hcell⟩ := ajr he htr
   rw [hc] at hcs
   obtain ⟨_, _, hcell2⟩ := World.cells?_some hcs
   refine ⟨y, hy, fun j av hj => ?_⟩
   obtain ⟨v, hv1, hv2⟩ := hcell j av hj
   have hjl : j < t.w := by
    have := (List.getElem?_eq_some_iff.1 hj).1
    rwa [oJ] at this
   exact ⟨v, hv1, by rw [hcell2 j hjl]; exact hv2⟩
  obtain ⟨l, hll, hl2⟩ := ahT each
  refine ⟨l, by omega, fun x hx => ?_, ?_⟩
  ·obtain ⟨i, hi, rfl⟩ := List.getElem_of_mem hx
   exact (hl2 i _ (List.getElem?_eq_getElem hi)).1
  ·simp only [DIn]
   refine ⟨some a, cap, by rw [hll], by omega, ?_⟩
   cases hz : l with
   | nil => exact .inl rfl
   | cons y0 r0 =>
     right
     have hspot : a = ⟨a.block, a.off, none⟩ := by
      obtain ⟨_, h3⟩ := hl2 0 y0 (by rw [hz]; rfl)
      have hw := IW t
      have hlt : 0 < (t.enc y0).length := by rw [oJ]; exact hw
      obtain ⟨v, _, hc⟩ := h3 0 _ (List.getElem?_eq_getElem hlt)
      rw [Nat.zero_mul] at hc
      have e1 : (a.add 0).add 0 = a := by simp [Addr.add]
      rw [e1] at hc
      unfold World.cell? at hc
      split at hc
      ·split at hc
       ·cases hc
       ·rename_i hs
        cases a with
        | mk b o s =>
          cases s with
          | none => rfl
          | some _ => simp at hs
      ·cases hc
     refine ⟨a.block, a.off, congrArg some hspot, hbad _, ?_⟩
     rw [← hz]
     intro i av hi
     have hdm : i / t.w * t.w + i % t.w = i := by rw [Nat.mul_comm]; exact Nat.div_add_mod i t.w
     rw [← hdm, PQ t l _ _ (Nat.mod_lt _ (IW t)), Option.bind_eq_some_iff] at hi
     obtain ⟨y, hy, hi⟩ := hi
     obtain ⟨v, hv1, hv2⟩ := (hl2 _ _ hy).2 _ _ hi
     refine ⟨v, hv1, ?_⟩
     rw [hspot, Addr.add_lit, Addr.add_lit] at hv2
     rw [← hdm, ← Nat.add_assoc]
     exact hv2
theorem amR {W : World} {base : Nat} {bad : Nat → Prop} (hbad : ∀ b, ¬ bad b) {k : ArgK} {t : TypeId} (hk : aeo P k t = true) {v : Value} (hv : Value.okWide P W .any base t v) {dw : DataW H} {ps : List MemPlace} (hT : DataW.Trod enc P W 0 (fun _ => true) true t v dw ps) :
 ∃ d, FitD k d ∧ DIn W bad d v ∧ ∀ ds vs μ, gy W bad ds vs μ → gy W bad (d :: ds) (v :: vs) μ := by
 cases k with
 | sl e ty =>
   simp only [aeo, Bool.and_eq_true] at hk
   obtain ⟨h1, h2⟩ := hk
   split at h1
   ·rename_i e' hu
    have := aJ h1
    subst this
    obtain ⟨l, k1, k2, k3⟩ := anh (bad := bad) hbad hu h2 hv hT
    exact ⟨.sl e' ty l, ⟨l, rfl, k1, k2⟩, k3, fun ds vs μ h => BX k3 h⟩
   ·cases h1
 | str =>
   simp only [aeo] at hk
   split at hk
   ·rename_i hu
    obtain ⟨fuel, hf⟩ := hT
    obtain ⟨s, hs0, _, hs⟩ := DataW.trod_string hu hf
    obtain rfl : v = .string s := by
     unfold Value.okWide at hv
     rw [hu] at hv
     unfold Cell.okWide at hv
     rw [hu] at hv
     cases v <;> simp [Cell.ok, hu] at hv
     simpa [Value.cells] using hs0
    exact ⟨.str s, ⟨s, rfl, hs⟩, by simp [DIn], fun ds vs μ h => BX (by simp [DIn]) h⟩
   ·cases hk
 | int =>
   have ht := BK hk
   unfold Value.okWide at hv
   rw [ht] at hv
   obtain ⟨n, rfl, hn⟩ := agy ht hv
   exact ⟨.int .i64 n, ⟨n, rfl, hn⟩, by simp [DIn], fun ds vs μ h => BX (by simp [DIn]) h⟩
 | agg n =>
   simp only [aeo, Bool.and_eq_true] at hk
   obtain ⟨⟨h1, h2⟩, h3⟩ := hk
   have h3 := aJ h3
   have hv' : ∃ cs, v = .agg cs ∧ cs.size = P.cellsOf t ∧ Row.okWide P W .any base t cs := by
    unfold Value.okWide at hv
    unfold ajq at h1
    split at h1
    ·rename_i hh; rw [hh] at hv; exact hv
    ·rename_i hh; rw [hh] at hv; exact hv
    ·cases h1
   obtain ⟨cs, rfl, hsz, ts, hts, _, hcell⟩ := hv'
   rw [hts] at h2
   simp only [Bool.and_eq_true] at h2
   obtain ⟨h4, h5⟩ := h2
   have h4 := aJ h4
   have key : ∀ l : List Value, (∀ v ∈ l, ∃ n, v = Value.int .i64 n ∧ Qv n) → ∃ ns : List Int, ns.length = l.length ∧ (∀ x ∈ ns, Qv x) ∧ DAll W bad (ns.map (D.int .i64)) l := by
    intro l
    induction l with
    | nil => intro _; exact ⟨[], rfl, by simp, by simp [DAll]⟩
    | cons v r ih =>
      intro h
      obtain ⟨n, hn, hr⟩ := h v (by simp)
      obtain ⟨ns, e1, e2, e3⟩ := ih fun v hv => h v (by simp [hv])
      refine ⟨n :: ns, by simp [e1], fun x hx => ?_, ?_⟩
      ·rcases List.mem_cons.1 hx with rfl | hx
       ·exact hr
       ·exact e2 x hx
      ·simp only [List.map_cons, DAll]
       exact ⟨by simp [DIn, hn], e3⟩
   obtain ⟨ns, e1, e2, e3⟩ := key cs.toList fun v hv => by
    obtain ⟨i, hi, rfl⟩ := List.getElem_of_mem hv
    have hi' : i < cs.size := by simpa using hi
    obtain ⟨u, hu, hc⟩ := hcell i cs[i] (by simp [hi'])
    have hut : abY P u = true := by
     have hm := List.mem_of_getElem? hu
     exact List.all_eq_true.1 h5 u hm
    exact agy (BK hut) (by simpa using hc)
   have hd : DIn W bad (.agg (ns.map (D.int .i64))) (.agg cs) := by
    simp only [DIn]
    exact ⟨cs, rfl, e3⟩
   exact ⟨.agg (ns.map (D.int .i64)), ⟨ns, by rw [e1]; simp; omega, rfl, e2⟩, hd, fun ds vs μ h => BX hd h⟩
theorem agH {W : World} {base : Nat} {bad : Nat → Prop} (hbad : ∀ b, ¬ bad b) : ∀ {ks : List ArgK} {ts : List TypeId} {vs : List Value} {dw : List (DataW H)} {ps : List MemPlace}, abm P ks ts = true → DataW.TrodAll enc P W 0 (fun _ => true) true ts vs dw ps → (∀ (j : Nat) t v, ts[j]? = some t → vs[j]? = some v → Value.okWide P W .any base t v) →
 ∃ ds, abC ks ds ∧ gy W bad ds vs []
 | [], [], [], [], _, _, _, _ => ⟨[], trivial, by simp [gy]⟩
 | k :: ks, t :: ts, v :: vs, dw :: dws, ps, hk, hl, hv => by
   simp only [abm, Bool.and_eq_true] at hk
   simp only [DataW.TrodAll] at hl
   obtain ⟨p, q, ht, hl, rfl⟩ := hl
   obtain ⟨ds, h1, h2⟩ := agH hbad hk.2 hl (fun j t v a b => hv (j + 1) t v (by simpa using a) (by simpa using b))
   obtain ⟨d, h3, _, h4⟩ := amR (bad := bad) hbad hk.1 (hv 0 t v rfl rfl) ht
   exact ⟨d :: ds, ⟨h3, h1⟩, h4 ds vs [] h2⟩
 | [], [], _ :: _, _, _, _, hl, _ => by simp [DataW.TrodAll] at hl
 | [], [], [], _ :: _, _, _, hl, _ => by simp [DataW.TrodAll] at hl
 | [], _ :: _, _, _, _, hk, _, _ => by simp [abm] at hk
 | _ :: _, [], _, _, _, hk, _, _ => by simp [abm] at hk
 | _ :: _, _ :: _, [], _, _, _, hl, _ => by simp [DataW.TrodAll] at hl
 | _ :: _, _ :: _, _ :: _, [], _, _, hl, _ => by simp [DataW.TrodAll] at hl
end
theorem Xk {H : Type} {enc : TypeId × Value → H} {w : World} {b : Nat} {sp : Nat → Bool} {hd : Bool} : ∀ {ts : List TypeId} {vs : List Value} {ds : List (DataW H)} {ps : List MemPlace}, DataW.TrodAll enc P w b sp hd ts vs ds ps → ds.length = ts.length
 | [], [], [], _, _ => rfl
 | t :: ts, v :: vs, d :: ds, ps, h => by
   simp only [DataW.TrodAll] at h
   obtain ⟨p, q, _, h2, _⟩ := h
   simp [Xk h2]
 | [], _ :: _, _, _, h => by simp [DataW.TrodAll] at h
 | [], [], _ :: _, _, h => by simp [DataW.TrodAll] at h
 | _ :: _, [], _, _, h => by simp [DataW.TrodAll] at h
 | _ :: _, _ :: _, [], _, h => by simp [DataW.TrodAll] at h
section
variable [Inhabited aQ]
theorem amM {H : Type} {enc : TypeId × Value → H} {f : FuncId} {fn : Func} {s : ChangeSpec} (hl : laidOutB P = true) (hread0 : fn.params.toList.all (fun t => P.readableRec t && decide (t < P.types.size)) = true)
 {tb : TypeId} (hres : fn.resultTypes = #[tb]) (hbool : P.underlying tb = some .bool) (hvars : s.vars = [])
 {S : Nat → List D → (Res → Option Res) → Option Res} (hgood : ∀ n, az P f (S n)) {ks : List ArgK} (hks : abm P ks fn.params.toList = true)
 (hlaw : ∀ ds, abC ks ds → ∃ k, S k ds some = some ⟨[.bool true], []⟩)
 {W : World} {base : Nat} {args : Array Value} {ds gs : List (DataW H)} {before : List MemPlace}
 (hspec : ∀ ds : List (DataW H), ds.length = fn.params.toList.length → s.fn H ds = { results := [.lit (.bool true)], args := ds })
 (hval : ∀ (j : Nat) t v, fn.params[j]? = some t → args[j]? = some v → Value.okWide P W .any base t v)
 (hW : DataW.Whole enc P fn.params.toList s.vars false W args.toList ds gs before) :
 Calls P f args W fun e W' => ∃ v, e = .returned v ∧ s.post enc P fn false true false false W args v W' := by
 have hW' := hW
 obtain ⟨p, q, hA, hV, rfl, _, _⟩ := hW
 rw [hvars] at hV
 obtain ⟨hgs, hq⟩ : gs = [] ∧ q = [] := by
  cases gs with
  | nil => exact ⟨rfl, hV⟩
  | cons => simp [DataW.TrodVars] at hV
 subst hgs hq
 obtain ⟨dsD, hfit, hin⟩ := agH (bad := (· ∈ ([] : List Nat))) (by simp) hks hA (fun j t v a b => hval j t v (by simpa using a) (by simpa using b))
 refine (akh hgood hin (hlaw dsD hfit)).mono fun e W' ⟨he, hb⟩ => ⟨.bool true, he, ?_⟩
 have hlt : ∀ x ∈ p, x.block < W.heap.size := fun x hx => hW'.lt x (by simp [hx])
 have hsp : s.fn H (ds ++ []) = { results := [.lit (.bool true)], args := ds } := by
  rw [List.append_nil]
  exact hspec ds (Xk hA)
 have hread : ∀ t ∈ fn.params.toList, P.readableRec t = true ∧ t < P.types.size := fun t ht => by
  have := List.all_eq_true.1 hread0 t ht
  simpa using this
 refine ⟨ds, [], p ++ [], [], p, [], hW', ?_, ?_, ?_, hb.frame _, fun h => by cases h⟩
 ·rw [hsp, hres]
  exact trodAll_mk1 (shut_bool hbool true)
 ·rw [hsp]
  exact ab7 hl hb hread hA hlt
 ·rw [hvars, hsp]
  exact rfl
end
end Go.Ev
