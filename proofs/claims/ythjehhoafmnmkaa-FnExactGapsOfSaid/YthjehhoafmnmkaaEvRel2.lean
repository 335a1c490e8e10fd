/- The evaluator's state held against the model's world, continued: the relation, and the four ways in which it goes on. -/
import Derived.Test.YthjehhoafmnmkaaEvRel
import Derived.Lib.FrozenHead
import Derived.Lib.OthersKept
namespace Go.Ev
open Go.RowKit
structure az where
 q : Prop
abbrev Qt [Inhabited az] : Prop := (default : az).q
theorem gy (h : Heap) (id : Nat) (b : Blk) (j : Nat) : look (upd h id b) j = if j = id then some b else look h j := by
 induction h with
 | nil =>
   by_cases e : j = id
   ·subst e; simp [upd, look]
   ·have : Nat.beq id j = false := by cases hh : Nat.beq id j with
     | true => exact absurd (ay hh).symm e
     | false => rfl
    simp [upd, look, e, this]
 | cons p r ih =>
   obtain ⟨i, c⟩ := p
   simp only [upd]
   cases hi : Nat.beq i id with
   | true =>
     have := ay hi; subst this
     by_cases e : j = i
     ·subst e; simp [look]
     ·have : Nat.beq i j = false := by cases hh : Nat.beq i j with
       | true => exact absurd (ay hh).symm e
       | false => rfl
      simp [look, e, this]
   | false =>
     simp only [cond_false, look]
     cases hj : Nat.beq i j with
     | true =>
       have := ay hj; subst this
       have := gW hi
       simp [this]
     | false => simpa using ih
theorem Dz (h : Heap) (id j : Nat) : look (del h id) j = if j = id then none else look h j := by
 induction h with
 | nil => simp [del, look]
 | cons p r ih =>
   obtain ⟨i, c⟩ := p
   simp only [del]
   cases hi : Nat.beq i id with
   | true =>
     have := ay hi; subst this
     by_cases e : j = i
     ·subst e; simpa using ih
     ·have : Nat.beq i j = false := by cases hh : Nat.beq i j with
       | true => exact absurd (ay hh).symm e
       | false => rfl
      simpa [look, this] using ih
   | false =>
     simp only [cond_false, look]
     cases hj : Nat.beq i j with
     | true =>
       have := ay hj; subst this
       have := gW hi
       simp [this]
     | false => simpa using ih
theorem WX (h : Heap) (id j : Nat) : look (pz id h) j = (look h j).map (mZ id) := by
 induction h with
 | nil => simp [pz, look]
 | cons p r ih =>
   obtain ⟨i, c⟩ := p
   simp only [pz, look]
   cases Nat.beq i j <;> simp [ih]
theorem agx (h : Heap) (id : Nat) (b : Blk) (j : Nat) : look (h ++ [(id, b)]) j = match look h j with
 | some x => some x
 | none => if j = id then some b else none := by
 induction h with
 | nil =>
   simp only [List.nil_append, look]
   by_cases e : j = id
   ·subst e; simp
   ·have : Nat.beq id j = false := by cases hh : Nat.beq id j with
     | true => exact absurd (ay hh).symm e
     | false => rfl
    simp [e, this]
 | cons p r ih =>
   obtain ⟨i, c⟩ := p
   simp only [List.cons_append, look]
   cases Nat.beq i j <;> simp [ih]
theorem mV (st : St) (id : Nat) (b : Blk) (j : Nat) : look (st.fresh id b).heap j = if j = id then some b else (look st.heap j).map (mZ id) := by
 simp only [St.fresh, agx, WX, Dz]
 by_cases e : j = id
 ·simp [e]
 ·simp only [e, if_false]
  cases look st.heap j <;> simp
section
variable [Inhabited az]
structure Step (w w' : World) (S : Nat → Prop) : Prop where
 os : w'.os = w.os
 tape : w'.tape = w.tape
 output : w'.output = w.output
 size : w.heap.size ≤ w'.heap.size
 block : ∀ k, k < w.heap.size → ¬ S k → w'.heap[k]? = w.heap[k]?
 drawn : Qt → w.drawn ≤ w'.drawn
theorem Step.refl (w : World) (S : Nat → Prop) : Step w w S := ⟨rfl, rfl, rfl, Nat.le_refl _, fun _ _ _ => rfl, fun _ => Nat.le_refl _⟩
theorem Step.trans {a b c : World} {S T : Nat → Prop} (h : Step a b S) (k : Step b c T) : Step a c (fun x => S x ∨ T x) :=
 ⟨k.os.trans h.os, k.tape.trans h.tape, k.output.trans h.output, Nat.le_trans h.size k.size,
  fun i hi hn => (k.block i (Nat.lt_of_lt_of_le hi h.size) (fun e => hn (.inr e))).trans (h.block i hi (fun e => hn (.inl e))), fun q => Nat.le_trans (h.drawn q) (k.drawn q)⟩
theorem Step.mono {w w' : World} {S T : Nat → Prop} (h : Step w w' S) (hs : ∀ k, k < w.heap.size → S k → T k) : Step w w' T :=
 ⟨h.os, h.tape, h.output, h.size, fun k hk hn => h.block k hk (fun e => hn (hs k hk e)), h.drawn⟩
theorem Step.alloc (w : World) (o : Obj) (S : Nat → Prop) : Step w (w.alloc o) S :=
 ⟨rfl, rfl, rfl, by simp, fun k hk _ => Below.heap_alloc w o k hk, fun _ => Nat.le_refl _⟩
theorem Step.setRow (w : World) (g : Nat) (cs : Array Value) : Step w (w.setRow g cs) (· = g) :=
 ⟨rfl, rfl, rfl, by simp, fun k _ hn => setRow_other w g k cs hn, fun _ => Nat.le_refl _⟩
end
structure iY (L : LM) (N : Nat) (μ : List Nat) (w : World) (l : Loc) (b : Blk) : Prop where
 hw : l.w = b.w
 hn : l.n = b.n
 hm : l.mode = b.mode
 le : b.mode ≤ 2
 cells : l.backed = true → ∀ (i : Nat) (av : AV), b.flat[i]? = some av → ∃ v, w.cell? ⟨l.b, l.o + i, none⟩ = some v ∧ V L av v ∧ v.oneCell' = true
 ro : l.backed = true → b.mode = 0 → b.flat ≠ [] → l.b < N ∧ l.b ∉ μ
 own : l.backed = true → b.mode ≠ 0 → l.o = 0 ∧ ∃ cur, w.heap[l.b]? = some (.cells cur b.e (0, 0)) ∧ cur.size = l.size ∧ b.flat.length ≤ l.size
 m1 : l.backed = true → b.mode = 1 → l.b ∈ μ
 m2 : l.backed = true → b.mode = 2 → N ≤ l.b
 nb : l.backed = false → b.flat = []
def dw : (t : Ty) → t.den → Value
 | .int k, n => .int k n
 | .bool, b => .bool b
 | .str, s => .string s
 | .pt, p => .agg #[.int .i64 p.1, .int .i64 p.2]
 | .tr, p => .agg #[.int .i64 p.1, .int .i64 p.2.1, .int .i64 p.2.2]
 | .qd, p => .agg #[.int .i64 p.1, .int .i64 p.2.1, .int .i64 p.2.2.1, .int .i64 p.2.2.2]
 | .hx, p => .agg #[.int .i64 p.1, .int .i64 p.2.1, .int .i64 p.2.2.1, .int .i64 p.2.2.2.1, .int .i64 p.2.2.2.2.1, .int .i64 p.2.2.2.2.2]
def uJ (kt vt : Ty) : List kt.den → List vt.den → List MapEntry → Prop
 | [], [], [] => True
 | k :: ks, v :: vs, e :: es => e.key = dw kt k ∧ e.val = dw vt v ∧ uJ kt vt ks vs es
 | _, _, _ => False
def aeR (w : World) (g : Nat) (kt vt : Ty) (ks : List kt.den) (vs : List vt.den) : Prop :=
 ∃ es clock, w.heap[g]? = some (.map es clock) ∧ uJ kt vt ks vs es.toList ∧ (es.toList.map (·.born)).Pairwise (· < ·) ∧ ∀ e ∈ es.toList, e.born < clock
def rJ (w : World) (b : Nat) : Option Nat := (w.cell? ⟨b, 1, none⟩).bind Value.ownBlock
def yz (L : LM) (h : Heap) (w : World) (id x : Nat) : Prop := ∃ e eb s l, look h id = some (.bld e eb s) ∧ L id = some l ∧ (l.b = x ∨ rJ w l.b = some x)
def Hid (L : LM) (h : Heap) (w : World) (x : Nat) : Prop := ∃ id, yz L h w id x
def Vis (L : LM) (h : Heap) (x : Nat) : Prop := ∃ j b m, look h j = some b ∧ L j = some m ∧ m.backed = true ∧ m.mode ≠ 0 ∧ m.b = x
structure xw (N : Nat) (L : LM) (h : Heap) (w : World) : Prop where
 at_ : ∀ (id : Nat) (e : TypeId) (kt vt : Ty) (ks : List kt.den) (vs : List vt.den), look h id = some (.map e kt vt ks vs) → ∃ l, L id = some l ∧ N ≤ l.b ∧ aeR w l.b kt vt ks vs
 inj : ∀ (i j : Nat) (b c : Blk) (l m : Loc), look h i = some b → look h j = some c → b.isMap = true → c.isMap = true → L i = some l → L j = some m → i ≠ j → l.b ≠ m.b
 bat : ∀ (id : Nat) (e eb : TypeId) (s : ByteArray), look h id = some (.bld e eb s) → ∃ l, L id = some l ∧ l.o = 0 ∧ Lib.IsBuilderF e eb N l.b (Lib.strCells s) w
 far : ∀ x, Hid L h w x → ¬ Vis L h x
 two : ∀ i j x, i ≠ j → yz L h w i x → ¬ yz L h w j x
structure Fix where
 w0 : World
 μ : List Nat
 L0 : LM
 low : Nat
abbrev Fix.N (F : Fix) : Nat := F.w0.heap.size
section
variable [Inhabited az]
structure RelL (F : Fix) (L : LM) (st : St) (a : Act) (w : World) : Prop where
 len : st.slots.length = a.tmps.size
 slots : ∀ (i : Nat) (av : AV), st.slots[i]? = some av → V L av (a.tmps.getD i undef)
 heap : ∀ (id : Nat) (b : Blk), look st.heap id = some b → ∃ l, L id = some l ∧ iY L F.N F.μ w l b
 inj : ∀ (i j : Nat) (b c : Blk) (l m : Loc), look st.heap i = some b → look st.heap j = some c → L i = some l → L j = some m → i ≠ j → l.backed = true → m.backed = true → l.mode ≠ 0 → m.mode ≠ 0 → l.b ≠ m.b
 defers : a.defers = []
 below : Step F.w0 w (· ∈ F.μ)
 mu : ∀ g ∈ F.μ, g < F.N
 base : ∀ id, id < F.low → L id = F.L0 id
 low : ∀ (id : Nat) (l : Loc), F.L0 id = some l → l.mode ≠ 2
 maps : xw F.N L st.heap w
end
theorem uk {w : World} {e eb : TypeId} {N b : Nat} {bs : List Value} (h : Lib.IsBuilderF e eb N b bs w) : N ≤ b ∧ b < w.heap.size := by
 rcases h with h | h
 ·exact ⟨h.1, h.lt⟩
 ·exact ⟨h.1, h.lt⟩
theorem Ox {w : World} {e eb : TypeId} {N b : Nat} {bs : List Value} (h : Lib.IsBuilderF e eb N b bs w) : ∃ p v, w.heap[b]? = some (.cells #[p, v] e (0, 0)) ∧ rJ w b = v.ownBlock ∧ w.ownsRowF N eb 1 v bs.length bs := by
 have key : ∀ {p : Value}, Lib.BuilderAtF e eb N b p bs w → ∃ p v, w.heap[b]? = some (.cells #[p, v] e (0, 0)) ∧ rJ w b = v.ownBlock ∧ w.ownsRowF N eb 1 v bs.length bs := fun {p} hp => by
  obtain ⟨_, v, hb, ho, _⟩ := hp
  refine ⟨p, v, hb, ?_, ho⟩
  unfold rJ
  rw [Lib.cell_of_heap hb]
  rfl
 rcases h with h | h
 ·exact key h
 ·exact key h
theorem AY {w : World} {e eb : TypeId} {N b g : Nat} {bs : List Value} (h : Lib.IsBuilderF e eb N b bs w) (hg : rJ w b = some g) : N ≤ g ∧ g < w.heap.size ∧ ∃ cur fz, w.heap[g]? = some (.cells cur eb fz) := by
 obtain ⟨p, v, hb, h1, h2⟩ := Ox h
 rw [h1] at hg
 rcases h2.2 with ⟨rfl, _⟩ | ⟨g', cap, cur, fz, rfl, hN, hgg, _⟩
 ·simp [Value.ownBlock] at hg
 ·simp only [Value.ownBlock, Option.some.injEq] at hg
  subst hg
  exact ⟨hN, (Array.getElem?_eq_some_iff.1 hgg).1, cur, fz, hgg⟩
theorem Dq {w w' : World} {e eb : TypeId} {N b : Nat} {bs : List Value} (h : Lib.IsBuilderF e eb N b bs w) (h1 : w'.heap[b]? = w.heap[b]?) (h2 : ∀ g, rJ w b = some g → w'.heap[g]? = w.heap[g]?) : Lib.IsBuilderF e eb N b bs w' ∧ rJ w' b = rJ w b := by
 have hbuf : rJ w' b = rJ w b := by
  unfold rJ
  rw [World.cell?_of_block (w := w) (w' := w') (a := ⟨b, 1, none⟩) h1]
 refine ⟨?_, hbuf⟩
 have key : ∀ {p : Value}, Lib.BuilderAtF e eb N b p bs w → Lib.BuilderAtF e eb N b p bs w' := fun {p} hp => by
  obtain ⟨hN, v, hb, ho, hne⟩ := hp
  have hbv : rJ w b = v.ownBlock := by
   unfold rJ
   rw [Lib.cell_of_heap hb]
   rfl
  refine ⟨hN, v, h1.trans hb, ⟨ho.1, ?_⟩, hne⟩
  rcases ho.2 with h | ⟨g, cap, cur, fz, rfl, hNg, hgg, hr⟩
  ·exact .inl h
  ·exact .inr ⟨g, cap, cur, fz, rfl, hNg, (h2 g (by rw [hbv]; rfl)).trans hgg, hr⟩
 exact h.elim (fun x => .inl (key x)) (fun x => .inr (key x))
theorem Rw {N : Nat} {L L' : LM} {h h' : Heap} {w w' : World} (H : xw N L h w) (f : Nat → Nat) (hf : ∀ j b, look h' j = some b → b.isMap = true → look h (f j) = some b ∧ L' j = L (f j))
 (hh : ∀ x, x < w.heap.size → Hid L h w x → w'.heap[x]? = w.heap[x]?) {id x : Nat} (hx : yz L' h' w' id x) : yz L h w (f id) x ∧ x < w.heap.size := by
 obtain ⟨e, eb, s, l, hl, hL, ho⟩ := hx
 obtain ⟨h1, h2⟩ := hf id _ hl rfl
 obtain ⟨l2, hL2, _, hB⟩ := H.bat _ e eb s h1
 rw [h2] at hL
 rw [hL] at hL2
 cases hL2
 have hk := (Dq hB (hh _ (uk hB).2 ⟨_, e, eb, s, l, h1, hL, .inl rfl⟩) fun g hg => hh _ (AY hB hg).2.1 ⟨_, e, eb, s, l, h1, hL, .inr hg⟩).2
 rw [hk] at ho
 refine ⟨⟨e, eb, s, l, h1, hL, ho⟩, ?_⟩
 rcases ho with ho | ho
 ·rw [← ho]; exact (uk hB).2
 ·exact (AY hB ho).2.1
theorem xw.tr {N : Nat} {L L' : LM} {h h' : Heap} {w w' : World} (H : xw N L h w) (f : Nat → Nat) (hf : ∀ j b, look h' j = some b → b.isMap = true → look h (f j) = some b ∧ L' j = L (f j))
 (hi : ∀ i j b c, look h' i = some b → look h' j = some c → b.isMap = true → c.isMap = true → i ≠ j → f i ≠ f j) (hw : ∀ g es c, N ≤ g → w.heap[g]? = some (.map es c) → w'.heap[g]? = some (.map es c))
 (hh : ∀ x, x < w.heap.size → Hid L h w x → w'.heap[x]? = w.heap[x]?) (hv : ∀ x, x < w.heap.size → Vis L' h' x → Vis L h x ∨ ¬ Hid L h w x) : xw N L' h' w' where
 at_ := fun id e kt vt ks vs hl => by
  obtain ⟨h1, h2⟩ := hf id _ hl rfl
  obtain ⟨l, hL, hN, es, c, hm, hr⟩ := H.at_ _ e kt vt ks vs h1
  exact ⟨l, by rw [h2, hL], hN, es, c, hw _ _ _ hN hm, hr⟩
 inj := fun i j b c l m h1 h2 hb hc hL hM hne => by
  obtain ⟨a1, a2⟩ := hf i b h1 hb
  obtain ⟨b1, b2⟩ := hf j c h2 hc
  exact H.inj _ _ b c l m a1 b1 hb hc (by rw [← a2]; exact hL) (by rw [← b2]; exact hM) (hi i j b c h1 h2 hb hc hne)
 bat := fun id e eb s hl => by
  obtain ⟨h1, h2⟩ := hf id _ hl rfl
  obtain ⟨l, hL, ho, hB⟩ := H.bat _ e eb s h1
  exact ⟨l, by rw [h2, hL], ho, (Dq hB (hh _ (uk hB).2 ⟨_, e, eb, s, l, h1, hL, .inl rfl⟩) fun g hg => hh _ (AY hB hg).2.1 ⟨_, e, eb, s, l, h1, hL, .inr hg⟩).1⟩
 far := fun x hx hvx => by
  obtain ⟨id, hx⟩ := hx
  obtain ⟨h1, h2⟩ := Rw H f hf hh hx
  rcases hv x h2 hvx with h | h
  ·exact H.far x ⟨_, h1⟩ h
  ·exact h ⟨_, h1⟩
 two := fun i j x hne h1 h2 => by
  have b1 : ∃ b, look h' i = some b ∧ b.isMap = true := by obtain ⟨e, eb, s, l, hl, _⟩ := h1; exact ⟨_, hl, rfl⟩
  have b2 : ∃ b, look h' j = some b ∧ b.isMap = true := by obtain ⟨e, eb, s, l, hl, _⟩ := h2; exact ⟨_, hl, rfl⟩
  obtain ⟨b, b1, b1'⟩ := b1
  obtain ⟨c, b2, b2'⟩ := b2
  exact H.two _ _ x (hi i j b c b1 b2 b1' b2' hne) (Rw H f hf hh h1).1 (Rw H f hf hh h2).1
section
variable [Inhabited az]
theorem xw.step {N : Nat} {L L' : LM} {h h' : Heap} {w w' : World} {S : Nat → Prop} (H : xw N L h w) (hS : Step w w' S) (hf : ∀ j b, look h' j = some b → b.isMap = true → look h j = some b ∧ L' j = L j)
 (hc : ∀ g es c, N ≤ g → w.heap[g]? = some (.map es c) → ¬ S g) (hh : ∀ x, Hid L h w x → ¬ S x) (hv : ∀ x, x < w.heap.size → Vis L' h' x → Vis L h x ∨ ¬ Hid L h w x) : xw N L' h' w' :=
 H.tr id hf (fun _ _ _ _ _ _ _ _ h => h) (fun g es c hN hm => (hS.block g (Array.getElem?_eq_some_iff.1 hm).1 (hc g es c hN hm)).trans hm) (fun x hx hX => hS.block x hx (hh x hX)) hv
end
theorem abq {b : Blk} (h : b.mode ≠ 0) : b.isMap = false := by cases b <;> first | rfl | exact absurd rfl h
theorem Vis.upd {L : LM} {h : Heap} {id : Nat} {b c : Blk} {x : Nat} (hc : look h id = some c) (hx : Vis L (upd h id b) x) : Vis L h x := by
 obtain ⟨j, d, m, h1, h2, h3⟩ := hx
 rw [gy] at h1
 by_cases e : j = id
 ·exact ⟨j, c, m, by rw [e]; exact hc, h2, h3⟩
 ·rw [if_neg e] at h1
  exact ⟨j, d, m, h1, h2, h3⟩
section
variable [Inhabited az]
theorem xw.upd {N : Nat} {L : LM} {h : Heap} {w : World} (H : xw N L h w) {id : Nat} {b c0 : Blk} (hc0 : look h id = some c0) (hb : b.isMap = false) : xw N L (upd h id b) w :=
 H.step (S := fun _ => False) (Step.refl w _) (fun j c hj hm => by
  rw [gy] at hj
  by_cases e : j = id
  ·rw [if_pos e] at hj
   rw [← Option.some.inj hj, hb] at hm
   cases hm
  ·rw [if_neg e] at hj
   exact ⟨hj, rfl⟩) (fun _ _ _ _ _ h => h) (fun _ _ h => h) fun x _ hx => .inl (hx.upd hc0)
end
theorem agM {L : LM} {st : St} {id : Nat} {blk : Blk} {l' : Loc} {w : World} {x : Nat} (hb : blk.isMap = false) (hx : Hid (L.set id l') (st.fresh id blk).heap w x) : Hid L st.heap w x := by
 obtain ⟨j, e, eb, s, l, hl, hL, ho⟩ := hx
 by_cases ej : j = id
 ·rw [mV, if_pos ej] at hl
  rw [Option.some.inj hl] at hb
  cases hb
 ·rw [mV, if_neg ej, Option.map_eq_some_iff] at hl
  obtain ⟨c, hc, he⟩ := hl
  simp only [LM.set, ej, if_false] at hL
  cases c with
  | bld e2 eb2 s2 => exact ⟨j, e2, eb2, s2, l, hc, hL, ho⟩
  | _ => cases he
theorem adP {id : Nat} {b : Blk} (h : (mZ id b).isMap = true) : b.isMap = true ∧ mZ id b = b := by
 cases b <;> first | exact ⟨rfl, rfl⟩ | cases h
section
variable [Inhabited az]
def Rel (F : Fix) (st : St) (a : Act) (w : World) : Prop := ∃ L, RelL F L st a w
end
theorem aa3 (L : LM) (v : Value) : V L (ny v) v := by
 cases v with
 | pointer a => cases a <;> simp [ny, V]
 | slice a l c =>
   cases a with
   | some a => simp [ny, V]
   | none =>
     simp only [ny]
     cases h : (Nat.beq l 0 && Nat.beq c 0) with
     | false => simp [V]
     | true =>
       simp only [Bool.and_eq_true] at h
       simp [V, ay h.1, ay h.2]
 | func fn first caps =>
   cases fn with
   | func f =>
     simp only [ny]
     split
     ·rename_i h1 h2
      simp only [V]
      have e1 : first = #[] := by simpa using h1
      exact ⟨caps, by rw [e1], by rw [h2]; simp [VAll]⟩
     ·simp [V]
   | _ => simp [ny, V]
 | _ => simp [ny, V]
theorem zx (L : LM) (v : Value) : V L (mW v) v := by
 cases v with
 | agg cs =>
   simp only [mW, V]
   refine ⟨cs, rfl, wW (by simp) fun i x hx => ?_⟩
   simp only [List.getElem?_map, Option.map_eq_some_iff] at hx
   obtain ⟨u, hu, rfl⟩ := hx
   exact ⟨u, hu, aa3 L u⟩
 | _ => simp only [mW]; exact aa3 L _
section
variable {F : Fix} {L : LM} {st : St} {a : Act} {w : World}
section
variable [Inhabited az]
theorem RelL.get (h : RelL F L st a w) (x : Operand) : V L (st.get x) (a.eval x) := by
 cases x with
 | tmp t =>
   simp only [St.get, Act.eval]
   cases hs : st.slots[t]? with
   | none => simp [List.getD, hs, V]
   | some av => simpa [List.getD, hs] using h.slots t av hs
 | const v => exact zx L v
 | global g => simp [St.get, V]
 | func f => exact ⟨#[], rfl, by simp [VAll]⟩
theorem RelL.put (h : RelL F L st a w) {av : AV} {v : Value} (hv : V L av v) (dst : Option Tmp) : RelL F L (st.put dst av) (a.put dst v) w := by
 cases dst with
 | none => exact h
 | some d =>
   refine { h with len := by simp [St.put, Act.put, h.len], slots := fun i x hx => ?_ }
   simp only [St.put, List.getElem?_set] at hx
   simp only [Act.put, Array.getD_eq_getD_getElem?, Array.getElem?_setIfInBounds]
   split at hx
   ·rename_i e
    subst e
    split at hx
    ·rename_i hl
     simp at hx
     subst hx
     have : d < a.tmps.size := by rw [← h.len]; exact hl
     simpa [this] using hv
    ·simp at hx
   ·rename_i e
    have := h.slots i x hx
    simpa [e, Array.getD_eq_getD_getElem?] using this
end
theorem aiU {p : Addr} {v : Value} (h : w.cell? p = some v) : p.block < w.heap.size := World.block_lt_of_cell? w p h
section
variable [Inhabited az]
theorem Step.cell {w w' : World} {S : Nat → Prop} (h : Step w w' S) {p : Addr} {v : Value} (hc : w.cell? p = some v) (hn : ¬ S p.block) : w'.cell? p = some v :=
 (World.cell?_of_block (h.block p.block (aiU hc) hn)).trans hc
end
theorem tK {k : Nat} {o : Obj} (h : w.heap[k]? = some o) : k < w.heap.size := (Array.getElem?_eq_some_iff.1 h).1
section
variable [Inhabited az]
theorem iY.keep {N : Nat} {μ : List Nat} {l : Loc} {b : Blk} {w' : World} {S : Nat → Prop} (h : iY L N μ w l b) (hS : Step w w' S)
 (hne : l.backed = true → b.flat ≠ [] ∨ b.mode ≠ 0 → ¬ S l.b) : iY L N μ w' l b :=
 { h with
   cells := fun hb i av hi => by
    obtain ⟨v, hc, hv⟩ := h.cells hb i av hi
    exact ⟨v, hS.cell hc (hne hb (.inl fun e => by simp [e] at hi)), hv⟩
   own := fun hb hm => by
    obtain ⟨ho, cur, hc, hr⟩ := h.own hb hm
    exact ⟨ho, cur, (hS.block _ (tK hc) (hne hb (.inr hm))).trans hc, hr⟩ }
end
theorem KZ {x : AV} {u : Value} (h : scal x = some u) (id : Nat) : x.names id = false := by
 cases x <;> simp [scal] at h <;> rfl
theorem qy (id : Nat) (b : Blk) : (mZ id b).flat = b.flat.map (iW id) := by
 cases b with
 | rows m e t l =>
   simp only [mZ, Blk.flat]
   symm
   have : ∀ x ∈ l.flatMap t.enc, iW id x = x := by
    intro x hx
    obtain ⟨y, _, hy⟩ := List.mem_flatMap.1 hx
    obtain ⟨u, hu⟩ := ZY t y x hy
    simp [iW, KZ hu]
   conv => rhs; rw [← List.map_id (l.flatMap t.enc)]
   exact List.map_congr_left fun x hx => by simp [this x hx]
 | mix m e l => rfl
 | map => rfl
 | bld => rfl
theorem lZ (id : Nat) (b : Blk) : (mZ id b).mode = b.mode := by cases b <;> rfl
theorem abG (id : Nat) (b : Blk) : (mZ id b).e = b.e := by cases b <;> rfl
theorem acg (id : Nat) (b : Blk) : (mZ id b).w = b.w := by cases b <;> rfl
theorem abR (id : Nat) (b : Blk) : (mZ id b).n = b.n := by cases b <;> simp [mZ, Blk.n]
theorem iY.killed {N : Nat} {μ : List Nat} {l : Loc} {b : Blk} (h : iY L N μ w l b) (id : Nat) (l' : Loc) : iY (L.set id l') N μ w l (mZ id b) where
 hw := by rw [acg]; exact h.hw
 hn := by rw [abR]; exact h.hn
 hm := by rw [lZ]; exact h.hm
 le := by rw [lZ]; exact h.le
 cells := fun hb i av hi => by
  rw [qy, List.getElem?_map, Option.map_eq_some_iff] at hi
  obtain ⟨x, hx, rfl⟩ := hi
  obtain ⟨v, hc, hv, h1⟩ := h.cells hb i x hx
  exact ⟨v, hc, adi hv, h1⟩
 ro := fun hb hm hf => h.ro hb (by rw [← lZ id b]; exact hm) (fun e => hf (by rw [qy, e]; rfl))
 own := fun hb hm => by
  rw [abG, qy, List.length_map]
  exact h.own hb (by rw [← lZ id b]; exact hm)
 m1 := fun hb hm => h.m1 hb (by rw [← lZ id b]; exact hm)
 m2 := fun hb hm => h.m2 hb (by rw [← lZ id b]; exact hm)
 nb := fun hb => by rw [qy, h.nb hb]; rfl
section
variable [Inhabited az]
theorem RelL.freshM (h : RelL F L st a w) {id : Nat} {blk : Blk} {l' : Loc} {w' : World} {S : Nat → Prop} (hS : Step w w' S)
 (hid : F.low ≤ id)
 (hkeep : ∀ (j : Nat) (b : Blk) (l : Loc), j ≠ id → look st.heap j = some b → L j = some l → l.backed = true → b.flat ≠ [] ∨ b.mode ≠ 0 → ¬ S l.b)
 (hfr : ∀ k, S k → k < w.heap.size → F.N ≤ k ∨ k ∈ F.μ)
 (hb : iY (L.set id l') F.N F.μ w' l' blk)
 (hinj : l'.backed = true → l'.mode ≠ 0 → ∀ (j : Nat) (b : Blk) (l : Loc), j ≠ id → look st.heap j = some b → L j = some l → l.backed = true → l.mode ≠ 0 → l.b ≠ l'.b)
 (hmp : ∀ g es c, F.N ≤ g → w.heap[g]? = some (.map es c) → ¬ S g)
 (hbm : blk.isMap = true → (∀ e kt vt ks vs, blk = .map e kt vt ks vs → F.N ≤ l'.b ∧ aeR w' l'.b kt vt ks vs) ∧ ∀ (j : Nat) (b : Blk) (l : Loc), j ≠ id → look st.heap j = some b → b.isMap = true → L j = some l → l.b ≠ l'.b)
 (hbb : ∀ e eb s, blk = .bld e eb s → w.heap.size ≤ l'.b ∧ l'.o = 0 ∧ Lib.IsBuilderF e eb F.N l'.b (Lib.strCells s) w' ∧ rJ w' l'.b = none)
 (hhs : ∀ x, Hid L st.heap w x → ¬ S x)
 (hnv : l'.backed = true → l'.mode ≠ 0 → w.heap.size ≤ l'.b ∨ ¬ Hid L st.heap w l'.b) :
 RelL F (L.set id l') (st.fresh id blk) a w' where
 maps := by
  have old : ∀ j b, j ≠ id → look (st.fresh id blk).heap j = some b → b.isMap = true → look st.heap j = some b := fun j b hj hl hm => by
   rw [mV, if_neg hj, Option.map_eq_some_iff] at hl
   obtain ⟨c, hc, rfl⟩ := hl
   rw [(adP hm).2]
   exact hc
  constructor
  ·intro j e kt vt ks vs hl
   by_cases ej : j = id
   ·rw [mV, if_pos ej] at hl
    obtain ⟨h1, h2⟩ := (hbm (by rw [Option.some.inj hl]; rfl)).1 e kt vt ks vs (Option.some.inj hl)
    exact ⟨l', by simp [LM.set, ej], h1, h2⟩
   ·obtain ⟨l, hL, hN, es, c, hm, hr⟩ := h.maps.at_ j e kt vt ks vs (old j _ ej hl rfl)
    exact ⟨l, by simp [LM.set, ej, hL], hN, es, c, (hS.block l.b (Array.getElem?_eq_some_iff.1 hm).1 (hmp l.b es c hN hm)).trans hm, hr⟩
  ·intro i j b c l m hi hj hbi hcj hl hm hne
   by_cases ei : i = id
   ·rw [mV, if_pos ei] at hi
    have hb' := Option.some.inj hi
    have ej : j ≠ id := fun e => hne (ei.trans e.symm)
    have := (hbm (by rw [hb']; exact hbi)).2 j c m ej (old j c ej hj hcj) hcj (by simpa [LM.set, ej] using hm)
    simp only [LM.set, ei, if_true, Option.some.injEq] at hl
    rw [← hl]
    exact fun e => this e.symm
   ·by_cases ej : j = id
    ·rw [mV, if_pos ej] at hj
     have hc' := Option.some.inj hj
     have := (hbm (by rw [hc']; exact hcj)).2 i b l ei (old i b ei hi hbi) hbi (by simpa [LM.set, ei] using hl)
     simp only [LM.set, ej, if_true, Option.some.injEq] at hm
     rw [← hm]
     exact this
    ·exact h.maps.inj i j b c l m (old i b ei hi hbi) (old j c ej hj hcj) hbi hcj (by simpa [LM.set, ei] using hl) (by simpa [LM.set, ej] using hm) hne
  ·intro j e eb s hl
   by_cases ej : j = id
   ·rw [mV, if_pos ej] at hl
    obtain ⟨_, h2, h3, _⟩ := hbb e eb s (Option.some.inj hl)
    exact ⟨l', by simp [LM.set, ej], h2, h3⟩
   ·obtain ⟨l, hL, ho, hB⟩ := h.maps.bat j e eb s (old j _ ej hl rfl)
    have hk := Dq (w' := w') hB (hS.block _ (uk hB).2 (hhs _ ⟨j, e, eb, s, l, old j _ ej hl rfl, hL, .inl rfl⟩)) fun g hg => hS.block _ (AY hB hg).2.1 (hhs _ ⟨j, e, eb, s, l, old j _ ej hl rfl, hL, .inr hg⟩)
    exact ⟨l, by simp [LM.set, ej, hL], ho, hk.1⟩
  all_goals
   have hid' : ∀ j x, yz (L.set id l') (st.fresh id blk).heap w' j x → (∃ e eb s, j = id ∧ blk = .bld e eb s ∧ x = l'.b) ∨ (j ≠ id ∧ yz L st.heap w j x ∧ x < w.heap.size) := fun j x hx => by
    obtain ⟨e, eb, s, l, hl, hL, ho⟩ := hx
    by_cases ej : j = id
    ·rw [mV, if_pos ej] at hl
     have hb' := Option.some.inj hl
     obtain ⟨_, _, _, h4⟩ := hbb e eb s hb'
     simp only [LM.set, ej, if_true, Option.some.injEq] at hL
     rw [← hL] at ho
     rcases ho with ho | ho
     ·exact .inl ⟨e, eb, s, ej, hb', ho.symm⟩
     ·rw [h4] at ho; cases ho
    ·obtain ⟨l2, hL2, _, hB⟩ := h.maps.bat j e eb s (old j _ ej hl rfl)
     simp only [LM.set, ej, if_false] at hL
     rw [hL] at hL2
     cases hL2
     have hk := Dq (w' := w') hB (hS.block _ (uk hB).2 (hhs _ ⟨j, e, eb, s, l, old j _ ej hl rfl, hL, .inl rfl⟩)) fun g hg => hS.block _ (AY hB hg).2.1 (hhs _ ⟨j, e, eb, s, l, old j _ ej hl rfl, hL, .inr hg⟩)
     rw [hk.2] at ho
     refine .inr ⟨ej, ⟨e, eb, s, l, old j _ ej hl rfl, hL, ho⟩, ?_⟩
     rcases ho with ho | ho
     ·rw [← ho]; exact (uk hB).2
     ·exact (AY hB ho).2.1
  ·intro x hx hv
   have vis' : Vis (L.set id l') (st.fresh id blk).heap x → (x = l'.b ∧ l'.backed = true ∧ l'.mode ≠ 0) ∨ (Vis L st.heap x ∧ x < w.heap.size) := fun hv => by
    obtain ⟨j, b, m, hj, hL, h1, h2, h3⟩ := hv
    by_cases ej : j = id
    ·simp only [LM.set, ej, if_true, Option.some.injEq] at hL
     rw [← hL] at h1 h2 h3
     exact .inl ⟨h3.symm, h1, h2⟩
    ·rw [mV, if_neg ej, Option.map_eq_some_iff] at hj
     obtain ⟨c, hc, _⟩ := hj
     simp only [LM.set, ej, if_false] at hL
     refine .inr ⟨⟨j, c, m, hc, hL, h1, h2, h3⟩, ?_⟩
     obtain ⟨m2, hm2, hbl⟩ := h.heap j c hc
     rw [hL] at hm2
     cases hm2
     obtain ⟨_, cur, hcur, _⟩ := hbl.own h1 (by rw [← hbl.hm]; exact h2)
     rw [← h3]
     exact tK hcur
   obtain ⟨j, hx⟩ := hx
   rcases hid' j x hx with ⟨e, eb, s, _, hb', hxb⟩ | ⟨_, hx2, hlt⟩
   ·obtain ⟨h1, _⟩ := hbb e eb s hb'
    rcases vis' hv with ⟨_, _, h2⟩ | ⟨_, h2⟩
    ·rw [hb.hm, hb'] at h2
     exact h2 rfl
    ·omega
   ·rcases vis' hv with ⟨h1, h2, h3⟩ | ⟨h1, _⟩
    ·rcases hnv h2 h3 with h4 | h4
     ·omega
     ·exact h4 ⟨j, h1 ▸ hx2⟩
    ·exact h.maps.far x ⟨j, hx2⟩ h1
  ·intro i j x hne h1 h2
   rcases hid' i x h1 with ⟨e, eb, s, ei, hb', hxb⟩ | ⟨ei, hx2, hlt⟩
   ·obtain ⟨h3, _⟩ := hbb e eb s hb'
    rcases hid' j x h2 with ⟨_, _, _, ej, _, _⟩ | ⟨_, _, hlt2⟩
    ·exact hne (ei.trans ej.symm)
    ·omega
   ·rcases hid' j x h2 with ⟨e, eb, s, ej, hb', hxb⟩ | ⟨ej, hy2, hlt2⟩
    ·obtain ⟨h3, _⟩ := hbb e eb s hb'
     omega
    ·exact h.maps.two i j x hne hx2 hy2
 len := by simp [St.fresh, h.len]
 slots := fun i av hi => by
  simp only [St.fresh, List.getElem?_map, Option.map_eq_some_iff] at hi
  obtain ⟨x, hx, rfl⟩ := hi
  exact adi (h.slots i x hx)
 heap := fun j b hj => by
  rw [mV] at hj
  by_cases e : j = id
  ·simp only [e, if_true, Option.some.injEq] at hj
   subst hj
   exact ⟨l', by simp [LM.set, e], hb⟩
  ·simp only [e, if_false, Option.map_eq_some_iff] at hj
   obtain ⟨c, hc, rfl⟩ := hj
   obtain ⟨l, hl, hbl⟩ := h.heap j c hc
   exact ⟨l, by simp [LM.set, e, hl], (hbl.keep hS (fun hbk hor => hkeep j c l e hc hl hbk hor)).killed id l'⟩
 inj := fun i j b c l m hi hj hl hm hne hbl hbm h1 h2 => by
  rw [mV] at hi hj
  by_cases ei : i = id
  ·by_cases ej : j = id
   ·exact absurd (ei.trans ej.symm) hne
   ·simp only [ej, if_false, Option.map_eq_some_iff] at hj
    obtain ⟨c', hc', _⟩ := hj
    simp only [LM.set, ei, if_true, Option.some.injEq] at hl
    simp only [LM.set, ej, if_false] at hm
    subst hl
    exact fun e => hinj hbl h1 j c' m ej hc' hm hbm h2 e.symm
  ·simp only [ei, if_false, Option.map_eq_some_iff] at hi
   obtain ⟨b', hb', _⟩ := hi
   simp only [LM.set, ei, if_false] at hl
   by_cases ej : j = id
   ·simp only [LM.set, ej, if_true, Option.some.injEq] at hm
    subst hm
    exact hinj hbm h2 i b' l ei hb' hl hbl h1
   ·simp only [ej, if_false, Option.map_eq_some_iff] at hj
    obtain ⟨c', hc', _⟩ := hj
    simp only [LM.set, ej, if_false] at hm
    exact h.inj i j b' c' l m hb' hc' hl hm hne hbl hbm h1 h2
 defers := h.defers
 below := by
  refine ⟨hS.os.trans h.below.os, hS.tape.trans h.below.tape, hS.output.trans h.below.output, Nat.le_trans h.below.size hS.size, fun k hk hn => ?_, fun q => Nat.le_trans (h.below.drawn q) (hS.drawn q)⟩
  have hk' : k < w.heap.size := Nat.lt_of_lt_of_le hk h.below.size
  refine (hS.block k hk' fun hs => ?_).trans (h.below.block k hk hn)
  rcases hfr k hs hk' with h1 | h1
  ·exact absurd hk (Nat.not_lt.2 h1)
  ·exact hn h1
 mu := h.mu
 base := fun j hj => by
  have : ¬ j = id := by omega
  simp [LM.set, this, h.base j hj]
 low := h.low
theorem RelL.fresh (h : RelL F L st a w) {id : Nat} {blk : Blk} {l' : Loc} {w' : World} {S : Nat → Prop} (hS : Step w w' S)
 (hid : F.low ≤ id)
 (hkeep : ∀ (j : Nat) (b : Blk) (l : Loc), j ≠ id → look st.heap j = some b → L j = some l → l.backed = true → b.flat ≠ [] ∨ b.mode ≠ 0 → ¬ S l.b)
 (hfr : ∀ k, S k → k < w.heap.size → F.N ≤ k ∨ k ∈ F.μ)
 (hb : iY (L.set id l') F.N F.μ w' l' blk)
 (hinj : l'.backed = true → l'.mode ≠ 0 → ∀ (j : Nat) (b : Blk) (l : Loc), j ≠ id → look st.heap j = some b → L j = some l → l.backed = true → l.mode ≠ 0 → l.b ≠ l'.b)
 (hnm : blk.isMap = false := by rfl) (hmp : ∀ g es c, F.N ≤ g → w.heap[g]? = some (.map es c) → ¬ S g := by exact fun _ _ _ _ _ h => h)
 (hhs : ∀ x, Hid L st.heap w x → ¬ S x := by exact fun _ _ h => h) (hnv : l'.backed = true → l'.mode ≠ 0 → w.heap.size ≤ l'.b ∨ ¬ Hid L st.heap w l'.b := by exact fun _ _ => .inl (Nat.le_refl _)) : RelL F (L.set id l') (st.fresh id blk) a w' :=
 h.freshM hS hid hkeep hfr hb hinj hmp (fun e => by rw [hnm] at e; cases e) (fun e eb s hb => by rw [hb] at hnm; cases hnm) hhs hnv
theorem RelL.write (h : RelL F L st a w) {id : Nat} {b b' : Blk} {l : Loc} (hlook : look st.heap id = some b) (hl : L id = some l) {w' : World} (hS : Step w w' (· = l.b))
 (hbk : l.backed = true) (hmode : b.mode ≠ 0) (hm : b'.mode = b.mode) (hb : iY L F.N F.μ w' l b') :
 RelL F L { st with heap := upd st.heap id b' } a w' := by
 have hm0 := hm
 have hbl : iY L F.N F.μ w l b := by
  obtain ⟨l2, hl2, hb2⟩ := h.heap id b hlook
  rw [hl] at hl2
  exact (Option.some.inj hl2) ▸ hb2
 have hlm : l.mode ≠ 0 := by rw [hbl.hm]; exact hmode
 refine { h with heap := fun j c hj => ?_, inj := fun i j c d p q hi hj hp hq hne hbp hbq h1 h2 => ?_, below := ?_, maps := ?_ }
 ·rw [gy] at hj
  by_cases e : j = id
  ·simp only [e, if_true, Option.some.injEq] at hj
   subst hj
   exact ⟨l, by rw [e]; exact hl, hb⟩
  ·simp only [e, if_false] at hj
   obtain ⟨p, hp, hc⟩ := h.heap j c hj
   refine ⟨p, hp, hc.keep hS fun hpb hor => ?_⟩
   intro heq
   by_cases hz : p.mode = 0
   ·have hc0 : c.mode = 0 := by rw [← hc.hm]; exact hz
    have hne : c.flat ≠ [] := by
     rcases hor with h | h
     ·exact h
     ·exact absurd hc0 h
    obtain ⟨r1, r2⟩ := hc.ro hpb hc0 hne
    have hbm : b.mode = 1 ∨ b.mode = 2 := by have := hbl.le; omega
    rcases hbm with hbm | hbm
    ·exact r2 (heq ▸ hbl.m1 hbk hbm)
    ·have := hbl.m2 hbk hbm; simp only [Fix.N] at *; omega
   ·exact h.inj j id c b p l hj hlook hp hl e hpb hbk hz hlm heq
 ·rw [gy] at hi hj
  by_cases ei : i = id
  ·by_cases ej : j = id
   ·exact absurd (ei.trans ej.symm) hne
   ·simp only [ej, if_false] at hj
    exact h.inj i j b d p q (ei ▸ hlook) hj hp hq hne hbp hbq h1 h2
  ·simp only [ei, if_false] at hi
   by_cases ej : j = id
   ·exact h.inj i j c b p q hi (ej ▸ hlook) hp hq hne hbp hbq h1 h2
   ·simp only [ej, if_false] at hj
    exact h.inj i j c d p q hi hj hp hq hne hbp hbq h1 h2
 ·refine ⟨hS.os.trans h.below.os, hS.tape.trans h.below.tape, hS.output.trans h.below.output, Nat.le_trans h.below.size hS.size, fun k hk hn => ?_, fun q => Nat.le_trans (h.below.drawn q) (hS.drawn q)⟩
  have hk' : k < w.heap.size := Nat.lt_of_lt_of_le hk h.below.size
  refine (hS.block k hk' fun (e : k = l.b) => ?_).trans (h.below.block k hk hn)
  have hbm : b.mode = 1 ∨ b.mode = 2 := by have := hbl.le; omega
  rcases hbm with hbm | hbm
  ·exact hn (e ▸ hbl.m1 hbk hbm)
  ·have := hbl.m2 hbk hbm; simp only [Fix.N] at *; omega
 ·refine h.maps.step hS (fun j c hj hm => ⟨?_, rfl⟩) (fun g es c _ hg e => ?_) (fun x hx e => h.maps.far x hx ⟨id, b, l, hlook, hl, hbk, hlm, e.symm⟩) (fun x _ hx => .inl (hx.upd hlook))
  ·rw [gy] at hj
   by_cases e : j = id
   ·rw [if_pos e] at hj
    rw [← Option.some.inj hj] at hm
    cases b' with
    | map => exact absurd hm0.symm hmode
    | bld => exact absurd hm0.symm hmode
    | _ => cases hm
   ·rwa [if_neg e] at hj
  ·obtain ⟨_, cur, hc, _⟩ := hbl.own hbk hmode
   rw [e, hc] at hg
   cases hg
end
end
end Go.Ev
