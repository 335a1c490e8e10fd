/- The evaluator's operations held against the model's: maps. -/
import Derived.Test.YthjehhoafmnmkaaEvOps8
import Derived.MapKept
import Derived.WideKeyRuns
namespace Go.Ev
open Go.RowKit
variable {α : Type} {P : Program} {w : World} {F : Fix} {L : LM} {st : St} {a : Act} {r : α} {o : Oper} {k : St → Option α} {next : Act → World → Prop} {Q : Exit → Act → World → Prop}
theorem rowV (L : LM) : ∀ (t : Ty) (x : t.den), V L (uK t x) (dw t x)
 | .int _, _ => by simp [uK, dw, V]
 | .bool, _ => by simp [uK, dw, V]
 | .str, _ => by simp [uK, dw, V]
 | .pt, _ => by simp [uK, dw, V, Ty.enc, VAll]
 | .tr, _ => by simp [uK, dw, V, Ty.enc, VAll]
 | .qd, _ => by simp [uK, dw, V, Ty.enc, VAll]
 | .hx, _ => by simp [uK, dw, V, Ty.enc, VAll]
theorem adE : ∀ {t : Ty} {x : AV} {y : t.den}, FY t x = some y → x = uK t y := by
 intro t x y h
 unfold FY at h
 split at h
 ·cases t <;> first
   | (simp [Ty.w] at h; done)
   | (simp only [Ty.w, show Nat.beq 2 1 = false from rfl, show Nat.beq 3 1 = false from rfl, show Nat.beq 4 1 = false from rfl, show Nat.beq 6 1 = false from rfl, cond_false] at h
      have := Ez _ _ _ h
      simp [uK, this])
 ·cases t <;> first
   | exact absurd (show (none : Option _) = some y from h) (by simp)
   | (simp only [Ty.w, show Nat.beq 1 1 = true from rfl, cond_true] at h
      have := Ez _ _ _ h
      simp only [Ty.enc, List.cons.injEq, and_true] at this
      simp [uK, this])
theorem ab7 {t : Ty} {y : t.den} {v : Value} (h : V L (uK t y) v) : v = dw t y := by
 have all : ∀ {xs : List AV} {us : List Value}, (∀ (i : Nat) (x : AV), xs[i]? = some x → ∃ u, scal x = some u ∧ us[i]? = some u) → xs.length = us.length → ∀ {vs : List Value}, VAll L xs vs → vs = us := by
  intro xs
  induction xs with
  | nil =>
    intro us _ hl vs hv
    cases vs with
    | nil => cases us with
      | nil => rfl
      | cons _ _ => simp at hl
    | cons _ _ => simp [VAll] at hv
  | cons x xs ih =>
    intro us hu hl vs hv
    cases vs with
    | nil => simp [VAll] at hv
    | cons v vs =>
      cases us with
      | nil => simp at hl
      | cons u us =>
        simp only [VAll] at hv
        obtain ⟨u', hs, e⟩ := hu 0 x rfl
        have : u = u' := by simpa using e
        subst this
        rw [(sZ hs).1 hv.1, ih (us := us) (fun i y hy => by simpa using hu (i + 1) y (by simpa using hy)) (by simpa using hl) hv.2]
 cases t with
 | int k => simpa [uK, dw, V] using h
 | bool => simpa [uK, dw, V] using h
 | str => simpa [uK, dw, V] using h
 | _ =>
   simp only [uK, V] at h
   obtain ⟨arr, rfl, h⟩ := h
   simp only [dw]
   congr 1
   rw [← Array.toList_inj]
   refine all (fun i x hx => ?_) (by simp [Ty.enc]) h
   simp only [Ty.enc] at hx
   have hi : i < 6 := by
    have := (List.getElem?_eq_some_iff.1 hx).1
    simp at this
    omega
   match i, hi with
   | 0, _ => simp at hx; subst hx; exact ⟨_, rfl, by simp⟩
   | 1, _ => simp at hx; subst hx; exact ⟨_, rfl, by simp⟩
   | 2, _ => simp at hx; try (subst hx; exact ⟨_, rfl, by simp⟩)
   | 3, _ => simp at hx; try (subst hx; exact ⟨_, rfl, by simp⟩)
   | 4, _ => simp at hx; try (subst hx; exact ⟨_, rfl, by simp⟩)
   | 5, _ => simp at hx; try (subst hx; exact ⟨_, rfl, by simp⟩)
theorem MX : ∀ (t : Ty) (x : t.den), 1 < t.w → ∃ arr : Array Value, dw t x = .agg arr ∧ arr.size = t.w ∧ VAll L (t.enc x) arr.toList
 | .int _, _, h => by simp [Ty.w] at h
 | .bool, _, h => by simp [Ty.w] at h
 | .str, _, h => by simp [Ty.w] at h
 | .pt, _, _ => ⟨_, rfl, rfl, by simp [Ty.enc, VAll, V]⟩
 | .tr, _, _ => ⟨_, rfl, rfl, by simp [Ty.enc, VAll, V]⟩
 | .qd, _, _ => ⟨_, rfl, rfl, by simp [Ty.enc, VAll, V]⟩
 | .hx, _, _ => ⟨_, rfl, rfl, by simp [Ty.enc, VAll, V]⟩
theorem ZW {eqs : TypeId → Nat → Bool} {t : TypeId} {K : Ty} (h : IW P eqs t K = true) : (∃ q, K = .int q ∧ P.underlying t = some (.int q)) ∨ (1 < K.w ∧ eqs t K.w = true ∧ (∀ x y, nZ (K.enc x) (K.enc y) = some (vJ K x y)) ∧ ∃ fs, P.underlying t = some (.struct fs) ∧ LK P K.w fs.toList = true) := by
 have st : ∀ {w : Nat}, (eqs t w && match P.underlying t with | some (.struct fs) => LK P w fs.toList | _ => false) = true → eqs t w = true ∧ ∃ fs, P.underlying t = some (.struct fs) ∧ LK P w fs.toList = true := by
  intro w h
  rw [Bool.and_eq_true] at h
  refine ⟨h.1, ?_⟩
  have h2 := h.2
  split at h2
  ·rename_i fs hu
   exact ⟨fs, hu, h2⟩
  ·cases h2
 cases K with
 | int q =>
   left
   simp only [IW] at h
   split at h
   ·rename_i q' hu
    have := of_decide_eq_true h
    subst this
    exact ⟨q, rfl, hu⟩
   ·cases h
 | bool => simp [IW] at h
 | str => simp [IW] at h
 | pt => right; obtain ⟨h1, h2⟩ := st h; exact ⟨by simp [Ty.w], h1, fun x y => by simp [Ty.enc, nZ, vJ], h2⟩
 | tr => right; obtain ⟨h1, h2⟩ := st h; exact ⟨by simp [Ty.w], h1, fun x y => by simp [Ty.enc, nZ, vJ], h2⟩
 | qd => right; obtain ⟨h1, h2⟩ := st h; exact ⟨by simp [Ty.w], h1, fun x y => by simp [Ty.enc, nZ, vJ], h2⟩
 | hx => right; obtain ⟨h1, h2⟩ := st h; exact ⟨by simp [Ty.w], h1, fun x y => by simp [Ty.enc, nZ, vJ], h2⟩
theorem aau {e : TypeId} (he : P.plainKey e = true) {q : IntKind} {n : Int} (em : Bool) (d : Nat) : (Instr.checkKey em (d + 1) e (.int q n)).run P w = .ok () w := by
 unfold Program.plainKey at he
 cases hu : P.underlying e with
 | none => simp [hu] at he
 | some kd => cases kd <;> simp [hu] at he <;> simp [Instr.checkKey, run_underlying hu]
theorem ah8 {K : Ty} {x : K.den} (hw : 1 < K.w) {y : AV} (hm : y ∈ K.enc x) : ∃ q n, y = .int q n := by
 cases K with
 | int q => simp [Ty.w] at hw
 | bool => simp [Ty.w] at hw
 | str => simp [Ty.w] at hw
 | pt => simp only [Ty.enc, List.mem_cons, List.not_mem_nil, or_false] at hm; rcases hm with h | h <;> exact ⟨_, _, h⟩
 | tr => simp only [Ty.enc, List.mem_cons, List.not_mem_nil, or_false] at hm; rcases hm with h | h | h <;> exact ⟨_, _, h⟩
 | qd => simp only [Ty.enc, List.mem_cons, List.not_mem_nil, or_false] at hm; rcases hm with h | h | h | h <;> exact ⟨_, _, h⟩
 | hx => simp only [Ty.enc, List.mem_cons, List.not_mem_nil, or_false] at hm; rcases hm with h | h | h | h | h | h <;> exact ⟨_, _, h⟩
theorem abL {eqs : TypeId → Nat → Bool} {t : TypeId} {K : Ty} (h : IW P eqs t K = true) (x : K.den) (em : Bool) (d : Nat) : (Instr.checkKey em (d + 2) t (dw K x)).run P w = .ok () w := by
 rcases ZW h with ⟨q, rfl, hu⟩ | ⟨hw, _, _, fs, hu, hf⟩
 ·simp [Instr.checkKey, run_underlying hu, dw]
 ·obtain ⟨arr, e, hsz, hV⟩ := MX (L := fun _ => none) K x hw
  rw [e, show d + 2 = (d + 1) + 1 from rfl, Instr.checkKey]
  simp only [Sem.run_bind, run_underlying hu, Result.andThen_ok]
  rw [← Array.forIn_toList]
  have ints : ∀ i, i < K.w → ∃ q n, arr[i]? = some (.int q n) := by
   intro i hi
   obtain ⟨y, hy⟩ : ∃ y, (K.enc x)[i]? = some y := ⟨_, List.getElem?_eq_getElem (by rw [nK]; exact hi)⟩
   obtain ⟨v, hv, hVv⟩ := gK i hV hy
   have hy' := hy
   have : ∃ q n, y = .int q n := by
    have hm := List.mem_of_getElem? hy'
    exact ah8 hw hm
   obtain ⟨q, n, rfl⟩ := this
   simp only [V] at hVv
   subst hVv
   exact ⟨q, n, by simpa using hv⟩
  generalize fs.toList = l at hf
  induction l with
  | nil => simp
  | cons f l ih =>
    simp only [LK, Bool.and_eq_true] at hf
    have hlt := hf.1.2
    have hlt : f.offset < K.w := Nat.le_of_ble_eq_true hlt
    obtain ⟨q, n, hi⟩ := ints f.offset hlt
    have p1 := run_part_plain (w := w) hf.1.1 hi
    have p2 := aau (w := w) (q := q) (n := n) hf.1.1 em d
    simp only [List.forIn_cons, Sem.run_bind]
    by_cases hn : f.name = "_"
    ·simp only [hn, ne_eq, not_true_eq_false, if_false, Sem.run_pure, Result.andThen_ok]
     exact ih hf.2
    ·simp only [ne_eq, hn, not_false_eq_true, if_true, Sem.run_bind, p1, Result.andThen_ok, p2, Sem.run_pure]
     exact ih hf.2
theorem ahP : ∀ {K : Ty} {x y : K.den}, vJ K x y = true → x = y := by
 intro K x y h
 cases K <;> simp only [vJ, Bool.and_eq_true, decide_eq_true_eq, beq_iff_eq] at h
 ·exact h
 ·exact h
 ·exact h
 ·exact Prod.ext h.1 h.2
 ·exact Prod.ext h.1 (Prod.ext h.2.1 h.2.2)
 ·exact Prod.ext h.1 (Prod.ext h.2.1 (Prod.ext h.2.2.1 h.2.2.2))
 ·exact Prod.ext h.1 (Prod.ext h.2.1 (Prod.ext h.2.2.1 (Prod.ext h.2.2.2.1 (Prod.ext h.2.2.2.2.1 h.2.2.2.2.2))))
def fnd (K U : Ty) : List K.den → List U.den → K.den → Option (Nat × U.den)
 | x :: ks, v :: vs, k => bif vJ K k x then some (0, v) else (fnd K U ks vs k).map fun p => (p.1 + 1, p.2)
 | _, _, _ => none
theorem adJ {K U : Ty} : ∀ (ks : List K.den) (vs : List U.den) (k : K.den) (d : U.den), getM K U ks vs k d = match fnd K U ks vs k with | some (_, u) => u | none => d
 | [], _, _, _ => by simp [getM, fnd]
 | _ :: _, [], _, _ => by simp [getM, fnd]
 | x :: ks, v :: vs, k, d => by
   simp only [getM, fnd]
   cases vJ K k x with
   | true => simp
   | false =>
     rw [cond_false, cond_false, adJ ks vs k d]
     cases fnd K U ks vs k <;> rfl
theorem uJ.nil_or {K U : Ty} {ks : List K.den} {vs : List U.den} {es : List MapEntry} (h : uJ K U ks vs es) : (ks = [] ∧ vs = [] ∧ es = []) ∨ ∃ x ks' v vs' e es', ks = x :: ks' ∧ vs = v :: vs' ∧ es = e :: es' ∧ e.key = dw K x ∧ e.val = dw U v ∧ uJ K U ks' vs' es' := by
 match ks, vs, es, h with
 | [], [], [], _ => exact .inl ⟨rfl, rfl, rfl⟩
 | x :: ks', v :: vs', e :: es', h => exact .inr ⟨x, ks', v, vs', e, es', rfl, rfl, rfl, h.1, h.2.1, h.2.2⟩
theorem ZZ {q : IntKind} {U : Ty} {n : Int} : ∀ (es : List MapEntry) (ks : List (Ty.int q).den) (vs : List U.den) (i : Nat), uJ (.int q) U ks vs es →
 Instr.findNow (.int q) (.int q n) es i = some ((fnd (.int q) U ks vs n).map fun p => (i + p.1, dw U p.2))
 | [], ks, vs, i, h => by
   rcases h.nil_or with ⟨rfl, rfl, _⟩ | ⟨_, _, _, _, _, _, _, _, e, _⟩
   ·simp [Instr.findNow, fnd]
   ·cases e
 | e :: es, ks, vs, i, h => by
   rcases h.nil_or with ⟨_, _, e⟩ | ⟨x, ks', v, vs', _, _, rfl, rfl, e1, hk, hv, h'⟩
   ·cases e
   ·cases e1
    have hk : e.key = .int q x := hk
    simp only [Instr.findNow, hk, Instr.sameNow, if_true, fnd, vJ]
    by_cases hx : n = x
    ·simp [hx, hv]
    ·have : (n == x) = false := by simpa using hx
     rw [this]
     simp only [decide_eq_false hx, cond_false]
     rw [ZZ es ks' vs' (i + 1) h']
     cases fnd (.int q) U ks' vs' n with
     | none => simp
     | some p => simp; omega
theorem Yy {eqs : TypeId → Nat → Bool} (heq : EqOK P eqs) {t : TypeId} {K U : Ty} (hw : 1 < K.w) (ht : eqs t K.w = true) (hc : ∀ x y, nZ (K.enc x) (K.enc y) = some (vJ K x y)) {n : K.den} : ∀ (es : List MapEntry) (ks : List K.den) (vs : List U.den) (i : Nat), uJ K U ks vs es →
 (Instr.findAsking t (dw K n) es i).run P w = .ok ((fnd K U ks vs n).map fun p => (i + p.1, dw U p.2)) w
 | [], ks, vs, i, h => by
   rcases h.nil_or with ⟨rfl, rfl, _⟩ | ⟨_, _, _, _, _, _, _, _, e, _⟩
   ·simp [Instr.findAsking, fnd]
   ·cases e
 | e :: es, ks, vs, i, h => by
   rcases h.nil_or with ⟨_, _, e⟩ | ⟨x, ks', v, vs', _, _, rfl, rfl, e1, hk, hv, h'⟩
   ·cases e
   ·cases e1
    obtain ⟨X, eX, _, hX⟩ := MX (L := fun _ => none) K n hw
    obtain ⟨Y, eY, _, hY⟩ := MX (L := fun _ => none) K x hw
    have hrun := (heq t K.w ht).2 (fun _ => none) w _ _ X Y _ (nK K n) (hc n x) hX hY
    rw [← eX, ← eY, ← hk] at hrun
    simp only [Instr.findAsking, Sem.run_bind, hrun, Result.andThen_ok, fnd]
    cases vJ K n x with
    | true => simp [hv]
    | false =>
      simp only [cond_false, Bool.false_eq_true, if_false]
      rw [Yy heq hw ht hc es ks' vs' (i + 1) h']
      cases fnd K U ks' vs' n with
      | none => simp
      | some p => simp; omega
theorem adH {eqs : TypeId → Nat → Bool} (heq : EqOK P eqs) {t : TypeId} {K U : Ty} (hk : IW P eqs t K = true) {n : K.den} {es : List MapEntry} {ks : List K.den} {vs : List U.den} (h : uJ K U ks vs es) :
 (Instr.findKey t (dw K n) es).run P w = .ok ((fnd K U ks vs n).map fun p => (p.1, dw U p.2)) w := by
 rcases ZW hk with ⟨q, rfl, hu⟩ | ⟨hw, ht, hc, fs, hu, hf⟩
 ·refine Go.MapKept.run_findKey hu ?_
  have := ZZ (q := q) (n := n) es ks vs 0 h
  simpa [dw] using this
 ·rw [run_findKey_eq w (by rw [hu])]
  have := Yy (w := w) heq hw ht hc (n := n) es ks vs 0 h
  simpa using this
theorem ahQ {K U : Ty} {k : K.den} {u : U.den} : ∀ {es : List MapEntry} {ks : List K.den} {vs : List U.den} {i : Nat} {u0 : U.den}, uJ K U ks vs es → fnd K U ks vs k = some (i, u0) →
 uJ K U (putK K ks k) (putV K U ks vs k u) (es.modify i fun e => { e with key := dw K k, val := dw U u }) ∧ ∃ e, es[i]? = some e ∧ e.key = dw K k := by
 intro es
 induction es with
 | nil =>
   intro ks vs i u0 h hf
   rcases h.nil_or with ⟨rfl, rfl, _⟩ | ⟨_, _, _, _, _, _, _, _, e, _⟩
   ·simp [fnd] at hf
   ·cases e
 | cons e es ih =>
   intro ks vs i u0 h hf
   rcases h.nil_or with ⟨_, _, e⟩ | ⟨x, ks', v, vs', _, _, rfl, rfl, e1, hk, hv, h'⟩
   ·cases e
   ·cases e1
    simp only [fnd] at hf
    simp only [putK, putV]
    cases hc : vJ K k x with
    | true =>
      rw [hc, cond_true] at hf
      have := ahP hc
      subst this
      cases hf
      simp only [cond_true, List.modify_zero_cons]
      exact ⟨⟨rfl, rfl, h'⟩, e, rfl, hk⟩
    | false =>
      rw [hc, cond_false] at hf
      rw [Option.map_eq_some_iff] at hf
      obtain ⟨⟨i', u'⟩, hf, e2⟩ := hf
      cases e2
      obtain ⟨h1, e', h2, h3⟩ := ih h' hf
      simp only [cond_false, List.modify_succ_cons]
      exact ⟨⟨hk, hv, h1⟩, e', by simpa using h2, h3⟩
theorem af6 {K U : Ty} {k : K.den} {u : U.den} {c : Nat} : ∀ {es : List MapEntry} {ks : List K.den} {vs : List U.den}, uJ K U ks vs es → fnd K U ks vs k = none →
 uJ K U (putK K ks k) (putV K U ks vs k u) (es ++ [{ key := dw K k, val := dw U u, born := c }]) := by
 intro es
 induction es with
 | nil =>
   intro ks vs h hf
   rcases h.nil_or with ⟨rfl, rfl, _⟩ | ⟨_, _, _, _, _, _, _, _, e, _⟩
   ·simp [putK, putV, uJ]
   ·cases e
 | cons e es ih =>
   intro ks vs h hf
   rcases h.nil_or with ⟨_, _, e⟩ | ⟨x, ks', v, vs', _, _, rfl, rfl, e1, hk, hv, h'⟩
   ·cases e
   ·cases e1
    simp only [fnd] at hf
    simp only [putK, putV]
    cases hc : vJ K k x with
    | true => rw [hc, cond_true] at hf; cases hf
    | false =>
      rw [hc, cond_false, Option.map_eq_none_iff] at hf
      exact ⟨hk, hv, ih h' hf⟩
theorem afD (K : Ty) (k : K.den) (n : Nat) : Instr.sameBits (n + 2) (dw K k) (dw K k) = true := by
 cases K <;> simp [dw, Instr.sameBits, Go.MapKept.bytes_beq]
theorem afW (K : Ty) (k : K.den) : (Instr.keyThatStays (dw K k) (dw K k)).run P w = .ok (dw K k) w := by
 unfold Instr.keyThatStays
 rw [show 10000 = 9998 + 2 from rfl, afD K k 9998, if_pos rfl]
 rfl
variable {R : Res → Act → World → Prop}
section
variable [Inhabited az]
theorem aeW {t : TypeId} (hop : o.op = .makeMap t none) (h : RelL F L st a w) (hg : Goes F k r next) {id : Nat} (hid : F.low ≤ id) {e : TypeId} {K U : Ty} (hk : k ((st.fresh id (.map e K U [] [])).put o.dst (.map id)) = some r) : o.wp P a w next Q := by
 let l' : Loc := ⟨w.heap.size, 0, 1, 0, 0, 0, false, undef⟩
 have hN : F.N ≤ w.heap.size := h.below.size
 have hat := (Go.MapKept.heap_alloc w (.map #[] 0)).1
 have hrel : RelL F (L.set id l') (st.fresh id (.map e K U [] [])) a (w.alloc (.map #[] 0)) := by
  refine h.freshM (S := fun _ => False) (Step.alloc w _ _) hid (fun _ _ _ _ _ _ _ _ h => h) (fun _ h => h.elim) ⟨rfl, rfl, rfl, by simp [Blk.mode], fun hb => by simp [l'] at hb, fun hb => by simp [l'] at hb, fun hb => by simp [l'] at hb, fun hb => by simp [l'] at hb, fun hb => by simp [l'] at hb, fun _ => rfl⟩ (fun hb => by simp [l'] at hb) (fun _ _ _ _ _ h => h) (fun _ => ⟨fun e' kt' vt' ks vs he => ?_, fun j b l hj hl hm hL => ?_⟩) (fun e eb s he => by cases he) (fun _ _ h => h) (fun hb => by simp [l'] at hb)
  ·cases he
   exact ⟨hN, #[], 0, hat, by simp [uJ], by simp, by simp⟩
  ·cases b with
   | map e2 kt2 vt2 ks vs =>
     obtain ⟨l2, hl2, _, es, c, hm2, _⟩ := h.maps.at_ j _ _ _ _ _ hl
     rw [hL] at hl2
     cases hl2
     have := tK hm2
     exact Nat.ne_of_lt this
   | bld e2 eb2 s2 =>
     obtain ⟨l2, hl2, _, hB2⟩ := h.maps.bat j _ _ _ hl
     rw [hL] at hl2
     cases hl2
     exact Nat.ne_of_lt (uk hB2).2
   | _ => cases hm
 refine dV (v := .map (some w.heap.size)) (w' := w.alloc (.map #[] 0)) ?_ (bV hg hrel ?_ hk)
 ·simp [execOp, hop, Instr.makeMap]
 ·simp [V, LM.set, l']
theorem agZ (h : RelL F L st a w) {x : Operand} {id : Nat} (hx : st.get x = .map id) {e : TypeId} {K U : Ty} {ks : List K.den} {vs : List U.den} (hb : look st.heap id = some (.map e K U ks vs)) :
 ∃ l, L id = some l ∧ F.N ≤ l.b ∧ aeR w l.b K U ks vs ∧ a.eval x = .map (some l.b) := by
 have hv := h.get x
 rw [hx] at hv
 simp only [V] at hv
 obtain ⟨l, hl, hv⟩ := hv
 obtain ⟨l2, hl2, hN, hm⟩ := h.maps.at_ id _ _ _ _ _ hb
 rw [hl] at hl2
 cases hl2
 exact ⟨l, hl, hN, hm, hv⟩
theorem acY (h : RelL F L st a w) {x : Operand} {K : Ty} {key : K.den} (hx : FY K (st.get x) = some key) : a.eval x = dw K key := by
 have hv := h.get x
 rw [adE hx] at hv
 exact ab7 hv
theorem af5 {eqs : TypeId → Nat → Bool} (heq : EqOK P eqs) {t kt et : TypeId} (ht : P.underlying t = some (.map kt et)) {x i : Operand} (hop : o.op = .lookup t x i false) (h : RelL F L st a w) (hg : Goes F k r next) {id : Nat} (hx : st.get x = .map id)
 {e : TypeId} {K U : Ty} {ks : List K.den} {vs : List U.den} (hb : look st.heap id = some (.map e K U ks vs)) {z : AV} (hz : nY P et = some z) {d : U.den} (hd : FY U z = some d) {key : K.den} (hi : FY K (st.get i) = some key) (hkey : IW P eqs kt K = true)
 (hk : k (st.put o.dst (uK U (getM K U ks vs key d))) = some r) : o.wp P a w next Q := by
 obtain ⟨l, hL, hN, ⟨es, c, hm, hes, hbo, hcl⟩, hev⟩ := agZ h hx hb
 have hki := acY h hi
 obtain ⟨ti, zv, hti, hzv, rfl⟩ := qV hz
 have hzz : zv = dw U d := by
  have := zx L zv
  rw [adE hd] at this
  exact ab7 this
 refine dV (v := dw U (getM K U ks vs key d)) (w' := w) ?_ (bV hg h (rowV L U _) hk)
 have hf := adH (w := w) heq hkey (n := key) hes
 have hck := abL (w := w) hkey key es.isEmpty 9998
 rw [show 9998 + 2 = 10000 from rfl] at hck
 simp only [execOp, hop, Instr.lookup, Sem.run_bind, run_underlying ht, Result.andThen_ok, hev, hki, Go.MapKept.run_getObj_map hm, Sem.run_pure, hck, hf, adJ]
 cases fnd K U ks vs key with
 | none => simp [ry hti hzv, hzz]
 | some p => simp
end
theorem WJ (f : MapEntry → MapEntry) (hf : ∀ e, (f e).born = e.born) : ∀ (l : List MapEntry) (i : Nat), (l.modify i f).map (·.born) = l.map (·.born)
 | [], i => by cases i <;> simp
 | a :: l, 0 => by simp [hf]
 | a :: l, i + 1 => by simp [WJ f hf l i]
section
variable [Inhabited az]
theorem ac8 {eqs : TypeId → Nat → Bool} (heq : EqOK P eqs) {t kt et : TypeId} (ht : P.underlying t = some (.map kt et)) {x i y : Operand} (hop : o.op = .mapUpdate t x i y) (h : RelL F L st a w) (hg : Goes F k r next) {id : Nat} (hx : st.get x = .map id)
 {e : TypeId} {K U : Ty} {ks : List K.den} {vs : List U.den} (hb : look st.heap id = some (.map e K U ks vs)) {u : U.den} (hy : FY U (st.get y) = some u) {key : K.den} (hi : FY K (st.get i) = some key) (hkey : IW P eqs kt K = true)
 (hk : k ({ st with heap := upd st.heap id (.map e K U (putK K ks key) (putV K U ks vs key u)) }.put o.dst .undef) = some r) : o.wp P a w next Q := by
 obtain ⟨l, hL, hN, ⟨es, c, hm, hes, hbo, hcl⟩, hev⟩ := agZ h hx hb
 have hki := acY h hi
 have hyi := acY h hy
 have hf := adH (w := w) heq hkey (n := key) hes
 have hck := abL (w := w) hkey key false 9998
 rw [show 9998 + 2 = 10000 from rfl] at hck
 obtain ⟨es', c', hrun, hes', hbo', hcl'⟩ : ∃ es' c', (execOp a.eval o).run P w = .ok .skip { w with heap := w.heap.setIfInBounds l.b (.map es' c') } ∧ uJ K U (putK K ks key) (putV K U ks vs key u) es'.toList ∧ (es'.toList.map (·.born)).Pairwise (· < ·) ∧ ∀ e ∈ es'.toList, e.born < c' := by
  cases hfn : fnd K U ks vs key with
  | none =>
    refine ⟨es.push { key := dw K key, val := dw U u, born := c }, c + 1, ?_, ?_, ?_, ?_⟩
    ·simp only [execOp, hop, Instr.mapUpdate, Sem.run_bind, run_underlying ht, Result.andThen_ok, hev, hki, hyi, Go.MapKept.run_getObj_map hm, hck, hf, hfn, Option.map_none, Go.MapKept.run_setObj_map _ hm, Sem.run_pure]
    ·rw [Array.toList_push]; exact af6 hes hfn
    ·rw [Array.toList_push, List.map_append, List.pairwise_append]
     refine ⟨hbo, by simp, fun a ha b hb => ?_⟩
     simp only [List.map_cons, List.map_nil, List.mem_singleton] at hb
     subst hb
     obtain ⟨e, he, rfl⟩ := List.mem_map.1 ha
     exact hcl e he
    ·intro e he
     rw [Array.toList_push, List.mem_append, List.mem_singleton] at he
     rcases he with he | rfl
     ·have := hcl e he; omega
     ·exact Nat.lt_succ_self _
  | some p =>
    obtain ⟨i', u0⟩ := p
    obtain ⟨h1, e1, h2, h3⟩ := ahQ (u := u) hes hfn
    have hbm : ((es.modify i' fun e => { e with key := dw K key, val := dw U u }).toList.map (·.born)) = es.toList.map (·.born) := by
     rw [Array.toList_modify]
     exact WJ (fun e => { e with key := dw K key, val := dw U u }) (fun _ => rfl) _ _
    refine ⟨es.modify i' fun e => { e with key := dw K key, val := dw U u }, c, ?_, ?_, ?_, ?_⟩
    ·have hkk : ((es[i']?).map (·.key)).getD (dw K key) = dw K key := by
      rw [← Array.getElem?_toList, h2]; exact h3
     simp only [execOp, hop, Instr.mapUpdate, Sem.run_bind, run_underlying ht, Result.andThen_ok, hev, hki, hyi, Go.MapKept.run_getObj_map hm, hck, hf, hfn, Option.map_some, hkk, afW, Go.MapKept.run_setObj_map _ hm, Sem.run_pure]
    ·rw [Array.toList_modify]; exact h1
    ·rw [hbm]; exact hbo
    ·intro e he
     have : e.born ∈ es.toList.map (·.born) := by rw [← hbm]; exact List.mem_map_of_mem he
     obtain ⟨e2, he2, e3⟩ := List.mem_map.1 this
     rw [← e3]
     exact hcl e2 he2
 obtain ⟨hs1, hs2⟩ := Go.MapKept.heap_set (o' := Obj.map es' c') hm
 have hstep : Step w { w with heap := w.heap.setIfInBounds l.b (.map es' c') } (· = l.b) := ⟨rfl, rfl, rfl, by simp, fun k _ hn => hs2 k hn, fun _ => Nat.le_refl _⟩
 refine XX hrun (hg _ _ _ hk ⟨L, RelL.put (v := undef) ?_ (by simp [V]) o.dst⟩)
 have hold : ∃ l2, L id = some l2 ∧ iY L F.N F.μ w l2 (.map e K U ks vs) := h.heap id _ hb
 obtain ⟨l2, hL2, hbl⟩ := hold
 rw [hL] at hL2
 cases hL2
 refine { h with heap := fun j b hj => ?_, inj := fun i j b c p q hi hj hp hq hne hbp hbq m1 m2 => ?_, below := ?_, maps := ?_ }
 ·rw [gy] at hj
  by_cases ej : j = id
  ·rw [if_pos ej] at hj
   cases hj
   exact ⟨l, by rw [ej]; exact hL, ⟨hbl.hw, hbl.hn, hbl.hm, hbl.le, fun _ i av hi => by simp [Blk.flat] at hi, fun _ _ hne => by simp [Blk.flat] at hne, fun _ hne => by simp [Blk.mode] at hne, fun _ hne => by simp [Blk.mode] at hne, fun _ hne => by simp [Blk.mode] at hne, fun _ => rfl⟩⟩
  ·rw [if_neg ej] at hj
   obtain ⟨p, hp, hbp⟩ := h.heap j b hj
   refine ⟨p, hp, hbp.keep hstep fun hpb hor => ?_⟩
   intro heq
   by_cases hz : b.mode = 0
   ·have hne : b.flat ≠ [] := by
     rcases hor with h | h
     ·exact h
     ·exact absurd hz h
    have := (hbp.ro hpb hz hne).1
    simp only [Fix.N] at *
    omega
   ·obtain ⟨_, cur, hc, _⟩ := hbp.own hpb hz
    rw [heq, hm] at hc
    cases hc
 ·rw [gy] at hi hj
  have md : ∀ {i : Nat} {b : Blk} {p : Loc}, (if i = id then some (Blk.map e K U (putK K ks key) (putV K U ks vs key u)) else look st.heap i) = some b → L i = some p → p.mode ≠ 0 → look st.heap i = some b := by
   intro i b p hi hp hm
   by_cases ei : i = id
   ·rw [ei, hL] at hp
    cases hp
    exact absurd hbl.hm hm
   ·rwa [if_neg ei] at hi
  exact h.inj i j b c p q (md hi hp m1) (md hj hq m2) hp hq hne hbp hbq m1 m2
 ·refine ⟨hstep.os.trans h.below.os, hstep.tape.trans h.below.tape, hstep.output.trans h.below.output, Nat.le_trans h.below.size hstep.size, fun k hk hn => ?_, fun q => Nat.le_trans (h.below.drawn q) (hstep.drawn q)⟩
  refine (hstep.block k (Nat.lt_of_lt_of_le hk h.below.size) fun (e : k = l.b) => ?_).trans (h.below.block k hk hn)
  simp only [Fix.N] at hN
  omega
 ·have hold : ∀ j e2 eb2 s2, look (upd st.heap id (.map e K U (putK K ks key) (putV K U ks vs key u))) j = some (.bld e2 eb2 s2) → look st.heap j = some (.bld e2 eb2 s2) := fun j e2 eb2 s2 hj => by
   rw [gy] at hj
   by_cases ej : j = id
   ·rw [if_pos ej] at hj
    cases hj
   ·rwa [if_neg ej] at hj
  have hkp : ∀ j e2 eb2 s2 p, look st.heap j = some (.bld e2 eb2 s2) → L j = some p → p.o = 0 ∧ Lib.IsBuilderF e2 eb2 F.N p.b (Lib.strCells s2) { w with heap := w.heap.setIfInBounds l.b (.map es' c') } ∧ rJ { w with heap := w.heap.setIfInBounds l.b (.map es' c') } p.b = rJ w p.b := fun j e2 eb2 s2 p hj hp => by
   obtain ⟨p2, hp2, ho, hB⟩ := h.maps.bat j e2 eb2 s2 hj
   rw [hp] at hp2
   cases hp2
   obtain ⟨_, _, hcell, _⟩ := Ox hB
   have hk := Dq (w' := { w with heap := w.heap.setIfInBounds l.b (.map es' c') }) hB (hs2 p.b fun e => by rw [e, hm] at hcell; cases hcell) fun g hg => hs2 g fun e => by
    obtain ⟨_, _, _, _, hgg⟩ := AY hB hg
    rw [e, hm] at hgg
    cases hgg
   exact ⟨ho, hk⟩
  have hhid : ∀ j x, yz L (upd st.heap id (.map e K U (putK K ks key) (putV K U ks vs key u))) { w with heap := w.heap.setIfInBounds l.b (.map es' c') } j x → yz L st.heap w j x := fun j x hx => by
   obtain ⟨e2, eb2, s2, p, h1, h2, h3⟩ := hx
   have h1' := hold j e2 eb2 s2 h1
   rw [(hkp j e2 eb2 s2 p h1' h2).2.2] at h3
   exact ⟨e2, eb2, s2, p, h1', h2, h3⟩
  refine ⟨fun j e2 kt2 vt2 ks2 vs2 hj => ?_, fun i j b c p q hi hj m1 m2 hp hq hne => ?_, fun j e2 eb2 s2 hj => ?_, fun x hx hv => ?_, fun i j x hne h1 h2 => h.maps.two i j x hne (hhid i x h1) (hhid j x h2)⟩
  rotate_left 2
  ·obtain ⟨p, hp, _⟩ := h.maps.bat j e2 eb2 s2 (hold j e2 eb2 s2 hj)
   exact ⟨p, hp, (hkp j e2 eb2 s2 p (hold j e2 eb2 s2 hj) hp).1, (hkp j e2 eb2 s2 p (hold j e2 eb2 s2 hj) hp).2.1⟩
  ·obtain ⟨j, hx⟩ := hx
   exact h.maps.far x ⟨j, hhid j x hx⟩ (hv.upd hb)
  ·rw [gy] at hj
   by_cases ej : j = id
   ·rw [if_pos ej] at hj
    cases hj
    exact ⟨l, by rw [ej]; exact hL, hN, es', c', hs1, hes', hbo', hcl'⟩
   ·rw [if_neg ej] at hj
    obtain ⟨p, hp, hpN, es2, c2, g1, g2, g3, g4⟩ := h.maps.at_ j _ _ _ _ _ hj
    exact ⟨p, hp, hpN, es2, c2, (hs2 p.b (h.maps.inj j id _ _ p l hj hb rfl rfl hp hL ej)).trans g1, g2, g3, g4⟩
  ·rw [gy] at hi hj
   have md : ∀ {i : Nat} {b : Blk}, (if i = id then some (Blk.map e K U (putK K ks key) (putV K U ks vs key u)) else look st.heap i) = some b → b.isMap = true → ∃ b', look st.heap i = some b' ∧ b'.isMap = true := by
    intro i b hi hm
    by_cases ei : i = id
    ·exact ⟨_, by rw [ei]; exact hb, rfl⟩
    ·rw [if_neg ei] at hi
     exact ⟨b, hi, hm⟩
   obtain ⟨b', hb', mb'⟩ := md hi m1
   obtain ⟨c', hc', mc'⟩ := md hj m2
   exact h.maps.inj i j b' c' p q hb' hc' mb' mc' hp hq hne
end
end Go.Ev
