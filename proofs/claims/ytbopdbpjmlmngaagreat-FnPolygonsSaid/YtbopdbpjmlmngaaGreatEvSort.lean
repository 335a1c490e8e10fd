/- Sorting: slices.SortFunc at rows of structs, out of the kit's shelf. -/
import Derived.Test.YtbopdbpjmlmngaaGreatEvSig
import Derived.Shelf.SlSortCmp.NoneTotal
namespace Go.Ev
open Go.RowKit Go.Proofs Go.Sort Go.Shelf
variable {α : Type} {P : Program}
def azW : (t : Ty) → t.den
 | .int _ => (0 : Int)
 | .bool => false
 | .str => ByteArray.empty
 | .pt => ((0, 0) : Int × Int)
 | .tr => ((0, 0, 0) : Int × Int × Int)
 | .qd => ((0, 0, 0, 0) : Int × Int × Int × Int)
 | .hx => ((0, 0, 0, 0, 0, 0) : Int × Int × Int × Int × Int × Int)
instance (t : Ty) : Inhabited t.den := ⟨azW t⟩
def aaw : Ty → Bool
 | .pt | .tr | .qd | .hx => true
 | _ => false
def akW (a : AV) : Value := (scal a).getD (.int .i64 0)
def encV (t : Ty) (x : t.den) : List Value := (t.enc x).map akW
theorem anS (t : Ty) (x : t.den) : (encV t x).length = t.w := by rw [encV, List.length_map, yJ]
theorem am5 {t : Ty} (ht : aaw t = true) (x : t.den) : ∀ a ∈ t.enc x, ∃ v, scal a = some v := by
 cases t <;> simp [aaw] at ht <;> simp [Ty.enc, scal]
theorem axF {t : Ty} (ht : aaw t = true) (x : t.den) : ∀ v ∈ encV t x, v.oneCell' = true := by
 intro v hv
 obtain ⟨a, ha, rfl⟩ := List.mem_map.1 hv
 obtain ⟨u, hu⟩ := am5 ht x a ha
 have : akW a = u := by unfold akW; rw [hu]; rfl
 rw [this]
 exact abI hu
theorem aBZ {t : Ty} (ht : aaw t = true) : 0 < t.w := by cases t <;> simp [aaw] at ht <;> simp [Ty.w]
theorem aj2 {β γ : Type} (f : β → List γ) {k : Nat} (hk : 0 < k) (hf : ∀ x, (f x).length = k) : ∀ (l : List β) (j : Nat), (l.flatMap f)[j]? = (l[j / k]?).bind fun x => (f x)[j % k]?
 | [], j => by simp
 | x :: r, j => by
   rw [List.flatMap_cons, List.getElem?_append, hf]
   by_cases h : j < k
   ·rw [if_pos h, Nat.div_eq_of_lt h, Nat.mod_eq_of_lt h]
    rfl
   ·rw [if_neg h, aj2 f hk hf r]
    obtain ⟨i, rfl⟩ : ∃ i, j = i + k := ⟨j - k, by omega⟩
    rw [Nat.add_sub_cancel, Nat.add_div_right _ hk, Nat.add_mod_right]
    rfl
theorem amF {t : Ty} (ht : aaw t = true) {l : List t.den} {j : Nat} (hj : j < l.length * t.w) : ∃ a v, (l.flatMap t.enc)[j]? = some a ∧ scal a = some v ∧ (flatK (encV t) t.w l.toArray)[j]! = v := by
 have hw := aBZ ht
 have hd : j / t.w < l.length := (Nat.div_lt_iff_lt_mul hw).2 hj
 have hm : j % t.w < t.w := Nat.mod_lt _ hw
 have hx : l[j / t.w]? = some l[j / t.w] := List.getElem?_eq_getElem hd
 have hlen : j % t.w < (t.enc l[j / t.w]).length := by rw [yJ]; exact hm
 have ha : (l.flatMap t.enc)[j]? = some (t.enc l[j / t.w])[j % t.w] := by
  rw [aj2 t.enc hw (yJ t), hx, Option.bind_some, List.getElem?_eq_getElem hlen]
 obtain ⟨v, hv⟩ := am5 ht l[j / t.w] _ (List.getElem_mem hlen)
 refine ⟨_, v, ha, hv, ?_⟩
 rw [get_flatK _ _ _ j (by simpa using hj)]
 have e1 : l.toArray[j / t.w]! = l[j / t.w] := by simp [hd]
 rw [e1]
 have hlen2 : j % t.w < (encV t l[j / t.w]).length := by rw [anS]; exact hm
 rw [getElem!_pos (encV t l[j / t.w]) (j % t.w) hlen2]
 simp only [encV, List.getElem_map, akW, hv, Option.getD_some]
theorem ahe {t : Ty} (ht : aaw t = true) {w : World} {g : Nat} {l : List t.den} {cur : Array Value} {e : TypeId} (hh : w.heap[g]? = some (.cells cur e (0, 0))) (hc : aaR w g 0 (l.flatMap t.enc)) : HoldsK (encV t) t.w w g 0 l.toArray := by
 intro j hj
 rw [size_flatK] at hj
 obtain ⟨a, v, h1, h2, h3⟩ := amF ht (l := l) (j := j) (by simpa using hj)
 obtain ⟨v', hv', hcell⟩ := hc j a h1
 rw [h2] at hv'
 have := Option.some.inj hv'
 subst this
 refine ⟨by rw [h3]; exact hcell, ?_⟩
 simp [World.frozen?, hh]
theorem alT {t : Ty} (ht : aaw t = true) {w : World} {g : Nat} {l : List t.den} (h : HoldsK (encV t) t.w w g 0 l.toArray) : aaR w g 0 (l.flatMap t.enc) := by
 intro i av hi
 have hlt : i < l.length * t.w := by
  have := (List.getElem?_eq_some_iff.1 hi).1
  rwa [mQ] at this
 obtain ⟨a, v, h1, h2, h3⟩ := amF ht (l := l) (j := i) hlt
 rw [hi] at h1
 have := Option.some.inj h1
 subst this
 refine ⟨v, h2, ?_⟩
 have := (h i (by rw [size_flatK]; simpa using hlt)).1
 rw [h3] at this
 exact this
def cfOf {β : Type} (F : β → β → (Int → Option Int) → Option Int) (x y : β) : Int := (F x y some).getD 0
structure alk {β : Type} (F : β → β → (Int → Option Int) → Option Int) : Prop where
 tells : ∀ x y, ∃ c, F x y some = some c
 swo : SWO (ltOf (cfOf F))
 tot : ∀ x y, ltOf (cfOf F) x y = false → ltOf (cfOf F) y x = false → x = y
def aeX {β : Type} (cf : β → β → Int) (l : List β) : List β := l.mergeSort fun x y => !(ltOf cf) y x
open Classical in
noncomputable def anI {β : Type} (F : β → β → (Int → Option Int) → Option Int) (l : List β) (r : List β → Option α) : Option α := if alk F ∧ l.length < 4611686018427387904 then r (aeX (cfOf F) l) else none
def dRow : (t : Ty) → t.den → D
 | .pt, x => .agg [.int .i64 x.1, .int .i64 x.2]
 | .tr, x => .agg [.int .i64 x.1, .int .i64 x.2.1, .int .i64 x.2.2]
 | .qd, x => .agg [.int .i64 x.1, .int .i64 x.2.1, .int .i64 x.2.2.1, .int .i64 x.2.2.2]
 | .hx, x => .agg [.int .i64 x.1, .int .i64 x.2.1, .int .i64 x.2.2.1, .int .i64 x.2.2.2.1, .int .i64 x.2.2.2.2.1, .int .i64 x.2.2.2.2.2]
 | _, _ => .nilsl
def kI : Res → Option Int
 | ⟨[.int .i64 c], []⟩ => some c
 | _ => none
theorem azi {res : Res} {c : Int} (h : kI res = some c) : res = ⟨[.int .i64 c], []⟩ := by
 unfold kI at h
 split at h
 ·rw [Option.some.inj h]
 ·cases h
theorem aqn {t : Ty} (ht : aaw t = true) (w : World) (bad : Nat → Prop) (x : t.den) : DIn w bad (dRow t x) (.agg (encV t x).toArray) := by
 cases t <;> simp [aaw] at ht <;> exact ⟨_, rfl, by simp [encV, Ty.enc, akW, scal, DAll, DIn]⟩
theorem aj9 {t : Ty} (ht : aaw t = true) {w : World} {bad : Nat → Prop} {x : t.den} {ds : List D} {v : Value} {vs : List Value} {μ : List Nat} (h : DIn w bad (dRow t x) v ∧ nZ w bad ds vs μ) : nZ w bad (dRow t x :: ds) (v :: vs) μ := by
 cases t <;> simp [aaw] at ht <;> exact h
theorem anX {w w' : World} (h : Step w w' (· ∈ ([] : List Nat))) : ∃ q os, w' = grow (w.drewN q) os := by
 refine ⟨w'.drawn - w.drawn, w'.heap.extract w.heap.size w'.heap.size, ?_⟩
 have e1 : w.drawn + (w'.drawn - w.drawn) = w'.drawn := by have := h.drawn; omega
 have e2 : w.heap ++ w'.heap.extract w.heap.size w'.heap.size = w'.heap := by
  apply Array.ext_getElem?
  intro k
  rw [Array.getElem?_append]
  by_cases hk : k < w.heap.size
  ·rw [if_pos hk, h.block k hk (by simp)]
  ·rw [if_neg hk, Array.getElem?_extract]
   have hs := h.size
   by_cases hk2 : k < w'.heap.size
   ·rw [if_pos (by omega), show w.heap.size + (k - w.heap.size) = k by omega]
   ·rw [if_neg (by omega), Array.getElem?_eq_none (by omega)]
 have h1 := h.os
 have h2 := h.tape
 have h3 := h.output
 cases w'
 simp only [grow, World.drewN] at *
 rw [e1, e2, h1, h2, h3]
theorem axx {t : Ty} (ht : aaw t = true) {g : FuncId} {S : List D → (Res → Option Int) → Option Int} (hg : aW P g S) {F : t.den → t.den → (Int → Option Int) → Option Int} (hS : ∀ x y, S [dRow t x, dRow t y] kI = F x y some) (hF : alk F) (blk off size : Nat) (w : World) :
 CmpLays P g #[] (encV t) t.w (cfOf F) blk off size w := by
 intro m os dk _ x y
 obtain ⟨c, hc⟩ := hF.tells x y
 have hcf : cfOf F x y = c := by unfold cfOf; rw [hc]; rfl
 have hr := hg.runs [dRow t x, dRow t y] kI c ((hS x y).trans hc) (sortWorldK (encV t) t.w w blk off m dk os) #[.agg (encV t x).toArray, .agg (encV t y).toArray] [] (aj9 ht ⟨aqn ht _ _ x, aj9 ht ⟨aqn ht _ _ y, trivial⟩⟩) List.nodup_nil
 rw [Array.append_empty]
 refine hr.mono fun e w' ⟨v, res, he, hk, hp⟩ => ?_
 have := azi hk
 subst this
 obtain ⟨vals, ν, hv, hd, _, _⟩ := hp.rs
 have hv2 : v = .int .i64 c := by
  match vals, hd with
  | [u], ⟨ν1, ν2, _, h1, _⟩ =>
    have h2 : aaB (.int .i64 c) = some u := h1.2
    simp only [aaB, Option.some.injEq] at h2
    rw [hv, ← h2]
    rfl
 exact ⟨by rw [he, hv2, hcf], anX hp.frame⟩
theorem asL {β : Type} [Inhabited β] (enc : β → List Value) (k : Nat) (w : World) (g n : Nat) (d : Array β) (os : Array Obj) (hg : g < w.heap.size) : Step w (sortWorldK enc k w g 0 n d os) (· ∈ [g]) ∧ Kept w (sortWorldK enc k w g 0 n d os) g := by
 refine ⟨⟨rfl, rfl, rfl, size_sortWorldK_c enc k w g 0 n d os, fun j hj hn => ?_, Nat.le_add_right _ _⟩, fun cur e h => ?_⟩
 ·have hne : ¬ g = j := fun e => hn (by rw [e]; exact List.mem_singleton.2 rfl)
  unfold sortWorldK
  rw [heap_grow_old _ os (by show j < (putRowK enc k _ g 0 d).heap.size; unfold putRowK; rw [Go.Sort.size_putRow]; exact hj)]
  unfold putRowK putRow mapBlock
  show (w.heap.modify g _)[j]? = _
  rw [Array.getElem?_modify, if_neg hne]
 ·refine ⟨putCells id 0 (flatK enc k d) cur, ?_, by simp [putCells]⟩
  unfold sortWorldK
  rw [heap_grow_old _ os (by show g < (putRowK enc k _ g 0 d).heap.size; unfold putRowK; rw [Go.Sort.size_putRow]; exact hg)]
  unfold putRowK putRow mapBlock
  show (w.heap.modify g _)[g]? = _
  rw [Array.getElem?_modify, if_pos rfl, h]
  rfl
theorem auo {ρ : Ren} (L : SlLaysF0.n6 P ρ) {t : Ty} (ht : aaw t = true) (aE : ∀ w, (isAgg (ρ.t 24)).run P w = .ok true w) (zE : ∀ w, (Go.sizeOf (ρ.t 24)).run P w = .ok t.w w)
 {g : FuncId} {S : List D → (Res → Option Int) → Option Int} (hg : aW P g S) {F : t.den → t.den → (Int → Option Int) → Option Int} (hS : ∀ x y, S [dRow t x, dRow t y] kI = F x y some) (hF : alk F)
 {e : TypeId} {l : List t.den} (hl : l.length < 4611686018427387904) {κ : Res → Option α} {r : α} (hk : κ ⟨[], [.sl e t (aeX (cfOf F) l)]⟩ = some r) : Runs P (ρ.f 6) [.msl e t l, .fn g []] κ r := by
 intro w vs μ hin hnd
 have hlen : (aeX (cfOf F) l).length = l.length := List.length_mergeSort _
 have hz : l = [] → aeX (cfOf F) l = [] := fun h => List.length_eq_zero_iff.1 (by rw [hlen, h]; rfl)
 have none : ∀ p cap fv, Calls P (ρ.f 6) #[.slice p 0 cap, fv] w fun e w' => e = .returned (.tuple #[]) ∧ w' = w := fun p cap fv => AnyF.slices_SortFunc_none L p cap fv w
 rcases hvs : vs.toList with _ | ⟨v, _ | ⟨fv, _ | ⟨_, _⟩⟩⟩
 ·rw [hvs] at hin; simp [nZ] at hin
 ·rw [hvs] at hin
  rcases hin with ⟨g', μ', _, _, h⟩ | ⟨_, _, h⟩ <;> simp [nZ] at h
 ·have hv2 : vs = #[v, fv] := by rw [← Array.toArray_toList (xs := vs), hvs]
  rw [hvs] at hin
  subst hv2
  rcases hin with ⟨b, μ', rfl, ⟨cap, cur, rfl, hh, h1, h2, h3, h4⟩, h⟩ | ⟨h1, ⟨ad, rfl⟩, h⟩
  ·obtain ⟨⟨arr, rfl, hd⟩, h⟩ := h
   have harr : arr = #[] := by
    cases hx : arr.toList with
    | nil => exact Array.toList_eq_nil_iff.1 hx
    | cons _ _ => rw [hx] at hd; simp [DAll] at hd
   subst harr
   have hμ : μ' = [] := by cases μ' with | nil => rfl | cons _ _ => simp [nZ] at h
   subst hμ
   have hb : b < w.heap.size := aaT hh
   by_cases hn : l = []
   ·subst hn
    refine (none _ _ _).mono fun e' w' ⟨he, hw⟩ => ⟨_, _, he, hk, ?_⟩
    subst hw
    refine ⟨Step.refl _ _, fun g' hg' cur' e'' hh' => ⟨cur', hh', rfl⟩, ⟨.inr ⟨_, rfl, hlen, fun _ _ _ h => absurd rfl h⟩, trivial⟩, [], [], rfl, rfl, List.nodup_nil, by simp⟩
   ·have hc := AnyQ.slices_SortFunc_total (α := t.den) L t.w aE zE (encV t) (anS t) (axF ht) (cfOf F) hF.swo g #[] b 0 cap l.toArray w hg.enters (axx ht hg hS hF b 0 _ w) (ahe ht hh h4) hb (by simpa using hl) hF.tot
    have hsz : l.toArray.size = l.length := by simp
    rw [hsz] at hc
    refine hc.mono fun e' w' ⟨he, n, os, hw⟩ => ⟨_, _, he, hk, ?_⟩
    have hst := asL (encV t) t.w w b n (aeX (cfOf F) l).toArray os hb
    have hw2 : w' = sortWorldK (encV t) t.w w b 0 n (aeX (cfOf F) l).toArray os := hw
    subst hw2
    refine ⟨hst.1, fun g' hg' => ?_, ⟨.inr ⟨_, rfl, hlen, fun g' cap' he' _ => ?_⟩, trivial⟩, [], [], rfl, rfl, List.nodup_nil, by simp⟩
    ·rw [List.mem_singleton.1 hg']
     exact hst.2
    ·have : g' = b := by
      injection he' with h1 h2 h3
      injection h1 with h1
      injection h1 with h1
      exact h1.symm
     subst this
     exact alT ht (holdsK_sortWorldK_c (encV t) t.w w g' 0 l.toArray _ n os (ahe ht hh h4) hb (by simp [hlen]))
  ·subst h1
   obtain ⟨_, h⟩ := h
   have hμ : μ = [] := by cases μ with | nil => rfl | cons _ _ => simp [nZ] at h
   subst hμ
   refine (none _ _ _).mono fun e' w' ⟨he, hw⟩ => ⟨_, _, he, hk, ?_⟩
   subst hw
   exact ⟨Step.refl _ _, fun g' hg' => by simp at hg', ⟨.inr ⟨_, rfl, hlen, fun _ _ _ h => absurd rfl h⟩, trivial⟩, [], [], rfl, rfl, List.nodup_nil, by simp⟩
 ·rw [hvs] at hin
  rcases hin with ⟨g', μ', _, _, h⟩ | ⟨_, _, h⟩ <;> · obtain ⟨_, h⟩ := h; simp [nZ] at h
theorem avu {ρ : Ren} (L : SlLaysF0.n6 P ρ) {t : Ty} (ht : aaw t = true) (aE : ∀ w, (isAgg (ρ.t 24)).run P w = .ok true w) (zE : ∀ w, (Go.sizeOf (ρ.t 24)).run P w = .ok t.w w)
 {g : FuncId} {S : Nat → List D → (Res → Option Int) → Option Int} (hg : ∀ n, aW P g (S n)) {F : Nat → t.den → t.den → (Int → Option Int) → Option Int} (hS : ∀ n x y, S n [dRow t x, dRow t y] kI = F n x y some)
 {e : TypeId} {B : Nat → List t.den → (List t.den → Option α) → Option α} (hB : ∀ n l r, B n l r = anI (F n) l r) :
 ∀ n, aW P (ρ.f 6) (aQ [.msl e t, .fn g []] (bK ⟨[.msl e t, .fn g []], [.rows t], [⟨[.rows t], [], [.sl e t]⟩]⟩ B n)) := fun n =>
 ⟨L.f6.enters rfl, fun ds κ r h => by
   unfold aQ at h
   rw [Option.bind_eq_some_iff] at h
   obtain ⟨p, hp, hc⟩ := h
   have hb := Ky _ _ _ [] hp
   rw [List.append_nil] at hb
   unfold bK at hc
   rw [Option.bind_eq_some_iff] at hc
   obtain ⟨f, hf, hc⟩ := hc
   match p, hf with
   | [q], hf =>
     simp only [appP, Option.bind_eq_some_iff] at hf
     obtain ⟨l, hl, hf⟩ := hf
     have hq := LT.get_p1 hl
     subst hq
     have := Option.some.inj hf
     subst this
     have hds : ds = [.msl e t l, .fn g []] := by
      simp [xx, ry, LT.p1] at hb
      exact hb.symm
     subst hds
     have hc2 : B n l (fun l' => κ ⟨[], [.sl e t l']⟩) = some r := by
      rw [← hc]
      simp only [feed, cur, RetS.mk1, xx, ry, LT.p1]
      congr 1
     rw [hB] at hc2
     unfold anI at hc2
     split at hc2
     ·rename_i hok
      exact auo L ht aE zE (hg n) (hS n) hok.1 hok.2 hc2
     ·cases hc2
   | [], hf => simp [appP] at hf
   | _ :: _ :: _, hf => simp [appP] at hf⟩
theorem anp {ρ : Ren} (L : SlLaysF0.n6 P ρ) {g : FuncId} {B : Nat → Option α → Option α} (hB : ∀ n r, B n r = r) :
 ∀ n, aW P (ρ.f 6) (aQ [.nilsl, .fn g []] (bK ⟨[.nilsl, .fn g []], [], [⟨[], [], []⟩]⟩ B n)) := fun n =>
 ⟨L.f6.enters rfl, fun ds κ r h => by
   unfold aQ at h
   rw [Option.bind_eq_some_iff] at h
   obtain ⟨p, hp, hc⟩ := h
   have hb := Ky _ _ _ [] hp
   rw [List.append_nil] at hb
   unfold bK at hc
   rw [Option.bind_eq_some_iff] at hc
   obtain ⟨f, hf, hc⟩ := hc
   match p, hf with
   | [], hf =>
     have := Option.some.inj hf
     subst this
     have hds : ds = [.nilsl, .fn g []] := by
      simp [xx, ry] at hb
      exact hb.symm
     subst hds
     have hc2 : κ ⟨[], []⟩ = some r := by
      rw [← hc]
      show _ = B n (κ ⟨[], []⟩)
      rw [hB]
     intro w vs μ hin hnd
     rcases hvs : vs.toList with _ | ⟨v, _ | ⟨fv, _ | ⟨_, _⟩⟩⟩
     ·rw [hvs] at hin; simp [nZ] at hin
     ·rw [hvs] at hin; simp [nZ] at hin
     ·have hv2 : vs = #[v, fv] := by rw [← Array.toArray_toList (xs := vs), hvs]
      rw [hvs] at hin
      subst hv2
      obtain ⟨rfl, ⟨arr, rfl, hd⟩, h⟩ := hin
      have hμ : μ = [] := by cases μ with | nil => rfl | cons _ _ => simp [nZ] at h
      subst hμ
      refine (AnyF.slices_SortFunc_none L _ _ _ w).mono fun e' w' ⟨he, hw⟩ => ⟨_, _, he, hc2, ?_⟩
      subst hw
      exact ⟨Step.refl _ _, fun g' hg' => by simp at hg', trivial, [], [], rfl, rfl, List.nodup_nil, by simp⟩
     ·rw [hvs] at hin; obtain ⟨_, _, h⟩ := hin; simp [nZ] at h
   | _ :: _, hf => simp [appP] at hf⟩
end Go.Ev
