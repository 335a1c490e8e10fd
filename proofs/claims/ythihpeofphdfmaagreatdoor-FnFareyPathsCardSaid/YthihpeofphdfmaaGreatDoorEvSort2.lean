/- Sorting by an order that is whole on the list's own elements alone. -/
import Derived.Test.YthihpeofphdfmaaGreatDoorEvSort
namespace Go.Ev
open Go.RowKit Go.Proofs Go.Sort Go.Shelf
variable {α : Type} {P : Program}
structure ags {β : Type} (F : β → β → (Int → Option Int) → Option Int) (l : List β) : Prop where
 tells : ∀ x ∈ l, ∀ y ∈ l, ∃ c, F x y some = some c
 swo : SWO (ltOf fun (x y : {x // x ∈ l}) => cfOf F x.1 y.1)
 tot : ∀ x ∈ l, ∀ y ∈ l, ltOf (cfOf F) x y = false → ltOf (cfOf F) y x = false → x = y
open Classical in
noncomputable def ahR {β : Type} (F : β → β → (Int → Option Int) → Option Int) (l : List β) (r : List β → Option α) : Option α := if ags F l ∧ l.length < 4611686018427387904 then r (abK (cfOf F) l) else none
theorem ahE {β γ : Type} [Inhabited β] [Inhabited γ] (f : γ → β) (enc : β → List Value) {k : Nat} (hk : 0 < k) (d : Array γ) : flatK (fun x => enc (f x)) k d = flatK enc k (d.map f) := by
 unfold flatK
 rw [Array.size_map]
 apply Array.map_congr_left
 intro t ht
 have h1 : t < d.size * k := Array.mem_range.1 ht
 have h2 : t / k < d.size := (Nat.div_lt_iff_lt_mul hk).2 h1
 rw [getElem!_pos d (t / k) h2, getElem!_pos (d.map f) (t / k) (by rw [Array.size_map]; exact h2), Array.getElem_map]
theorem amW {β γ : Type} [Inhabited β] [Inhabited γ] (f : γ → β) (enc : β → List Value) {k : Nat} (hk : 0 < k) (w : World) (b o m : Nat) (d : Array γ) (os : Array Obj) : sortWorldK (fun x => enc (f x)) k w b o m d os = sortWorldK enc k w b o m (d.map f) os := by
 unfold sortWorldK putRowK
 rw [ahE f enc hk]
section
variable [iq : Inhabited aX]
theorem alK {t : Ty} (ht : Oj t = true) {g : FuncId} {S : List D → (Res → Option Int) → Option Int} (hq : Qt) (hg : fV P g S) {F : t.den → t.den → (Int → Option Int) → Option Int} (hS : ∀ x y, S [dRow t x, dRow t y] kI = F x y some) {l : List t.den} [Inhabited {x // x ∈ l}] (hF : ags F l) (blk off size : Nat) (w : World) :
 CmpLays P g #[] (fun (x : {x // x ∈ l}) => encV t x.1) t.w (fun x y => cfOf F x.1 y.1) blk off size w := by
 intro m os dk _ x y
 obtain ⟨c, hc⟩ := hF.tells x.1 x.2 y.1 y.2
 have hcf : cfOf F x.1 y.1 = c := by unfold cfOf; rw [hc]; rfl
 have hr := hg.runs [dRow t x.1, dRow t y.1] kI c ((hS x.1 y.1).trans hc) (sortWorldK (fun (x : {x // x ∈ l}) => encV t x.1) t.w w blk off m dk os) #[.agg (encV t x.1).toArray, .agg (encV t y.1).toArray] [] (aeU ht ⟨akp ht _ _ x.1, aeU ht ⟨akp ht _ _ y.1, trivial⟩⟩) List.nodup_nil
 rw [Array.append_empty]
 refine hr.mono fun e w' ⟨v, res, he, hk, hp⟩ => ?_
 have := ap0 hk
 subst this
 obtain ⟨vals, ν, hv, hd, _, _⟩ := hp.rs
 have hv2 : v = .int .i64 c := by
  match vals, hd with
  | [u], ⟨ν1, ν2, _, h1, _⟩ =>
    have h2 : Oy (.int .i64 c) = some u := h1.2
    simp only [Oy, Option.some.injEq] at h2
    rw [hv, ← h2]
    rfl
 exact ⟨by rw [he, hv2]; exact congrArg (fun z => Ending.returned (.int .i64 z)) hcf.symm, aiL hq hp.frame⟩
theorem akL {ρ : Ren} (L : SlLaysF0.n6 P ρ) {t : Ty} (ht : Oj t = true) (aE : ∀ w, (isAgg (ρ.t 24)).run P w = .ok true w) (zE : ∀ w, (Go.sizeOf (ρ.t 24)).run P w = .ok t.w w)
 {g : FuncId} {S : List D → (Res → Option Int) → Option Int} (hg : @fV qT Int P g S) {F : t.den → t.den → (Int → Option Int) → Option Int} (hS : ∀ x y, S [dRow t x, dRow t y] kI = F x y some)
 {e : TypeId} {l : List t.den} (hF : ags F l) (hl : l.length < 4611686018427387904) {κ : Res → Option α} {r : α} (hk : κ ⟨[], [.sl e t (abK (cfOf F) l)]⟩ = some r) : Runs P (ρ.f 6) [.msl e t l, .fn g []] κ r := by
 intro w vs μ hin hnd
 have hlen : (abK (cfOf F) l).length = l.length := List.length_mergeSort _
 have none : ∀ p cap fv, Calls P (ρ.f 6) #[.slice p 0 cap, fv] w fun e w' => e = .returned (.tuple #[]) ∧ w' = w := fun p cap fv => AnyF.slices_SortFunc_none L p cap fv w
 rcases hvs : vs.toList with _ | ⟨v, _ | ⟨fv, _ | ⟨_, _⟩⟩⟩
 ·rw [hvs] at hin; simp [jK] at hin
 ·rw [hvs] at hin
  rcases hin with ⟨g', μ', _, _, h⟩ | ⟨_, _, h⟩ <;> simp [jK] at h
 ·have hv2 : vs = #[v, fv] := by rw [← Array.toArray_toList (xs := vs), hvs]
  rw [hvs] at hin
  subst hv2
  rcases hin with ⟨b, μ', rfl, ⟨cap, cur, rfl, hh, h1, h2, h3, h4⟩, h⟩ | ⟨h1, ⟨ad, rfl⟩, h⟩
  ·obtain ⟨⟨arr, rfl, hd⟩, h⟩ := h
   have harr : arr = #[] := by
    cases hx : arr.toList with
    | nil => exact Array.toList_eq_nil_iff.1 hx
    | cons _ _ => rw [hx] at hd; simp [DAll] at hd
   subst harr
   have hμ : μ' = [] := by cases μ' with | nil => rfl | cons _ _ => simp [jK] at h
   subst hμ
   have hb : b < w.heap.size := Dw hh
   by_cases hn : l = []
   ·subst hn
    refine (none _ _ _).mono fun e' w' ⟨he, hw⟩ => ⟨_, _, he, hk, ?_⟩
    subst hw
    refine ⟨Step.refl _ _, fun g' hg' cur' e'' hh' => ⟨cur', hh', rfl⟩, ⟨.inr ⟨_, rfl, hlen, fun _ _ _ h => absurd rfl h⟩, trivial⟩, [], [], rfl, rfl, List.nodup_nil, by simp⟩
   ·obtain ⟨x0, hx0⟩ := List.exists_mem_of_ne_nil l hn
    letI : Inhabited {x // x ∈ l} := ⟨⟨x0, hx0⟩⟩
    have hmap : l.attach.toArray.map (fun (x : {x // x ∈ l}) => x.1) = l.toArray := by simp
    have hH : HoldsK (fun (x : {x // x ∈ l}) => encV t x.1) t.w w b 0 l.attach.toArray := by
     have := acQ ht hh h4
     unfold HoldsK at this ⊢
     rw [ahE (fun (x : {x // x ∈ l}) => x.1) (encV t) (ajh ht), hmap]
     exact this
    have hc := AnyQ.slices_SortFunc_total (α := {x // x ∈ l}) L t.w aE zE (fun x => encV t x.1) (fun x => ah2 t x.1) (fun x => anD ht x.1) (fun x y => cfOf F x.1 y.1) hF.swo g #[] b 0 cap l.attach.toArray w (@fV.enters qT _ _ _ _ hg) (alK (iq := qT) ht trivial hg hS hF b 0 _ w) hH hb (by simpa using hl) (fun x y h1 h2 => Subtype.ext (hF.tot x.1 x.2 y.1 y.2 h1 h2))
    have hsz : l.attach.toArray.size = l.length := by simp
    rw [hsz] at hc
    refine hc.mono fun e' w' ⟨he, n, os, hw⟩ => ⟨_, _, he, hk, ?_⟩
    have hst := amu (encV t) t.w w b n (abK (cfOf F) l).toArray os hb
    have hms : (l.attach.toArray.toList.mergeSort fun x y => !(ltOf fun (x y : {x // x ∈ l}) => cfOf F x.1 y.1) y x).map (fun x => x.1) = abK (cfOf F) l := by
     have := List.map_mergeSort (r := fun (x y : {x // x ∈ l}) => !(ltOf fun (x y : {x // x ∈ l}) => cfOf F x.1 y.1) y x) (s := fun x y => !(ltOf (cfOf F)) y x) (f := fun (x : {x // x ∈ l}) => x.1) (l := l.attach) (fun a _ b _ => rfl)
     rw [List.attach_map_subtype_val] at this
     exact this
    have hw2 : w' = sortWorldK (encV t) t.w w b 0 n (abK (cfOf F) l).toArray os := by
     rw [hw, amW (fun (x : {x // x ∈ l}) => x.1) (encV t) (ajh ht)]
     congr 1
     rw [← hms]
     simp
    subst hw2
    refine ⟨hst.1, fun g' hg' => ?_, ⟨.inr ⟨_, rfl, hlen, fun g' cap' he' _ => ?_⟩, trivial⟩, [], [], rfl, rfl, List.nodup_nil, by simp⟩
    ·rw [List.mem_singleton.1 hg']
     exact hst.2
    ·have : g' = b := by
      injection he' with h1 h2 h3
      injection h1 with h1
      injection h1 with h1
      exact h1.symm
     subst this
     exact ag0 ht (holdsK_sortWorldK_c (encV t) t.w w g' 0 l.toArray _ n os (acQ ht hh h4) hb (by simp [hlen]))
  ·subst h1
   obtain ⟨_, h⟩ := h
   have hμ : μ = [] := by cases μ with | nil => rfl | cons _ _ => simp [jK] at h
   subst hμ
   refine (none _ _ _).mono fun e' w' ⟨he, hw⟩ => ⟨_, _, he, hk, ?_⟩
   subst hw
   exact ⟨Step.refl _ _, fun g' hg' => by simp at hg', ⟨.inr ⟨_, rfl, hlen, fun _ _ _ h => absurd rfl h⟩, trivial⟩, [], [], rfl, rfl, List.nodup_nil, by simp⟩
 ·rw [hvs] at hin
  rcases hin with ⟨g', μ', _, _, h⟩ | ⟨_, _, h⟩ <;> · obtain ⟨_, h⟩ := h; simp [jK] at h
theorem aky {ρ : Ren} (L : SlLaysF0.n6 P ρ) {t : Ty} (ht : Oj t = true) (aE : ∀ w, (isAgg (ρ.t 24)).run P w = .ok true w) (zE : ∀ w, (Go.sizeOf (ρ.t 24)).run P w = .ok t.w w)
 {g : FuncId} {S : Nat → List D → (Res → Option Int) → Option Int} (hg : ∀ n, @fV qT Int P g (S n)) {F : Nat → t.den → t.den → (Int → Option Int) → Option Int} (hS : ∀ n x y, S n [dRow t x, dRow t y] kI = F n x y some)
 {e : TypeId} {B : Nat → List t.den → (List t.den → Option α) → Option α} (hB : ∀ n l r, B n l r = ahR (F n) l r) :
 ∀ n, fV P (ρ.f 6) (dJ [.msl e t, .fn g []] (gV ⟨[.msl e t, .fn g []], [.rows t], [⟨[.rows t], [], [.sl e t]⟩]⟩ B n)) := fun n =>
 ⟨L.f6.enters rfl, fun ds κ r h => by
   unfold dJ at h
   rw [Option.bind_eq_some_iff] at h
   obtain ⟨p, hp, hc⟩ := h
   have hb := zZ _ _ _ [] hp
   rw [List.append_nil] at hb
   unfold gV at hc
   rw [Option.bind_eq_some_iff] at hc
   obtain ⟨f, hf, hc⟩ := hc
   match p, hf with
   | [q], hf =>
     simp only [appP, Option.bind_eq_some_iff] at hf
     obtain ⟨l, hl, hf⟩ := hf
     have hq := LT.get_p1 hl
     subst hq
     have := Option.some.inj hf
     subst this
     have hds : ds = [.msl e t l, .fn g []] := by
      simp [pW, mJ, LT.p1] at hb
      exact hb.symm
     subst hds
     have hc2 : B n l (fun l' => κ ⟨[], [.sl e t l']⟩) = some r := by
      rw [← hc]
      simp only [feed, cur, RetS.mk1, pW, mJ, LT.p1]
      congr 1
     rw [hB] at hc2
     unfold ahR at hc2
     split at hc2
     ·rename_i hok
      exact akL L ht aE zE (hg n) (hS n) hok.1 hok.2 hc2
     ·cases hc2
   | [], hf => simp [appP] at hf
   | _ :: _ :: _, hf => simp [appP] at hf⟩
end
end Go.Ev
