import Derived.Test.YthjehhoafmnmkaaG0XGapsOf
import Derived.Test.YthjehhoafmnmkaaSe1XGapsOf
import Derived.Test.YthjehhoafmnmkaaMaXGapsOf
namespace Go.Proofs.Ythjehhoafmnmkaa
open Go Go.RowKit Go.Shelf Go.Ev Go.Sh
variable {α : Type}
/-- Draws are not counted. -/
abbrev nQ : Inhabited az := ⟨⟨False⟩⟩
theorem xq [Inhabited az] {P : Program} {g : FuncId} {S : List D → (Res → Option α) → Option α} (h : iw P g S) {ds : List D} {κ : Res → Option α} {r : α} (hs : S ds κ = some r) {w : World} {vs : Array Value} {μ : List Nat} (hin : iJ w (· ∈ μ) ds vs.toList μ) (hnd : μ.Nodup) :
 Calls P g vs w fun e w' => ∃ v res, e = .returned v ∧ κ res = some r ∧ adK w w' μ ds vs.toList res v := h.runs ds κ r hs w vs μ hin hnd
theorem DY {Q : Inhabited az} {w w' : World} (h : @Step Q w w' (fun k => k ∈ ([] : List Nat))) : Below w.heap.size w w' := ⟨h.os, h.tape, h.output, h.size, fun k hk => h.block k hk (by simp)⟩
def OwnL (W : World) (lo : Nat) (v : Value) (l : List Int) : Prop :=
 ∃ g cap cur, v = .slice (some ⟨g, 0, none⟩) l.length cap ∧ lo ≤ g ∧ W.heap[g]? = some (.cells cur 2 (0, 0)) ∧ l.length ≤ cap ∧ cap ≤ maxLen ∧ cur.size = cap ∧ ∀ j, j < l.length → W.cell? ⟨g, j, none⟩ = some (.int .i64 (l[j]?.getD 0))
theorem aeb (l : List Int) : l.flatMap (Ty.enc (.int .i64)) = l.map fun n => AV.int .i64 n := by
 induction l with
 | nil => rfl
 | cons x l ih => rw [List.flatMap_cons, ih]; rfl
theorem abD {W : World} {g o : Nat} {l : List Int} (h : yJ W g o (l.flatMap (Ty.enc (.int .i64)))) : ∀ j, j < l.length → W.cell? ⟨g, o + j, none⟩ = some (.int .i64 (l[j]?.getD 0)) := fun j hj => by
 obtain ⟨v, hv, hc⟩ := h j (.int .i64 l[j]) (by rw [aeb, List.getElem?_map, List.getElem?_eq_getElem hj]; rfl)
 have hv2 : v = .int .i64 l[j] := (Option.some.inj hv).symm
 rw [hc, hv2, List.getElem?_eq_getElem hj]
 rfl
theorem RJ {W : World} {lo : Nat} {args : List Value} {l : List Int} {v : Value} {ν : List Nat} {e : TypeId} (he : e = 2) (h0 : l ≠ []) (h : DOut W args (.sl e (.int .i64) l) v ν) (hν : ∀ g ∈ ν, lo ≤ g) : OwnL W lo v l := by
 subst he
 rcases h with ⟨g, cap, cur, h1, h2, h3, h4, h5, h6, h7⟩ | ⟨h1, _⟩
 ·refine ⟨g, cap, cur, h2, hν g (by rw [h1]; simp), h3, h4, h5, ?_, fun j hj => ?_⟩
  ·have : cur.size = cap * 1 := h6
   omega
  ·have := abD h7 j hj
   rwa [Nat.zero_add] at this
 ·exact absurd h1 h0
theorem by7 (F : Nat → Int → Int → Int → (List Int → Option Res) → Option Res) (k : Nat) (p q n : Int) (κ : Res → Option Res) : eQ S7.sh (gX S7 F k) [.int .i64 p, .int .i64 q, .int .i64 n] κ = F k p q n (fun l => κ ⟨[.sl 2 (.int .i64) l], []⟩) := by kernel_rfl
theorem ajz {p q : Int} (hr : RatM p q) {n : Nat} (h1 : 1 ≤ n) (hn : n ≤ 500) (w : World) :
 Calls Try.prog 15 #[.int .i64 p, .int .i64 q, .int .i64 n] w fun e w' => ∃ v, e = .returned v ∧ OwnL w' w.heap.size v (sbM p q 0 n) ∧ Below w.heap.size w w' := by
 letI := nQ
 obtain ⟨k, hk⟩ : ∃ k, 100000 < k := ⟨100001, by decide⟩
 have hs : eQ S7.sh (gX S7 tY k) [.int .i64 p, .int .i64 q, .int .i64 n] (some : Res → Option Res) = some ⟨[.sl 2 (.int .i64) (sbM p q 0 n)], []⟩ := by
  rw [by7 tY]
  exact adD hr hn k hk _
 refine (xq (ahc k) hs (w := w) (vs := #[.int .i64 p, .int .i64 q, .int .i64 n]) (μ := []) ⟨rfl, rfl, rfl, trivial⟩ List.nodup_nil).mono fun e w' ⟨v, res, he, hk, hp⟩ => ⟨v, he, ?_, DY hp.frame⟩
 have hres := Option.some.inj hk
 subst hres
 obtain ⟨vals, ν, hv, hd, _, hν⟩ := hp.rs
 match vals, hd with
 | [u], ⟨ν1, ν2, hνν, h1', h2'⟩ =>
   have hvu : v = u := hv
   subst hvu
   refine RJ rfl (fun e => ?_) h1' fun g hg => ?_
   ·have := jY (p := p) (q := q) (a := 0) (n := n)
    rw [e] at this
    simp at this
    omega
   ·have := hν g (by rw [hνν]; simp [hg])
    rcases this with h | h
    ·exact h
    ·simp [qJ] at h
theorem aj2 {p q : Int} (hr : RatM p q) {n : Nat} (h1 : 1 ≤ n) (hn : n ≤ 500) (w : World) :
 Calls Try.prog 11 #[.int .i64 p, .int .i64 q, .int .i64 n] w fun e w' => ∃ v, e = .returned v ∧ OwnL w' w.heap.size v (sbM p q 0 n) ∧ Below w.heap.size w w' := by
 letI := nQ
 obtain ⟨k, hk⟩ : ∃ k, 100000 < k := ⟨100001, by decide⟩
 have hs : eQ S7.sh (gX S7 uj k) [.int .i64 p, .int .i64 q, .int .i64 n] (some : Res → Option Res) = some ⟨[.sl 2 (.int .i64) (sbM p q 0 n)], []⟩ := by
  rw [by7 uj]
  exact ahN hr hn k hk _
 refine (xq (ahi k) hs (w := w) (vs := #[.int .i64 p, .int .i64 q, .int .i64 n]) (μ := []) ⟨rfl, rfl, rfl, trivial⟩ List.nodup_nil).mono fun e w' ⟨v, res, he, hk, hp⟩ => ⟨v, he, ?_, DY hp.frame⟩
 have hres := Option.some.inj hk
 subst hres
 obtain ⟨vals, ν, hv, hd, _, hν⟩ := hp.rs
 match vals, hd with
 | [u], ⟨ν1, ν2, hνν, h1', h2'⟩ =>
   have hvu : v = u := hv
   subst hvu
   refine RJ rfl (fun e => ?_) h1' fun g hg => ?_
   ·have := jY (p := p) (q := q) (a := 0) (n := n)
    rw [e] at this
    simp at this
    omega
   ·have := hν g (by rw [hνν]; simp [hg])
    rcases this with h | h
    ·exact h
    ·simp [qJ] at h
theorem by11 (F : Nat → List Int → (List Int → Option Res) → Option Res) (k : Nat) (l : List Int) (κ : Res → Option Res) : eQ S11.sh (gX S11 F k) [.msl 2 (.int .i64) l] κ = F k l (fun l => κ ⟨[.sl 2 (.int .i64) l], [.nilsl]⟩) := by kernel_rfl
theorem agc {l : List Int} (h : l ≠ []) : ddJ l ≠ [] := by
 cases l with
 | nil => exact absurd rfl h
 | cons x l => simp [ddJ]
theorem aa7 {W : World} {g : Nat} {l : List Int} (h : ∀ j, j < l.length → W.cell? ⟨g, j, none⟩ = some (.int .i64 (l[j]?.getD 0))) : yJ W g 0 (l.flatMap (Ty.enc (.int .i64))) := fun i av hi => by
 rw [aeb, List.getElem?_map] at hi
 cases hl : l[i]? with
 | none => rw [hl] at hi; cases hi
 | some x =>
   rw [hl] at hi
   have e : av = .int .i64 x := (Option.some.inj hi).symm
   subst e
   have hlt : i < l.length := by
    rcases Nat.lt_or_ge i l.length with h1 | h1
    ·exact h1
    ·rw [List.getElem?_eq_none h1] at hl; cases hl
   refine ⟨.int .i64 x, rfl, ?_⟩
   rw [Nat.zero_add, h i hlt, hl]
   rfl
theorem ajd {lo : Nat} {v : Value} {l : List Int} (h0 : l ≠ []) (hl : l.length ≤ 1000) (w : World) (hlo : lo ≤ w.heap.size) (h : OwnL w lo v l) :
 Calls Try.prog 17 #[v] w fun e w' => ∃ v', e = .returned v' ∧ OwnL w' lo v' (ddJ l) ∧ Below lo w w' := by
 letI := nQ
 obtain ⟨k, hk⟩ : ∃ k, 2000010 < k := ⟨2000011, by decide⟩
 obtain ⟨g, cap, cur, rfl, hg, hb, h1, h2, h3, hc⟩ := h
 have hs : eQ S11.sh (gX S11 jV k) [.msl 2 (.int .i64) l] (some : Res → Option Res) = some ⟨[.sl 2 (.int .i64) (ddJ l)], [.nilsl]⟩ := by
  rw [by11 jV]
  exact adV k (by omega) hk _
 have hin : iJ w (· ∈ [g]) [.msl 2 (.int .i64) l] (#[Value.slice (some ⟨g, 0, none⟩) l.length cap]).toList [g] :=
  .inl ⟨g, [], rfl, ⟨cap, cur, rfl, hb, h1, h2, by rw [h3]; exact (Nat.mul_one _).symm, aa7 hc⟩, trivial⟩
 refine (xq (ahv k) hs (w := w) hin (by simp)).mono fun e w' ⟨v, res, he, hk, hp⟩ => ⟨v, he, ?_, ?_⟩
 ·have hres := Option.some.inj hk
  subst hres
  obtain ⟨vals, ν, hv, hd, _, hν⟩ := hp.rs
  match vals, hd with
  | [u], ⟨ν1, ν2, hνν, h1', h2'⟩ =>
    have hvu : v = u := hv
    subst hvu
    refine RJ rfl (agc h0) h1' fun g' hg' => ?_
    rcases hν g' (by rw [hνν]; simp [hg']) with h | h
    ·omega
    ·have h0' := h
     have : g' = g := by
      have hpos : 0 < l.length := List.length_pos_iff.2 h0
      obtain ⟨n, rfl⟩ : ∃ n, cap = n + 1 := ⟨cap - 1, by omega⟩
      have h2 : g' ∈ [g] := h0'
      simpa using h2
     omega
 ·have hf := hp.frame
  exact ⟨hf.os, hf.tape, hf.output, hf.size, fun k hk => hf.block k (by omega) (by simp; omega)⟩
def In2 (W : World) (c : Nat) (x y : Int) : Prop := W.heap[c]? = some (.cells #[.int .i64 x, .int .i64 y] 2 (0, 0))
def enc2 (x : Nat × Int × Int) : Value := .slice (some ⟨x.1, 0, none⟩) 2 2
theorem In2.cells {W : World} {c : Nat} {x y : Int} (h : In2 W c x y) : ∀ j, j < [x, y].length → W.cell? ⟨c, j, none⟩ = some (.int .i64 (([x, y] : List Int)[j]?.getD 0)) := fun j hj => by
 unfold In2 at h
 rcases (show j = 0 ∨ j = 1 by simp at hj; omega) with rfl | rfl <;> simp [World.cell?, h]
theorem In2.dIn {W : World} {c : Nat} {x y : Int} {bad : Nat → Prop} (h : In2 W c x y) (hb : ¬ bad c) (z : Int × Int) : DIn W bad (.sl 2 (.int .i64) [x, y]) (enc2 (c, z)) :=
 ⟨_, _, rfl, Nat.le_refl _, .inr ⟨c, 0, rfl, hb, aa7 h.cells⟩⟩
theorem by9 (F : Nat → List Int → List Int → (Bool → Option Res) → Option Res) (k : Nat) (a b : List Int) (κ : Res → Option Res) : eQ S9.sh (gX S9 F k) [.sl 2 (.int .i64) a, .sl 2 (.int .i64) b] κ = F k a b (fun b => κ ⟨[.bool b], []⟩) := by kernel_rfl
theorem by8 (F : Nat → List Int → List Int → (Int → Option Res) → Option Res) (k : Nat) (a b : List Int) (κ : Res → Option Res) : eQ S8.sh (gX S8 F k) [.sl 2 (.int .i64) a, .sl 2 (.int .i64) b] κ = F k a b (fun b => κ ⟨[.int .i64 b], []⟩) := by kernel_rfl
theorem by10 (F : Nat → List Int → Int → (Int → Option Res) → Option Res) (k : Nat) (a : List Int) (b : Int) (κ : Res → Option Res) : eQ S10.sh (gX S10 F k) [.sl 2 (.int .i64) a, .int .i64 b] κ = F k a b (fun b => κ ⟨[.int .i64 b], []⟩) := by kernel_rfl
theorem by12 (F : Nat → List Int → Int → (Int → List Int → Option Res) → Option Res) (k : Nat) (a : List Int) (b : Int) (κ : Res → Option Res) : eQ S12.sh (gX S12 F k) [.msl 2 (.int .i64) a, .int .i64 b] κ = F k a b (fun b l => κ ⟨[.int .i64 b], [.sl 2 (.int .i64) l]⟩) := by kernel_rfl
theorem eq_c {w : World} {c d : Nat} {x y x' y' : Int} (h1 : In2 w c x y) (h2 : In2 w d x' y') (z z' : Int × Int) :
 Calls Try.prog 20 #[enc2 (c, z), enc2 (d, z')] w fun e w' => e = .returned (.bool (decide (x = x' ∧ y = y'))) ∧ Below w.heap.size w w' := by
 letI := nQ
 obtain ⟨k, hk⟩ : ∃ k, 1000010 < k := ⟨1000011, by decide⟩
 have hs : eQ S9.sh (gX S9 uz k) [.sl 2 (.int .i64) [x, y], .sl 2 (.int .i64) [x', y']] (some : Res → Option Res) = some ⟨[.bool (decide ([x, y] = [x', y']))], []⟩ := by
  rw [by9 uz]
  exact ajr k _ _ (by simp) hk _
 refine (xq (ahf k) hs (w := w) (vs := #[enc2 (c, z), enc2 (d, z')]) (μ := []) ⟨h1.dIn (by simp) z, h2.dIn (by simp) z', trivial⟩ List.nodup_nil).mono fun e w' ⟨v, res, he, hk, hp⟩ => ⟨?_, DY hp.frame⟩
 have hres := Option.some.inj hk
 subst hres
 obtain ⟨vals, ν, hv, hd, _, hν⟩ := hp.rs
 match vals, hd with
 | [u], ⟨ν1, ν2, hνν, ⟨_, h1'⟩, h2'⟩ =>
   have hvu : v = u := hv
   subst hvu
   rw [he]
   have e1 : v = .bool (decide ([x, y] = [x', y'])) := (Option.some.inj h1').symm
   rw [e1]
   simp
theorem ajD {w : World} {c : Nat} {m : Int} (h0 : 0 ≤ m) (hm : m ≤ 1000000) (h1 : In2 w c m (m + 1)) (z : Int × Int) :
 Calls Try.prog 22 #[enc2 (c, z), .int .i64 m] w fun e w' => e = .returned (.int .i64 (m + 2)) ∧ Below w.heap.size w w' := by
 letI := nQ
 obtain ⟨k, hk⟩ : ∃ k, 10 < k := ⟨11, by decide⟩
 have hs : eQ S10.sh (gX S10 rV k) [.sl 2 (.int .i64) [m, m + 1], .int .i64 m] (some : Res → Option Res) = some ⟨[.int .i64 (m + 2)], []⟩ := by
  rw [by10 rV]
  exact aks k hk m h0 hm _
 refine (xq (ah4 k) hs (w := w) (vs := #[enc2 (c, z), .int .i64 m]) (μ := []) ⟨h1.dIn (by simp) z, rfl, trivial⟩ List.nodup_nil).mono fun e w' ⟨v, res, he, hk, hp⟩ => ⟨?_, DY hp.frame⟩
 have hres := Option.some.inj hk
 subst hres
 obtain ⟨vals, ν, hv, hd, _, hν⟩ := hp.rs
 match vals, hd with
 | [u], ⟨ν1, ν2, hνν, ⟨_, h1'⟩, h2'⟩ =>
   have hvu : v = u := hv
   subst hvu
   rw [he]
   have e1 : v = .int .i64 (m + 2) := (Option.some.inj h1').symm
   rw [e1]
theorem ajh {w : World} {c : Nat} {x y m : Int} (h0 : 0 ≤ m) (hm : m ≤ 1000000) (h1 : In2 w c x y) (z : Int × Int) :
 Calls Try.prog 21 #[enc2 (c, z), .int .i64 m] w fun e w' => e = .returned (.int .i64 (m + 2)) ∧ In2 w' c m (m + 1) ∧ @Step nQ w w' (· ∈ [c]) := by
 letI := nQ
 obtain ⟨k, hk⟩ : ∃ k, 10 < k := ⟨11, by decide⟩
 have hs : eQ S12.sh (gX S12 rY k) [.msl 2 (.int .i64) [x, y], .int .i64 m] (some : Res → Option Res) = some ⟨[.int .i64 (m + 2)], [.sl 2 (.int .i64) [m, m + 1]]⟩ := by
  rw [by12 rY]
  exact akp k hk x y m h0 hm _
 have hin : iJ w (· ∈ [c]) [.msl 2 (.int .i64) [x, y], .int .i64 m] (#[enc2 (c, z), Value.int .i64 m]).toList [c] :=
  .inl ⟨c, [], rfl, ⟨2, _, rfl, h1, Nat.le_refl _, by unfold maxLen; omega, rfl, aa7 h1.cells⟩, rfl, trivial⟩
 refine (xq (ahE k) hs (w := w) hin (by simp)).mono fun e w' ⟨v, res, he, hk, hp⟩ => ⟨?_, ?_, hp.frame⟩
 ·have hres := Option.some.inj hk
  subst hres
  obtain ⟨vals, ν, hv, hd, _, hν⟩ := hp.rs
  match vals, hd with
  | [u], ⟨ν1, ν2, hνν, ⟨_, h1'⟩, h2'⟩ =>
    have hvu : v = u := hv
    subst hvu
    rw [he]
    have e1 : v = .int .i64 (m + 2) := (Option.some.inj h1').symm
    rw [e1]
 ·have hres := Option.some.inj hk
  subst hres
  have ho := hp.outs
  obtain ⟨cur', hc', hsz⟩ := hp.kept c (by simp) _ _ h1
  rcases ho.1 with e | ⟨l', e, _, hcs⟩
  ·cases e
  ·have el : l' = [m, m + 1] := by
    injection e with e1 e2 e3
    exact e3.symm
   subst el
   have hcell := abD (hcs c 2 rfl (by simp))
   have k0 := hcell 0 (by simp)
   have k1 := hcell 1 (by simp)
   unfold In2
   rw [hc']
   have h2 : cur' = #[.int .i64 m, .int .i64 (m + 1)] := by
    have hs2 : cur'.size = 2 := hsz
    simp [World.cell?, hc'] at k0 k1
    apply Array.ext
    ·simp [hs2]
    ·intro i hi hj
     rcases (show i = 0 ∨ i = 1 by omega) with rfl | rfl
     ·obtain ⟨_, e⟩ := Array.getElem?_eq_some_iff.1 k0
      simpa using e
     ·obtain ⟨_, e⟩ := Array.getElem?_eq_some_iff.1 k1
      simpa using e
   rw [h2]
theorem wX {n lo hi : Int} : inBb n lo hi = true ↔ lo ≤ n ∧ n ≤ hi := by simp [inBb]
end Go.Proofs.Ythjehhoafmnmkaa
