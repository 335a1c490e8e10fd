import Derived.Test.YthjehhoafmnmkaaG1XGapsOf
import Derived.Test.YthjehhoafmnmkaaGPXGapsOf
import Derived.Test.YthjehhoafmnmkaaGSXGapsOf
import Derived.Maps.OwnIn
import Derived.Maps.AppendAt
import Derived.Sort.MapsRangeIn
namespace Go.Proofs.Ythjehhoafmnmkaa
open Go Go.RowKit Go.Shelf Go.Ev Go.Sh Go.Maps
attribute [local go_sem] Oper.semAt_some
set_option maxRecDepth 100000 in
set_option maxHeartbeats 4000000 in
theorem ai0 {F : Fence} (hw : FW F) {p q n : Int} (h : gapB p q n = false) (w : World) :
 CallsIn F 8 Try.prog 5 #[.int .i64 p, .int .i64 q, .int .i64 n] w fun e w' => e = .returned (.tuple #[.slice none 0 0, .int .i64 2]) ∧ w' = w := by
 have f5 : F.fn 5 := hw.fn _
 have f13 : F.fn 13 := hw.fn _
 have f14 : F.fn 14 := hw.fn _
 have f15 : F.fn 15 := hw.fn _
 have f16 : F.fn 16 := hw.fn _
 have f17 : F.fn 17 := hw.fn _
 have f18 : F.fn 18 := hw.fn _
 have f19 : F.fn 19 := hw.fn _
 have f25 : F.fn 25 := hw.fn _
 have f29 : F.fn 29 := hw.fn _
 have f32 : F.fn 32 := hw.fn _
 have hro : F.round = none := hw.ro
 refine callsIn_of_wp Try.func5 rfl f5 ?_ hro
 simp only [Try.ntmps5, List.size_toArray, List.length_cons, List.length_nil, Nat.reduceAdd, Nat.reduceSub, Array.replicate_succ, Array.replicate_zero, List.push_toArray, List.append_toArray, List.nil_append, List.cons_append]
 have h8 : 1 ≤ 8 := by omega
 unfold gapB at h
 rw [Bool.and_eq_false_iff] at h
 cases h1 : (inBb p (-1000000) 1000000 && inBb q 2 1000000) with
 | false =>
   gi_wp2_with first | (gi_at_call 13; refine (VY F _ (by omega) f13 f25 f32 f14 hro _ _ _).mono ?_; rintro e w' ⟨rfl, rfl⟩; rw [h1])
   refine bodyPost_ret (results_tmp2 rfl _ _ _) rfl ?_
   exact ⟨rfl, rfl⟩
 | true =>
   have h2 : inBb n 1 500 = false := by
    rcases h with h | h
    ·rw [h1] at h; cases h
    ·exact h
   gi_wp2_with first | (gi_at_call 13; refine (VY F _ (by omega) f13 f25 f32 f14 hro _ _ _).mono ?_; rintro e w' ⟨rfl, rfl⟩; rw [h1]) | (gi_at_call 14; refine (acx F _ f14 hro _ _ _ _).mono ?_; rintro e w' ⟨rfl, rfl⟩; rw [h2])
   refine bodyPost_ret (results_tmp2 rfl _ _ _) rfl ?_
   exact ⟨rfl, rfl⟩
set_option maxRecDepth 100000 in
set_option maxHeartbeats 4000000 in
theorem adu {F : Fence} (hw : FW F) {p q : Int} {n : Nat} (h : gapB p q n = true) (w : World) :
 CallsIn F 8 Try.prog 5 #[.int .i64 p, .int .i64 q, .int .i64 n] w fun e w' => ∃ v l, e = .returned (.tuple #[v, .int .i64 0]) ∧ RR w' w.heap.size v l ∧ Ov (vW (pls p q n) q (pls p q n).length) (l.map Prod.snd) ∧ Below w.heap.size w w' := by
 have f5 : F.fn 5 := hw.fn _
 have f13 : F.fn 13 := hw.fn _
 have f14 : F.fn 14 := hw.fn _
 have f15 : F.fn 15 := hw.fn _
 have f16 : F.fn 16 := hw.fn _
 have f17 : F.fn 17 := hw.fn _
 have f18 : F.fn 18 := hw.fn _
 have f19 : F.fn 19 := hw.fn _
 have f25 : F.fn 25 := hw.fn _
 have f29 : F.fn 29 := hw.fn _
 have f32 : F.fn 32 := hw.fn _
 have hro : F.round = none := hw.ro
 refine callsIn_of_wp Try.func5 rfl f5 ?_ hro
 simp only [Try.ntmps5, List.size_toArray, List.length_cons, List.length_nil, Nat.reduceAdd, Nat.reduceSub, Array.replicate_succ, Array.replicate_zero, List.push_toArray, List.append_toArray, List.nil_append, List.cons_append]
 have h8 : 1 ≤ 8 := by omega
 unfold gapB at h
 rw [Bool.and_eq_true] at h
 obtain ⟨h1, h2⟩ := h
 have hn := wX.1 h2
 rw [Bool.and_eq_true] at h1
 have hp := wX.1 h1.1
 have hq := wX.1 h1.2
 have h1 : (inBb p (-1000000) 1000000 && inBb q 2 1000000) = true := by rw [h1.1, h1.2]; rfl
 have hr : RatM p q := ⟨hp.1, hp.2, by omega, hq.2⟩
 gi_wp2_with first | (gi_at_call 13; refine (VY F _ (by omega) f13 f25 f32 f14 hro _ _ _).mono ?_; rintro e w' ⟨rfl, rfl⟩; rw [h1]) | (gi_at_call 14; refine (acx F _ f14 hro _ _ _ _).mono ?_; rintro e w' ⟨rfl, rfl⟩; rw [h2]) | (gi_at_call 15; refine (hw.pl _ _ _ _ _ (ajz hr (by omega) (by omega) _)).mono ?_; rintro e w1 ⟨v1, rfl, ⟨g1, cap1, cur1, rfl, hg1, hb1, hl1, hm1, hc1, hv1⟩, hB1⟩)
 have hlen : (sbM p q 0 n).length = n := jY
 rw [hlen] at hl1 hv1 ⊢
 obtain ⟨w0, hw0⟩ : ∃ w0, w'.alloc (.cells #[] 2) = w0 := ⟨_, rfl⟩
 rw [hw0] at hB1 hg1
 have hS0 : w0.heap.size = w'.heap.size + 1 := by rw [← hw0]; simp
 have hr0 : w0.ownsRow w'.heap.size 2 1 (.slice (some ⟨w'.heap.size, 0, none⟩) 0 0) 0 [] := by
  rw [← hw0]
  exact World.ownsRow_made w' #[] 0 (Nat.le_refl _) (by unfold maxLen; omega) rfl
 have hgs1 : g1 < w1.heap.size := (Array.getElem?_eq_some_iff.1 hb1).1
 have hr1 : w1.ownsRow w'.heap.size 2 1 (.slice (some ⟨w'.heap.size, 0, none⟩) 0 0) 0 [] := by
  rcases hr0.2 with ⟨e, _⟩ | ⟨g, cap, cur, e, x1, x2, x3⟩
  ·cases e
  ·refine ⟨rfl, .inr ⟨g, cap, cur, e, x1, ?_, x3⟩⟩
   rw [hB1.block g (Array.getElem?_eq_some_iff.1 x2).1]
   exact x2
 have hBw : Below w'.heap.size w' w1 := by
  have h1 : Below w'.heap.size w' w0 := by rw [← hw0]; exact (Below.refl _ w').alloc (Nat.le_refl _) _
  exact h1.trans (hB1.mono (by omega))
 obtain ⟨i0, hi0, hz0, hz1, hz2⟩ := info_parts aj1
 have hmem : ∀ j, j < n → 0 ≤ (sbM p q 0 n)[j]?.getD 0 ∧ (sbM p q 0 n)[j]?.getD 0 < 500 := fun j hj => by
  rw [List.getElem?_eq_getElem (by omega)]
  have := oQ (p := p) (q := q) (a := 0) (n := n).1 (List.getElem_mem (by omega : j < (sbM p q 0 n).length))
  show 0 ≤ (sbM p q 0 n)[j] ∧ (sbM p q 0 n)[j] < 500
  omega
 clear hw0 hr0 hb1 hc1 hm1
 gi_loopw [8, 33] (fun v i wr => ∃ j : Nat, j ≤ n ∧ i = .int .i64 (j : Int) ∧ wr.ownsRow w'.heap.size 2 1 v j (((plc p q n).take j).map (Value.int .i64)) ∧ v.ownBlock ≠ some g1 ∧ g1 < wr.heap.size ∧
  (∀ j, j < n → wr.cell? ⟨g1, j, none⟩ = some (.int .i64 ((sbM p q 0 n)[j]?.getD 0))) ∧ Below w'.heap.size w' wr)
  (fun _ i _ => n - (intOf i).toNat)
 case atStart => exact ⟨0, Nat.zero_le _, rfl, hr1, by simp [Value.ownBlock]; omega, hgs1, hv1, hBw⟩
 case round =>
  obtain ⟨k, hk, rfl, hown, hob, hgs, hcs, hBk⟩ := hrel
  by_cases hlt : k < n
  ·have hcx := hcs k hlt
   have hx := hmem k hlt
   have hkv : (plc p q n)[k]? = some (kyM p q ((sbM p q 0 n)[k]?.getD 0)) := by
    unfold plc
    rw [List.getElem?_map, List.getElem?_eq_getElem (by omega)]
    rfl
   obtain ⟨x, hxe⟩ : ∃ x, (sbM p q 0 n)[k]?.getD 0 = x := ⟨_, rfl⟩
   rw [hxe] at hcx hx hkv
   have hmul := Oj (a := x) (b := p) (A := 500) (B := 1000000) (by omega) (by omega) (by omega) (by omega)
   have hxp : wrap64 (x * p) = x * p := by unfold wrap64; omega
   clear hxe hmem hv1
   replace hcs := HidP.mk hcs
   gi_wp2_with first
    | (gi_at_call 16; refine (ajm F _ (by omega) f16 f29 hro (x * p) q (by omega) (by omega) (by omega) (by omega) _).mono ?_; rintro e w2 ⟨rfl, rfl⟩)
    | (gi_at_builtin; refine wpListIn_append_own_at _ rfl _ _ 28 rfl w'.heap.size 2 i0 _ 1 8 Try.underlying28 hi0 hz0 hz1 hz2 rfl (by decide) _ k _ rfl (hown.alloc _) ⟨_, 0, none⟩ 1 1 [.int .i64 (x * p % q)] rfl rfl (cell_one_new _ _ _) (by simp [Value.oneCell']) (by unfold maxLen; omega) (by omega) (by have := hBk.size; simp; omega) ?_; intro v' w3 hown' hgrow _ hat)
   have hgl : ∀ j, v'.ownBlock = some j → w'.heap.size ≤ j := fun j hj => (hown'.lt j hj).1
   have hgk : ∀ j, u8.ownBlock = some j → w'.heap.size ≤ j := fun j hj => (hown.lt j hj).1
   refine ⟨⟨k + 1, by omega, by simp, ?_, ?_, ?_, ?_, ?_⟩, ?_⟩
   ·rw [List.take_add_one, hkv, List.map_append]
    exact hown'
   ·rcases hat with e | e
    ·rw [e]; exact hob
    ·rw [e]; intro h; injection h with h; simp at h; omega
   ·have := hgrow.size; simp at this; omega
   ·intro j hj
    rw [World.cell?_of_block (hgrow.block g1 (by simp; omega) (fun e => hob e.symm)), World.cell?_of_block (w := w2) (by simp only [World.alloc, Array.getElem?_push]; rw [if_neg (by show ¬ g1 = w2.heap.size; omega)])]
    exact hcs.out j hj
   ·exact (hBk.alloc (by have := hBk.size; omega) _).grown hgrow (by have := hBk.size; simp; omega) hgk
   ·simp [intOf]; omega
  ·have hkn : n = k := by omega
   subst hkn
   have hpl0 : plc p q n ≠ [] := fun e => by have := yX (p := p) (q := q) (n := n); rw [e] at this; simp at this; omega
   rw [show (plc p q n).take n = plc p q n from List.take_of_length_le (by rw [yX]; omega)] at hown
   have hOw := adS yX.symm hown hpl0
   have hmm := @run_makeMap Try.prog
   have hsz0 := hBk.size
   gi_wp2_with first
    | (gi_at_call 17; refine (hw.pl _ _ _ _ _ (ajd hpl0 (by rw [yX]; omega) _ hsz0 hOw)).mono ?_; rintro e w4 ⟨v4, rfl, ⟨g4, cap4, cur4, rfl, hg4, hb4, hl4, hm4, hc4, hv4⟩, hB4⟩)
   have hgs4 : g4 < w4.heap.size := (Array.getElem?_eq_some_iff.1 hb4).1
   have hB4' := hBk.trans hB4
   have hs4 := hB4'.size
   rw [show ddJ (plc p q n) = pls p q n from rfl] at hl4 hv4 ⊢
   obtain ⟨m, hm⟩ : ∃ m, (pls p q n).length = m := ⟨_, rfl⟩
   have hm0 : 0 < m := by rw [← hm]; exact List.length_pos_iff.2 (ajK (by omega))
   have hmn : m ≤ 500 := by have := aiK (p := p) (q := q) (n := n); omega
   have hpg : ∀ j, j < m → 0 ≤ (pls p q n)[j]?.getD 0 ∧ (pls p q n)[j]?.getD 0 < q := fun j hj => aiM (by omega) (by omega)
   rw [hm] at hl4 hv4 ⊢
   obtain ⟨x0, hx0⟩ : ∃ x, (pls p q n)[0]?.getD 0 = x := ⟨_, rfl⟩
   have hgap : ∀ j, PQ (pls p q n) q j = (if j + 1 < m then (pls p q n)[j + 1]?.getD 0 else x0 + q) - (pls p q n)[j]?.getD 0 := fun j => by unfold PQ; rw [hm, hx0]
   obtain ⟨w5, hw5⟩ : ∃ w5, (w4.alloc (.map #[] 0)).alloc (.cells #[] 28) = w5 := ⟨_, rfl⟩
   have hcp5 : ∀ j, j < m → w5.cell? ⟨g4, j, none⟩ = some (.int .i64 ((pls p q n)[j]?.getD 0)) := fun j hj => by
    rw [← hw5, World.cell?_of_block (w := w4)]
    ·exact hv4 j hj
    ·simp only [World.alloc, Array.getElem?_push, Array.size_push]
     rw [if_neg (by show ¬ g4 = w4.heap.size + 1; omega), if_neg (by show ¬ g4 = w4.heap.size; omega)]
   have hB5 : Below w'.heap.size w' w5 := by
    rw [← hw5]
    exact (hB4'.alloc hs4 _).alloc (by simp; omega) _
   have hs5 : w5.heap.size = w4.heap.size + 2 := by rw [← hw5]; simp
   have hom5 : w5.ownsMap Try.prog 2 (plainElem (H := Nat) Try.prog 2) w4.heap.size 0 (.map []) := by
    rw [← hw5]
    exact (World.ownsMap_made w4 _ _ _).alloc _
   have hor5 : w5.ownsRow w'.heap.size 28 1 (.slice (some ⟨w4.heap.size + 1, 0, none⟩) 0 0) 0 [] := by
    have := World.ownsRow_made (w4.alloc (.map #[] 0)) #[] 0 (base := w'.heap.size) (by simp; omega) (by unfold maxLen; omega) rfl (e := 28) (size := 1)
    rw [← hw5]
    simpa using this
   rw [hw5]
   clear hm4 hc4 hb4 hv4 hOw hown hcs hB4 hv1 hl1 hob hBk
   obtain ⟨bm, hbm⟩ : ∃ b, w4.heap.size = b := ⟨_, rfl⟩
   rw [hbm] at hs5 hom5 hor5 hgs4 hs4 ⊢
   clear hw5 hbm
   gi_loopw [52] (fun i wr => ∃ (j : Nat) (D : DataW Nat), j ≤ m ∧ i = .int .i64 (j : Int) ∧ wr.ownsMap Try.prog 2 (plainElem (H := Nat) Try.prog 2) bm j D ∧ Bz D (vW (pls p q n) q j) ∧
    w5.grownBy wr (some bm))
    (fun i _ => m - (intOf i).toNat)
   case atStart => exact ⟨0, _, Nat.zero_le _, rfl, hom5, Bz.nil, ⟨rfl, rfl, rfl, Nat.le_refl _, fun _ _ _ => rfl⟩⟩
   case round =>
    obtain ⟨k, D, hk, rfl, hown, hMap, hgr⟩ := hrel
    have hlenk := afu (pls p q n) q k
    by_cases hlt : k < m
    ·have hc0 : wr.cell? ⟨g4, 0, none⟩ = some (.int .i64 x0) := by
      rw [World.cell?_of_block (hgr.block g4 (by omega) (by simp; omega)), hcp5 0 hm0, hx0]
     obtain ⟨x, hx⟩ : ∃ x, (pls p q n)[k]?.getD 0 = x := ⟨_, rfl⟩
     have hcx : wr.cell? ⟨g4, k, none⟩ = some (.int .i64 x) := by
      rw [World.cell?_of_block (hgr.block g4 (by omega) (by simp; omega)), hcp5 k hlt, hx]
     have hbx := hpg k hlt
     have hb0 := hpg 0 hm0
     rw [hx] at hbx
     rw [hx0] at hb0
     by_cases hlt2 : k + 1 < m
     ·obtain ⟨y, hy⟩ : ∃ y, (pls p q n)[k + 1]?.getD 0 = y := ⟨_, rfl⟩
      have hcy : wr.cell? ⟨g4, k + 1, none⟩ = some (.int .i64 y) := by
       rw [World.cell?_of_block (hgr.block g4 (by omega) (by simp; omega)), hcp5 (k + 1) hlt2, hy]
      have hby := hpg (k + 1) hlt2
      rw [hy] at hby
      have hg : PQ (pls p q n) q k = y - x := by rw [hgap, if_pos hlt2, hy, hx]
      have hkey := keyOf_int_mk (P := Try.prog) (k := 2) Try.underlying2 (wf64 (a := y - x) (by omega) (by omega))
      replace hcp5 := HidP.mk hcp5
      replace hpg := HidP.mk hpg
      replace hgap := HidP.mk hgap
      gi_wp2_with first
       | (gi_at_lookup; refine wpListIn_lookup_own_int _ rfl _ _ 33 rfl 2 2 .i64 law2 Try.underlying33 Try.underlying2 (aim _) bm k _ rfl hown _ _ rfl hkey ?_; intro c hat hwc; have hcc := hMap.count hat; have hc1 := List.count_le_length (a := y - x) (l := vW (pls p q n) q k))
       | (gi_at_mapUpdate; refine wpListIn_mapUpdate_own _ rfl _ _ _ 33 rfl 2 2 law2 Try.underlying33 _ bm k _ rfl hown (by unfold maxLen; omega) _ _ _ rfl rfl hkey _ [] (plainElem_int Try.underlying2 (wf64 (by omega) (by omega))) ?_; intro w6 hown6 hgrow6)
      have hM' := hMap.step (y - x) (c := (List.count (y - x) (vW (pls p q n) q k) : Nat) + 1) rfl
      rw [← hg] at hown6 hM'
      rw [← aay] at hM'
      refine ⟨⟨k + 1, _, by omega, by simp, hown6, hM', hgr.trans hgrow6⟩, ?_⟩
      simp [intOf]; omega
     ·have hg : PQ (pls p q n) q k = x0 + q - x := by rw [hgap, if_neg hlt2, hx]
      have hkey := keyOf_int_mk (P := Try.prog) (k := 2) Try.underlying2 (wf64 (a := x0 + q - x) (by omega) (by omega))
      replace hcp5 := HidP.mk hcp5
      replace hpg := HidP.mk hpg
      replace hgap := HidP.mk hgap
      gi_wp2_with first
       | (gi_at_lookup; refine wpListIn_lookup_own_int _ rfl _ _ 33 rfl 2 2 .i64 law2 Try.underlying33 Try.underlying2 (aim _) bm k _ rfl hown _ _ rfl hkey ?_; intro c hat hwc; have hcc := hMap.count hat; have hc1 := List.count_le_length (a := x0 + q - x) (l := vW (pls p q n) q k))
       | (gi_at_mapUpdate; refine wpListIn_mapUpdate_own _ rfl _ _ _ 33 rfl 2 2 law2 Try.underlying33 _ bm k _ rfl hown (by unfold maxLen; omega) _ _ _ rfl rfl hkey _ [] (plainElem_int Try.underlying2 (wf64 (by omega) (by omega))) ?_; intro w6 hown6 hgrow6)
      have hM' := hMap.step (x0 + q - x) (c := (List.count (x0 + q - x) (vW (pls p q n) q k) : Nat) + 1) rfl
      rw [← hg] at hown6 hM'
      rw [← aay] at hM'
      refine ⟨⟨k + 1, _, by omega, by simp, hown6, hM', hgr.trans hgrow6⟩, ?_⟩
      simp [intOf]; omega
    ·have hkm : m = k := by omega
     subst hkm
     gi_wp2_with first
      | (gi_at_range; refine wpListIn_range_own _ rfl _ 33 rfl 2 2 law2 Try.underlying33 _ bm m _ rfl hown ?_; intro w7 hrg hgr7 hsz7)
     have hs7 := hgr.size
     have hB7 : Below w'.heap.size w' w7 := (hB5.grown hgr (by omega) (fun j hj => by injection hj with hj; omega)).grown hgr7 (by omega) (fun j hj => by cases hj)
     have hr7 : w7.ownsRow w'.heap.size 28 1 (.slice (some ⟨bm + 1, 0, none⟩) 0 0) 0 [] := by
      refine (hor5.kept hgr (.inr (by simp [Value.ownBlock]))).kept hgr7 (.inr (by simp [Value.ownBlock]))
     obtain ⟨r, hrr⟩ : ∃ r, wr.heap.size = r := ⟨_, rfl⟩
     rw [hrr] at hrg hsz7 hs7 ⊢
     have hrb := hrg.ne
     clear hgr hgr7 hown hB5 hor5 hom5 hB4' hcp5
     obtain ⟨i28, hi28, hy0, hy1, hy2⟩ := info_parts af1
     go_frame
     gi_loopw [12] (fun v wr => ∃ (left : Lit → Bool) (cnt : Nat) (l : List (Nat × Int × Int)), wr.ranges Try.prog 2 (plainElem (H := Nat) Try.prog 2) bm r m D left cnt ∧ RR wr w'.heap.size v l ∧ wJ (vW (pls p q n) q m) left (l.map Prod.snd) ∧
      Below w'.heap.size w' wr ∧ (∀ j, v.ownBlock = some j → j ≠ bm ∧ j ≠ r))
      (fun _ wr => wr.rangeLeft bm r)
     case atStart => exact ⟨_, _, [], hrg, ⟨hr7, by simp, by simp, by simp⟩, wJ.start hMap, hB7, fun j hj => by simp [Value.ownBlock] at hj; omega⟩
     case round =>
      obtain ⟨left, cnt, l, hrg, hR, hT, hB, hob⟩ := hrel
      gi_wp2_with first
       | (gi_at_next; refine wpListIn_next_ranges_ii _ rfl _ rfl 2 2 .i64 .i64 law2 Try.underlying2 Try.underlying2 bm r m _ _ _ rfl hrg ?_ ?_)
      ·intro hcnt hleft
       have hDone := hT.done hleft
       have hl0 : l ≠ [] := fun e => by
        have h0 : PQ (pls p q n) q 0 ∈ vW (pls p q n) q m := List.mem_map.2 ⟨0, List.mem_range.2 hm0, rfl⟩
        have := (hDone _ _).2 ⟨h0, rfl⟩
        rw [e] at this
        cases this
       have hlen2 := hT.len
       rw [List.length_map, hlenk] at hlen2
       have hnd2 : (l.map fun x => x.2.1).Nodup := by
        have := hT.nd
        rwa [List.map_map] at this
       gi_wp2_with first
        | (gi_at_call 18; refine (hw.pl _ _ _ _ _ (ajo hB.size hR (by omega) hnd2 hl0)).mono ?_; rintro e w9 ⟨rfl, l', hperm, hsort, hR9, hB9⟩)
       refine bodyPost_ret (results_tmp2 rfl _ _ _) rfl ?_
       refine ⟨_, l', rfl, hR9, ⟨hsort, fun x c => ?_⟩, hB.trans hB9⟩
       rw [hm, ← hDone]
       exact (hperm.map _).mem_iff
      ·intro x c w8 cnt' hwx hwc hlk hat hrg8 hlt8 hgr8 hsz8 hen
       have hlen2 := hT.len
       rw [List.length_map, hlenk] at hlen2
       have hsB := hB.size
       have hsB8 : w'.heap.size ≤ w8.heap.size := by omega
       have hR8 : RR w8 w'.heap.size u12 l := hR.keep fun j hj => hgr8.block j (by
        rcases hj with hj | hj
        ·exact (hR.row.lt j hj).2
        ·obtain ⟨y, hy, rfl⟩ := List.mem_map.1 hj
         exact hR.lt hy) (by
        obtain ⟨_, _, _, _, _, _, _, _, _, hit, _⟩ := hrg
        rcases hj with hj | hj
        ·have := (hob j hj).2
         intro e; injection e with e; exact this e
        ·obtain ⟨y, hy, rfl⟩ := List.mem_map.1 hj
         have := (hR.inn y hy).2
         unfold In2 at this
         intro e; injection e with e
         rw [e, hit] at this
         injection this with this
         cases this)
       replace hsz8 := HidP.mk hsz8
       have hB8 := hB.grown hgr8 (by omega) (fun j hj => by injection hj with hj; omega)
       gi_wp2_with first
        | (gi_at_builtin; refine wpListIn_append_own_at _ rfl _ _ 22 rfl w'.heap.size 28 i28 _ 1 24 Try.underlying22 hi28 hy0 hy1 hy2 rfl (by decide) _ l.length _ rfl ((hR8.row.alloc _).alloc _) ⟨_, 0, none⟩ 1 1 [enc2 (w8.heap.size, x, c)] rfl rfl (acU _ _ _ _) (by simp [Value.oneCell', enc2]) (by unfold maxLen; omega) (by omega) (by simp; omega) ?_; intro v' w9 hown' hgrow _ hat9)
       have hrg9 := ((hrg8.alloc _).alloc _).kept hgrow (fun e => (hob bm e.symm).1 rfl) (fun e => (hob r e.symm).2 rfl)
       have hT9 := hT.step hMap hlk hat
       have hat9' : v'.ownBlock = u12.ownBlock ∨ v'.ownBlock = some (w8.heap.size + 2) := by
        rcases hat9 with e | e
        ·exact .inl e
        ·exact .inr (by rw [e]; simp)
       have hR9 := hR8.step hsB8 x c hown' hgrow hat9'
       have hsz8' := hsz8.out
       refine ⟨⟨_, cnt', l ++ [(w8.heap.size, x, c)], hrg9, hR9, by rw [List.map_append]; exact hT9, ?_, ?_⟩, ?_⟩
       ·exact ((hB8.alloc hsB8 _).alloc (by simp; omega) _).grown hgrow (by simp; omega) (fun j hj => (hR8.row.lt j hj).1)
       ·intro j hj
        rcases hat9' with e | e
        ·exact hob j (by rw [← e]; exact hj)
        ·rw [e] at hj
         simp at hj
         have := hrg8.lt
         have := hrg8.owns.lt
         omega
       ·rw [hrg9.left_eq, hrg.left_eq]
        exact hlt8
end Go.Proofs.Ythjehhoafmnmkaa
