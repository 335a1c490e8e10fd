import Derived.Test.YthjehhoafmnmkaaGIXGapsOf
namespace Go.Proofs.Ythjehhoafmnmkaa
open Go Go.RowKit Go.Shelf Go.Ev Go.Sh Go.Maps
attribute [local go_sem] Oper.semAt_some
set_option maxRecDepth 100000 in
set_option maxHeartbeats 4000000 in
theorem aha {F : Fence} (hw : FW F) {p q n : Int} (h : gapB p q n = false) (w : World) :
 CallsIn F 8 Try.prog 4 #[.int .i64 p, .int .i64 q, .int .i64 n] w fun e w' => e = .returned (.tuple #[.slice none 0 0, .int .i64 2]) ∧ w' = w := by
 have f4 : F.fn 4 := hw.fn _
 have f9 : F.fn 9 := hw.fn _
 have f10 : F.fn 10 := hw.fn _
 have f11 : F.fn 11 := hw.fn _
 have f12 : F.fn 12 := hw.fn _
 have f23 : F.fn 23 := hw.fn _
 have hro : F.round = none := hw.ro
 refine callsIn_of_wp Try.func4 rfl f4 ?_ hro
 simp only [Try.ntmps4, List.size_toArray, List.length_cons, List.length_nil, Nat.reduceAdd, Nat.reduceSub, Array.replicate_succ, Array.replicate_zero, List.push_toArray, List.append_toArray, List.nil_append, List.cons_append]
 have h8 : 1 ≤ 8 := by omega
 unfold gapB at h
 rw [Bool.and_eq_false_iff] at h
 cases h1 : (inBb p (-1000000) 1000000 && inBb q 2 1000000) with
 | false =>
   gi_wp2_with first | (gi_at_call 9; refine (Vj F _ (by omega) f9 f23 f10 hro _ _ _ _).mono ?_; rintro e w' ⟨rfl, rfl⟩; rw [h1])
   refine bodyPost_ret (results_tmp2 rfl _ _ _) rfl ?_
   exact ⟨rfl, rfl⟩
 | true =>
   have h2 : inBb n 1 500 = false := by
    rcases h with h | h
    ·rw [h1] at h; cases h
    ·exact h
   gi_wp2_with first | (gi_at_call 9; refine (Vj F _ (by omega) f9 f23 f10 hro _ _ _ _).mono ?_; rintro e w' ⟨rfl, rfl⟩; rw [h1]) | (gi_at_call 10; refine (aaE F _ f10 hro _ _ _ _).mono ?_; rintro e w' ⟨rfl, rfl⟩; rw [h2])
   refine bodyPost_ret (results_tmp2 rfl _ _ _) rfl ?_
   exact ⟨rfl, rfl⟩
set_option maxRecDepth 100000 in
set_option maxHeartbeats 4000000 in
theorem ach {F : Fence} (hw : FW F) {p q : Int} {n : Nat} (h : gapB p q n = true) (w : World) :
 CallsIn F 8 Try.prog 4 #[.int .i64 p, .int .i64 q, .int .i64 n] w fun e w' => ∃ v l, e = .returned (.tuple #[v, .int .i64 0]) ∧ RR w' w.heap.size v l ∧ TabK (sgN (plc p q n) q n) (l.map Prod.snd) ∧ Below w.heap.size w w' := by
 have f4 : F.fn 4 := hw.fn _
 have f9 : F.fn 9 := hw.fn _
 have f10 : F.fn 10 := hw.fn _
 have f11 : F.fn 11 := hw.fn _
 have f12 : F.fn 12 := hw.fn _
 have f23 : F.fn 23 := hw.fn _
 have hro : F.round = none := hw.ro
 refine callsIn_of_wp Try.func4 rfl f4 ?_ hro
 simp only [Try.ntmps4, List.size_toArray, List.length_cons, List.length_nil, Nat.reduceAdd, Nat.reduceSub, Array.replicate_succ, Array.replicate_zero, List.push_toArray, List.append_toArray, List.nil_append, List.cons_append]
 have h8 : 1 ≤ 8 := by omega
 unfold gapB at h
 rw [Bool.and_eq_true] at h
 obtain ⟨h1, h2⟩ := h
 have hn := wX.1 h2
 rw [Bool.and_eq_true] at h1
 have hp := wX.1 h1.1
 have hq := wX.1 h1.2
 have h1 : (inBb p (-1000000) 1000000 && inBb q 2 1000000) = true := by rw [h1.1, h1.2]; rfl
 have hr : RatM p q := ⟨hp.1, hp.2, by omega, hq.2⟩
 gi_wp2_with first
  | (gi_at_call 9; refine (Vj F _ (by omega) f9 f23 f10 hro _ _ _ _).mono ?_; rintro e w' ⟨rfl, rfl⟩; rw [h1])
  | (gi_at_call 10; refine (aaE F _ f10 hro _ _ _ _).mono ?_; rintro e w' ⟨rfl, rfl⟩; rw [h2])
  | (gi_at_call 11; refine (hw.pl _ _ _ _ _ (aj2 hr (by omega) (by omega) _)).mono ?_; rintro e w1 ⟨v1, rfl, ⟨g1, cap1, cur1, rfl, hg1, hb1, hl1, hm1, hc1, hv1⟩, hB1⟩)
 have hlen : (sbM p q 0 n).length = n := jY
 rw [hlen] at hl1 hv1 ⊢
 have hgs1 : g1 < w1.heap.size := (Array.getElem?_eq_some_iff.1 hb1).1
 have hmem : ∀ j, j < n → 0 ≤ (sbM p q 0 n)[j]?.getD 0 ∧ (sbM p q 0 n)[j]?.getD 0 < 500 := fun j hj => by
  rw [List.getElem?_eq_getElem (by omega)]
  have := oQ (p := p) (q := q) (a := 0) (n := n).1 (List.getElem_mem (by omega : j < (sbM p q 0 n).length))
  show 0 ≤ (sbM p q 0 n)[j] ∧ (sbM p q 0 n)[j] < 500
  omega
 have hplc : ∀ j, j < n → (plc p q n)[j]?.getD 0 = ((sbM p q 0 n)[j]?.getD 0 * p) % q := fun j hj => by
  unfold plc
  rw [List.getElem?_map, List.getElem?_eq_getElem (by omega)]
  rfl
 have hR0 : RR (w1.alloc (.cells #[] 28)) w1.heap.size (.slice (some ⟨w1.heap.size, 0, none⟩) 0 0) [] := ⟨World.ownsRow_made w1 #[] 0 (Nat.le_refl _) (by unfold maxLen; omega) rfl, by simp, by simp, by simp⟩
 have hB0 : Below w1.heap.size w1 (w1.alloc (.cells #[] 28)) := (Below.refl _ w1).alloc (Nat.le_refl _) _
 obtain ⟨i28, hi28, hy0, hy1, hy2⟩ := info_parts af1
 clear hb1 hl1 hm1 hc1
 gi_loopw [9, 10] (fun v i wr => ∃ (j : Nat) (l : List (Nat × Int × Int)) (g cap : Nat), j ≤ n ∧ i = .int .i64 (j : Int) ∧ v = .slice (some ⟨g, 0, none⟩) l.length cap ∧ RR wr w1.heap.size v l ∧ TabK (sgN (plc p q n) q j) (l.map Prod.snd) ∧ l.length ≤ j ∧ Below w1.heap.size w1 wr)
  (fun _ i _ => n - (intOf i).toNat)
 case atStart => exact ⟨0, [], _, _, Nat.zero_le _, rfl, rfl, hR0, TabK.nil, Nat.le_refl _, hB0⟩
 case round =>
  obtain ⟨k, l, g, cap, hk, rfl, rfl, hR, hT, hll, hB⟩ := hrel
  by_cases hlt : k < n
  ·have hcx : wr.cell? ⟨g1, k, none⟩ = some (.int .i64 ((sbM p q 0 n)[k]?.getD 0)) := by rw [hB.cell (by exact hgs1), hv1 k hlt]
   have hbx := hmem k hlt
   have hpx := hplc k hlt
   obtain ⟨x, hx⟩ : ∃ x, (sbM p q 0 n)[k]?.getD 0 = x := ⟨_, rfl⟩
   rw [hx] at hcx hbx hpx
   have hmul := Oj (a := x) (b := p) (A := 500) (B := 1000000) (by omega) (by omega) (by omega) (by omega)
   have hmx0 := Int.emod_nonneg (x * p) (show q ≠ 0 by omega)
   have hmx1 := Int.emod_lt_of_pos (x * p) (show 0 < q by omega)
   have hRc := fun (j : Nat) (z : Nat × Int × Int) (hj : l[j]? = some z) => hR.cell hj
   have hRo := fun (j : Nat) (z : Nat × Int × Int) (hj : l[j]? = some z) => hR.cellO hj
   by_cases hlt2 : k + 1 < n
   ·skip
    have hcy : wr.cell? ⟨g1, k + 1, none⟩ = some (.int .i64 ((sbM p q 0 n)[k + 1]?.getD 0)) := by rw [hB.cell (by exact hgs1), hv1 (k + 1) hlt2]
    have hby := hmem (k + 1) hlt2
    have hpy := hplc (k + 1) hlt2
    obtain ⟨y, hy⟩ : ∃ y, (sbM p q 0 n)[k + 1]?.getD 0 = y := ⟨_, rfl⟩
    rw [hy] at hcy hby hpy
    have hmul2 := Oj (a := y) (b := p) (A := 500) (B := 1000000) (by omega) (by omega) (by omega) (by omega)
    have hmy0 := Int.emod_nonneg (y * p) (show q ≠ 0 by omega)
    have hmy1 := Int.emod_lt_of_pos (y * p) (show 0 < q by omega)
    have hg : sgAt (plc p q n) q k = y * p % q - x * p % q := by unfold sgAt; rw [yX, if_pos hlt2, hpx, hpy]
    replace hv1 := HidP.mk hv1
    replace hmem := HidP.mk hmem
    replace hplc := HidP.mk hplc
    replace hRc := HidP.mk hRc
    replace hRo := HidP.mk hRo
    gi_wp2_with first
     | (gi_at_call 12; refine (acN F _ f12 hro q _ (by omega) (by omega) _).mono ?_; rintro e w2 ⟨rfl, rfl⟩)
    have hgb : -1000000 ≤ y * p % q - x * p % q ∧ y * p % q - x * p % q ≤ 1000000 := by omega
    obtain ⟨gp, hgp⟩ : ∃ gp, y * p % q - x * p % q = gp := ⟨_, rfl⟩
    rw [hgp] at hg hgb ⊢
    gi_loopw [13] (fun i wr => ∃ a : Nat, a ≤ l.length ∧ i = .int .i64 (a : Int) ∧ wr = w2 ∧ ∀ (i : Nat) (x c : Int), i < a → (l.map Prod.snd)[i]? = some (x, c) → x < gp) (fun i _ => l.length - (intOf i).toNat)
    case atStart => exact ⟨0, Nat.zero_le _, rfl, rfl, fun i x c hi => by omega⟩
    case round =>
     obtain ⟨a, ha, rfl, rfl, hlow⟩ := hrel
     obtain ⟨_, hcap1, hcap2, hglo, hgsz⟩ := hR.cap
     have hWs := hB.size
     by_cases hal : a < l.length
     ·obtain ⟨⟨b, x', c'⟩, hz⟩ : ∃ z, l[a]? = some z := ⟨_, List.getElem?_eq_getElem hal⟩
      have hca := hRc.out a _ hz
      obtain ⟨hc0, hc1, hfz⟩ := hRo.out a _ hz
      unfold enc2 at hca
      dsimp only at hca hc0 hc1 hfz
      have hza : (l.map Prod.snd)[a]? = some (x', c') := by rw [List.getElem?_map, hz]; rfl
      have hcb : 0 ≤ c' ∧ c' ≤ 500 := by
       have h1 := ((hT.of.mem x' c').1 (List.mem_of_getElem? hza)).2
       have h2 := List.count_le_length (a := x') (l := sgN (plc p q n) q k)
       have h3 := abA (plc p q n) q k
       omega
      have hcne : ¬ cap = a := by omega
      have hcle : a ≤ cap := by omega
      replace hlow := HidP.mk hlow
      gi_wp2_with first
       | (gi_at_builtin; refine wpListIn_append_own_at _ rfl _ _ 22 rfl (wr.heap.size + 1) 28 i28 _ 1 24 Try.underlying22 hi28 hy0 hy1 hy2 rfl (by decide) _ 1 [enc2 (wr.heap.size, gp, 1)] rfl (Lj _ _ (enc2 (wr.heap.size, gp, 1)) 28 (by omega)) ⟨g, a, none⟩ (l.length - a) _ ((l.drop a).map enc2) rfl (by simp) (aas hR (W1 := (wr.alloc (.cells #[.int .i64 gp, .int .i64 1] 2)).alloc (.cells #[enc2 (wr.heap.size, gp, 1)] 28)) ((Below.refl _ _).alloc (by simp) _) a) (by intro u hu; obtain ⟨z, _, rfl⟩ := List.mem_map.1 hu; rfl) (by unfold maxLen; omega) (by omega) (by simp) ?_; intro v3 w3 hown3 hgrow3 hif3 hat3; have hB3 : Below (wr.heap.size + 1) (wr.alloc (.cells #[.int .i64 gp, .int .i64 1] 2)) w3 := ((Below.refl _ _).alloc (by simp) _).grown hgrow3 (by simp) (fun j hj => by have h : some (wr.heap.size + 1) = some j := hj; injection h with h; omega); have hs3 := hB3.size; simp at hs3; obtain ⟨g3, cap3, e3, hg3, hg3s⟩ := rq hown3 (by omega); subst e3; have hn3 := HidP.mk (EZ hown3))
       | (gi_at_builtin; refine wpListIn_append_own_at _ rfl _ _ 22 rfl (wr.heap.size + 1) 28 i28 _ 1 24 Try.underlying22 hi28 hy0 hy1 hy2 rfl (by decide) _ 0 [] rfl (World.ownsRow_made w3 #[] 0 (by omega) (by unfold maxLen; omega) rfl) ⟨g, 0, none⟩ a _ ((l.take a).map enc2) rfl (by simp <;> omega) (BZ hR (hB3.alloc (by omega) _) a) (by intro u hu; obtain ⟨z, _, rfl⟩ := List.mem_map.1 hu; rfl) (by unfold maxLen; omega) (by omega) (by simp; omega) ?_; intro v4 w4 hown4 hgrow4 hif4 hat4; have hB4 : Below (wr.heap.size + 1) (wr.alloc (.cells #[.int .i64 gp, .int .i64 1] 2)) w4 := (hB3.alloc (by omega) _).grown hgrow4 (by simp; omega) (fun j hj => by have h : some w3.heap.size = some j := hj; injection h with h; omega); have hs4 := hB4.size; simp at hs4; have hn4 : ∀ j u, ([enc2 (wr.heap.size, gp, 1)] ++ (l.drop a).map enc2)[j]? = some u → w4.cell? (Addr.add ⟨g3, 0, none⟩ j) = some u := (by intro j u hj; rw [addp, Nat.zero_add, World.cell?_of_block (hgrow4.block g3 (by simp; omega) (by intro e; have h : some g3 = some w3.heap.size := e; injection h with h; omega)), World.cell?_of_block (w := w3) (by simp only [World.alloc, Array.getElem?_push]; rw [if_neg (by show ¬ g3 = w3.heap.size; omega)])]; exact hn3.out j u (by simpa using hj)); replace hn4 := HidP.mk hn4)
       | (gi_at_builtin; refine wpListIn_append_own_at _ rfl _ _ 22 rfl (wr.heap.size + 1) 28 i28 _ 1 24 Try.underlying22 hi28 hy0 hy1 hy2 rfl (by decide) _ (0 + a) _ rfl hown4 ⟨g3, 0, none⟩ _ _ ([enc2 (wr.heap.size, gp, 1)] ++ (l.drop a).map enc2) rfl (by simp; try omega) hn4.out (XV _ _) (by unfold maxLen; omega) (by omega) (by omega) ?_; intro v5 w5 hown5 hgrow5 hif5 hat5)
      ·rename_i hlt3
       refine ⟨⟨a + 1, by omega, by simp, by simp, fun i x c hi hix => ?_⟩, ?_⟩
       ·by_cases e : i = a
        ·subst e
         rw [hza] at hix
         injection hix with hix
         injection hix with e1 e2
         rw [← e1]
         assumption
        ·exact hlow.out i x c (by omega) hix
       ·simp [intOf]; omega
      ·rename_i hzz
       have hz0 : gp = 0 := by simpa using hzz
       refine ⟨⟨k + 1, l, g, cap, by omega, by simp, rfl, hR, ?_, by omega, hB⟩, ?_⟩
       ·rw [tq, hg, if_pos hz0, List.append_nil]
        exact hT
       ·simp [intOf]; omega
      ·rename_i hg4 hzz hxx
       have hz0 : gp ≠ 0 := by simpa using hzz
       have hxg : x' = gp := by simpa using hxx
       obtain ⟨h5, hB5⟩ := hR.bump hz (c' + 1)
       refine ⟨⟨k + 1, l.set a (b, x', c' + 1), g, cap, by omega, by simp, by simp, h5, ?_, by simp; omega, hB.trans hB5⟩, ?_⟩
       ·rw [tq, hg, if_neg hz0, List.map_set, ← hxg]
        exact hT.bump hza
       ·simp [intOf]; omega
      ·rename_i hgx hzz hxx
       have hz0 : gp ≠ 0 := by simpa using hzz
       have hxn : x' ≠ gp := by simpa using hxx
       have hgx2 : gp ≤ x' := hgx
       obtain ⟨h5, hB5⟩ := hR.insert hWs (a := a) gp 1 hown5 (by simp) (hB4.grown hgrow5 (by omega) (fun j hj => (hown4.lt j hj).1))
       obtain ⟨g5, cap5, e5, _, _⟩ := rq hown5 (by omega)
       subst e5
       refine ⟨⟨k + 1, _, g5, cap5, by omega, by simp, ?_, h5, ?_, ?_, hB.trans hB5⟩, ?_⟩
       ·congr 1; simp <;> omega
       ·rw [tq, hg, if_neg hz0]
        have := hT.ins (a := a) (by simp <;> omega) (g := gp) hlow.out (fun x c h => by rw [hza] at h; injection h with h; injection h with h1 h2; omega)
        rw [List.map_append, List.map_cons, List.map_take, List.map_drop]
        exact this
       ·simp <;> omega
       ·simp [intOf]; omega
     ·have hal2 : a = l.length := by omega
      subst hal2
      replace hlow := HidP.mk hlow
      by_cases hce : cap = l.length
      ·gi_wp2_with first
        | (gi_at_builtin; refine wpListIn_append_own_at _ rfl _ _ 22 rfl (wr.heap.size + 1) 28 i28 _ 1 24 Try.underlying22 hi28 hy0 hy1 hy2 rfl (by decide) _ 1 [enc2 (wr.heap.size, gp, 1)] rfl (Lj _ _ (enc2 (wr.heap.size, gp, 1)) 28 (by omega)) ⟨g, _, none⟩ _ _ [] rfl (by simp) (by intro j u hj; simp at hj) (by intro u hu; simp at hu) (by unfold maxLen; omega) (by omega) (by simp) ?_; intro v3 w3 hown3 hgrow3 hif3 hat3; have hB3 : Below (wr.heap.size + 1) (wr.alloc (.cells #[.int .i64 gp, .int .i64 1] 2)) w3 := ((Below.refl _ _).alloc (by simp) _).grown hgrow3 (by simp) (fun j hj => by have h : some (wr.heap.size + 1) = some j := hj; injection h with h; omega); have hs3 := hB3.size; simp at hs3; obtain ⟨g3, cap3, e3, hg3, hg3s⟩ := rq hown3 (by omega); subst e3; have hn3 := HidP.mk (EZ hown3))
        | (gi_at_builtin; refine wpListIn_append_own_at _ rfl _ _ 22 rfl (wr.heap.size + 1) 28 i28 _ 1 24 Try.underlying22 hi28 hy0 hy1 hy2 rfl (by decide) _ 0 [] rfl (World.ownsRow_made w3 #[] 0 (by omega) (by unfold maxLen; omega) rfl) ⟨g, 0, none⟩ l.length _ ((l.take l.length).map enc2) rfl (by simp <;> omega) (BZ hR (hB3.alloc (by omega) _) l.length) (by intro u hu; obtain ⟨z, _, rfl⟩ := List.mem_map.1 hu; rfl) (by unfold maxLen; omega) (by omega) (by simp; omega) ?_; intro v4 w4 hown4 hgrow4 hif4 hat4; have hB4 : Below (wr.heap.size + 1) (wr.alloc (.cells #[.int .i64 gp, .int .i64 1] 2)) w4 := (hB3.alloc (by omega) _).grown hgrow4 (by simp; omega) (fun j hj => by have h : some w3.heap.size = some j := hj; injection h with h; omega); have hs4 := hB4.size; simp at hs4; have hn4 : ∀ j u, ([enc2 (wr.heap.size, gp, 1)] ++ (l.drop l.length).map enc2)[j]? = some u → w4.cell? (Addr.add ⟨g3, 0, none⟩ j) = some u := (by intro j u hj; rw [addp, Nat.zero_add, World.cell?_of_block (hgrow4.block g3 (by simp; omega) (by intro e; have h : some g3 = some w3.heap.size := e; injection h with h; omega)), World.cell?_of_block (w := w3) (by simp only [World.alloc, Array.getElem?_push]; rw [if_neg (by show ¬ g3 = w3.heap.size; omega)])]; exact hn3.out j u (by simpa using hj)); replace hn4 := HidP.mk hn4)
        | (gi_at_builtin; refine wpListIn_append_own_at _ rfl _ _ 22 rfl (wr.heap.size + 1) 28 i28 _ 1 24 Try.underlying22 hi28 hy0 hy1 hy2 rfl (by decide) _ (0 + l.length) _ rfl hown4 ⟨g3, 0, none⟩ _ _ ([enc2 (wr.heap.size, gp, 1)] ++ (l.drop l.length).map enc2) rfl (by simp; try omega) hn4.out (XV _ _) (by unfold maxLen; omega) (by omega) (by omega) ?_; intro v5 w5 hown5 hgrow5 hif5 hat5)
       ·rename_i hzz
        have hz0 : gp = 0 := by simpa using hzz
        refine ⟨⟨k + 1, l, g, cap, by omega, by simp, rfl, hR, ?_, by omega, hB⟩, ?_⟩
        ·rw [tq, hg, if_pos hz0, List.append_nil]
         exact hT
        ·simp [intOf]; omega
       ·rename_i hzz
        have hz0 : gp ≠ 0 := by simpa using hzz
        obtain ⟨h5, hB5⟩ := hR.insert hWs (a := l.length) gp 1 hown5 (by simp) (hB4.grown hgrow5 (by omega) (fun j hj => (hown4.lt j hj).1))
        obtain ⟨g5, cap5, e5, _, _⟩ := rq hown5 (by omega)
        subst e5
        refine ⟨⟨k + 1, _, g5, cap5, by omega, by simp, ?_, h5, ?_, ?_, hB.trans hB5⟩, ?_⟩
        ·congr 1; simp <;> omega
        ·rw [tq, hg, if_neg hz0]
         have := hT.ins (a := l.length) (by simp <;> omega) (g := gp) hlow.out (fun x c h => by rw [List.getElem?_eq_none (by simp)] at h; cases h)
         rw [List.map_append, List.map_cons, List.map_take, List.map_drop]
         exact this
        ·simp <;> omega
        ·simp [intOf]; omega
      ·gi_wp2_with first
        | (gi_at_builtin; refine wpListIn_append_own_at _ rfl _ _ 22 rfl (wr.heap.size + 1) 28 i28 _ 1 24 Try.underlying22 hi28 hy0 hy1 hy2 rfl (by decide) _ 1 [enc2 (wr.heap.size, gp, 1)] rfl (Lj _ _ (enc2 (wr.heap.size, gp, 1)) 28 (by omega)) ⟨g, _, none⟩ _ _ [] rfl (by simp) (by intro j u hj; simp at hj) (by intro u hu; simp at hu) (by unfold maxLen; omega) (by omega) (by simp) ?_; intro v3 w3 hown3 hgrow3 hif3 hat3; have hB3 : Below (wr.heap.size + 1) (wr.alloc (.cells #[.int .i64 gp, .int .i64 1] 2)) w3 := ((Below.refl _ _).alloc (by simp) _).grown hgrow3 (by simp) (fun j hj => by have h : some (wr.heap.size + 1) = some j := hj; injection h with h; omega); have hs3 := hB3.size; simp at hs3; obtain ⟨g3, cap3, e3, hg3, hg3s⟩ := rq hown3 (by omega); subst e3; have hn3 := HidP.mk (EZ hown3))
        | (gi_at_builtin; refine wpListIn_append_own_at _ rfl _ _ 22 rfl (wr.heap.size + 1) 28 i28 _ 1 24 Try.underlying22 hi28 hy0 hy1 hy2 rfl (by decide) _ 0 [] rfl (World.ownsRow_made w3 #[] 0 (by omega) (by unfold maxLen; omega) rfl) ⟨g, 0, none⟩ l.length _ ((l.take l.length).map enc2) rfl (by simp <;> omega) (BZ hR (hB3.alloc (by omega) _) l.length) (by intro u hu; obtain ⟨z, _, rfl⟩ := List.mem_map.1 hu; rfl) (by unfold maxLen; omega) (by omega) (by simp; omega) ?_; intro v4 w4 hown4 hgrow4 hif4 hat4; have hB4 : Below (wr.heap.size + 1) (wr.alloc (.cells #[.int .i64 gp, .int .i64 1] 2)) w4 := (hB3.alloc (by omega) _).grown hgrow4 (by simp; omega) (fun j hj => by have h : some w3.heap.size = some j := hj; injection h with h; omega); have hs4 := hB4.size; simp at hs4; have hn4 : ∀ j u, ([enc2 (wr.heap.size, gp, 1)] ++ (l.drop l.length).map enc2)[j]? = some u → w4.cell? (Addr.add ⟨g3, 0, none⟩ j) = some u := (by intro j u hj; rw [addp, Nat.zero_add, World.cell?_of_block (hgrow4.block g3 (by simp; omega) (by intro e; have h : some g3 = some w3.heap.size := e; injection h with h; omega)), World.cell?_of_block (w := w3) (by simp only [World.alloc, Array.getElem?_push]; rw [if_neg (by show ¬ g3 = w3.heap.size; omega)])]; exact hn3.out j u (by simpa using hj)); replace hn4 := HidP.mk hn4)
        | (gi_at_builtin; refine wpListIn_append_own_at _ rfl _ _ 22 rfl (wr.heap.size + 1) 28 i28 _ 1 24 Try.underlying22 hi28 hy0 hy1 hy2 rfl (by decide) _ (0 + l.length) _ rfl hown4 ⟨g3, 0, none⟩ _ _ ([enc2 (wr.heap.size, gp, 1)] ++ (l.drop l.length).map enc2) rfl (by simp; try omega) hn4.out (XV _ _) (by unfold maxLen; omega) (by omega) (by omega) ?_; intro v5 w5 hown5 hgrow5 hif5 hat5)
       ·rename_i hzz
        have hz0 : gp = 0 := by simpa using hzz
        refine ⟨⟨k + 1, l, g, cap, by omega, by simp, rfl, hR, ?_, by omega, hB⟩, ?_⟩
        ·rw [tq, hg, if_pos hz0, List.append_nil]
         exact hT
        ·simp [intOf]; omega
       ·rename_i hzz
        have hz0 : gp ≠ 0 := by simpa using hzz
        obtain ⟨h5, hB5⟩ := hR.insert hWs (a := l.length) gp 1 hown5 (by simp) (hB4.grown hgrow5 (by omega) (fun j hj => (hown4.lt j hj).1))
        obtain ⟨g5, cap5, e5, _, _⟩ := rq hown5 (by omega)
        subst e5
        refine ⟨⟨k + 1, _, g5, cap5, by omega, by simp, ?_, h5, ?_, ?_, hB.trans hB5⟩, ?_⟩
        ·congr 1; simp <;> omega
        ·rw [tq, hg, if_neg hz0]
         have := hT.ins (a := l.length) (by simp <;> omega) (g := gp) hlow.out (fun x c h => by rw [List.getElem?_eq_none (by simp)] at h; cases h)
         rw [List.map_append, List.map_cons, List.map_take, List.map_drop]
         exact this
        ·simp <;> omega
        ·simp [intOf]; omega
   ·skip
    have hg : sgAt (plc p q n) q k = q - x * p % q := by unfold sgAt; rw [yX, if_neg hlt2, hpx]
    replace hv1 := HidP.mk hv1
    replace hmem := HidP.mk hmem
    replace hplc := HidP.mk hplc
    replace hRc := HidP.mk hRc
    replace hRo := HidP.mk hRo
    gi_wp2_with first
     | (gi_at_call 12; refine (acN F _ f12 hro q _ (by omega) (by omega) _).mono ?_; rintro e w2 ⟨rfl, rfl⟩)
    have hgb : -1000000 ≤ q - x * p % q ∧ q - x * p % q ≤ 1000000 := by omega
    obtain ⟨gp, hgp⟩ : ∃ gp, q - x * p % q = gp := ⟨_, rfl⟩
    rw [hgp] at hg hgb ⊢
    gi_loopw [13] (fun i wr => ∃ a : Nat, a ≤ l.length ∧ i = .int .i64 (a : Int) ∧ wr = w2 ∧ ∀ (i : Nat) (x c : Int), i < a → (l.map Prod.snd)[i]? = some (x, c) → x < gp) (fun i _ => l.length - (intOf i).toNat)
    case atStart => exact ⟨0, Nat.zero_le _, rfl, rfl, fun i x c hi => by omega⟩
    case round =>
     obtain ⟨a, ha, rfl, rfl, hlow⟩ := hrel
     obtain ⟨_, hcap1, hcap2, hglo, hgsz⟩ := hR.cap
     have hWs := hB.size
     by_cases hal : a < l.length
     ·obtain ⟨⟨b, x', c'⟩, hz⟩ : ∃ z, l[a]? = some z := ⟨_, List.getElem?_eq_getElem hal⟩
      have hca := hRc.out a _ hz
      obtain ⟨hc0, hc1, hfz⟩ := hRo.out a _ hz
      unfold enc2 at hca
      dsimp only at hca hc0 hc1 hfz
      have hza : (l.map Prod.snd)[a]? = some (x', c') := by rw [List.getElem?_map, hz]; rfl
      have hcb : 0 ≤ c' ∧ c' ≤ 500 := by
       have h1 := ((hT.of.mem x' c').1 (List.mem_of_getElem? hza)).2
       have h2 := List.count_le_length (a := x') (l := sgN (plc p q n) q k)
       have h3 := abA (plc p q n) q k
       omega
      have hcne : ¬ cap = a := by omega
      have hcle : a ≤ cap := by omega
      replace hlow := HidP.mk hlow
      gi_wp2_with first
       | (gi_at_builtin; refine wpListIn_append_own_at _ rfl _ _ 22 rfl (wr.heap.size + 1) 28 i28 _ 1 24 Try.underlying22 hi28 hy0 hy1 hy2 rfl (by decide) _ 1 [enc2 (wr.heap.size, gp, 1)] rfl (Lj _ _ (enc2 (wr.heap.size, gp, 1)) 28 (by omega)) ⟨g, a, none⟩ (l.length - a) _ ((l.drop a).map enc2) rfl (by simp) (aas hR (W1 := (wr.alloc (.cells #[.int .i64 gp, .int .i64 1] 2)).alloc (.cells #[enc2 (wr.heap.size, gp, 1)] 28)) ((Below.refl _ _).alloc (by simp) _) a) (by intro u hu; obtain ⟨z, _, rfl⟩ := List.mem_map.1 hu; rfl) (by unfold maxLen; omega) (by omega) (by simp) ?_; intro v3 w3 hown3 hgrow3 hif3 hat3; have hB3 : Below (wr.heap.size + 1) (wr.alloc (.cells #[.int .i64 gp, .int .i64 1] 2)) w3 := ((Below.refl _ _).alloc (by simp) _).grown hgrow3 (by simp) (fun j hj => by have h : some (wr.heap.size + 1) = some j := hj; injection h with h; omega); have hs3 := hB3.size; simp at hs3; obtain ⟨g3, cap3, e3, hg3, hg3s⟩ := rq hown3 (by omega); subst e3; have hn3 := HidP.mk (EZ hown3))
       | (gi_at_builtin; refine wpListIn_append_own_at _ rfl _ _ 22 rfl (wr.heap.size + 1) 28 i28 _ 1 24 Try.underlying22 hi28 hy0 hy1 hy2 rfl (by decide) _ 0 [] rfl (World.ownsRow_made w3 #[] 0 (by omega) (by unfold maxLen; omega) rfl) ⟨g, 0, none⟩ a _ ((l.take a).map enc2) rfl (by simp <;> omega) (BZ hR (hB3.alloc (by omega) _) a) (by intro u hu; obtain ⟨z, _, rfl⟩ := List.mem_map.1 hu; rfl) (by unfold maxLen; omega) (by omega) (by simp; omega) ?_; intro v4 w4 hown4 hgrow4 hif4 hat4; have hB4 : Below (wr.heap.size + 1) (wr.alloc (.cells #[.int .i64 gp, .int .i64 1] 2)) w4 := (hB3.alloc (by omega) _).grown hgrow4 (by simp; omega) (fun j hj => by have h : some w3.heap.size = some j := hj; injection h with h; omega); have hs4 := hB4.size; simp at hs4; have hn4 : ∀ j u, ([enc2 (wr.heap.size, gp, 1)] ++ (l.drop a).map enc2)[j]? = some u → w4.cell? (Addr.add ⟨g3, 0, none⟩ j) = some u := (by intro j u hj; rw [addp, Nat.zero_add, World.cell?_of_block (hgrow4.block g3 (by simp; omega) (by intro e; have h : some g3 = some w3.heap.size := e; injection h with h; omega)), World.cell?_of_block (w := w3) (by simp only [World.alloc, Array.getElem?_push]; rw [if_neg (by show ¬ g3 = w3.heap.size; omega)])]; exact hn3.out j u (by simpa using hj)); replace hn4 := HidP.mk hn4)
       | (gi_at_builtin; refine wpListIn_append_own_at _ rfl _ _ 22 rfl (wr.heap.size + 1) 28 i28 _ 1 24 Try.underlying22 hi28 hy0 hy1 hy2 rfl (by decide) _ (0 + a) _ rfl hown4 ⟨g3, 0, none⟩ _ _ ([enc2 (wr.heap.size, gp, 1)] ++ (l.drop a).map enc2) rfl (by simp; try omega) hn4.out (XV _ _) (by unfold maxLen; omega) (by omega) (by omega) ?_; intro v5 w5 hown5 hgrow5 hif5 hat5)
      ·rename_i hlt3
       refine ⟨⟨a + 1, by omega, by simp, by simp, fun i x c hi hix => ?_⟩, ?_⟩
       ·by_cases e : i = a
        ·subst e
         rw [hza] at hix
         injection hix with hix
         injection hix with e1 e2
         rw [← e1]
         assumption
        ·exact hlow.out i x c (by omega) hix
       ·simp [intOf]; omega
      ·rename_i hg4 hxx
       have hz0 : gp ≠ 0 := by omega
       have hxg : x' = gp := by simpa using hxx
       obtain ⟨h5, hB5⟩ := hR.bump hz (c' + 1)
       refine ⟨⟨k + 1, l.set a (b, x', c' + 1), g, cap, by omega, by simp, by simp, h5, ?_, by simp; omega, hB.trans hB5⟩, ?_⟩
       ·rw [tq, hg, if_neg hz0, List.map_set, ← hxg]
        exact hT.bump hza
       ·simp [intOf]; omega
      ·rename_i hgx hzz hxx
       have hz0 : gp ≠ 0 := by omega
       have hxn : x' ≠ gp := by simpa using hxx
       have hgx2 : gp ≤ x' := hgx
       obtain ⟨h5, hB5⟩ := hR.insert hWs (a := a) gp 1 hown5 (by simp) (hB4.grown hgrow5 (by omega) (fun j hj => (hown4.lt j hj).1))
       obtain ⟨g5, cap5, e5, _, _⟩ := rq hown5 (by omega)
       subst e5
       refine ⟨⟨k + 1, _, g5, cap5, by omega, by simp, ?_, h5, ?_, ?_, hB.trans hB5⟩, ?_⟩
       ·congr 1; simp <;> omega
       ·rw [tq, hg, if_neg hz0]
        have := hT.ins (a := a) (by simp <;> omega) (g := gp) hlow.out (fun x c h => by rw [hza] at h; injection h with h; injection h with h1 h2; omega)
        rw [List.map_append, List.map_cons, List.map_take, List.map_drop]
        exact this
       ·simp <;> omega
       ·simp [intOf]; omega
     ·have hal2 : a = l.length := by omega
      subst hal2
      replace hlow := HidP.mk hlow
      by_cases hce : cap = l.length
      ·gi_wp2_with first
        | (gi_at_builtin; refine wpListIn_append_own_at _ rfl _ _ 22 rfl (wr.heap.size + 1) 28 i28 _ 1 24 Try.underlying22 hi28 hy0 hy1 hy2 rfl (by decide) _ 1 [enc2 (wr.heap.size, gp, 1)] rfl (Lj _ _ (enc2 (wr.heap.size, gp, 1)) 28 (by omega)) ⟨g, _, none⟩ _ _ [] rfl (by simp) (by intro j u hj; simp at hj) (by intro u hu; simp at hu) (by unfold maxLen; omega) (by omega) (by simp) ?_; intro v3 w3 hown3 hgrow3 hif3 hat3; have hB3 : Below (wr.heap.size + 1) (wr.alloc (.cells #[.int .i64 gp, .int .i64 1] 2)) w3 := ((Below.refl _ _).alloc (by simp) _).grown hgrow3 (by simp) (fun j hj => by have h : some (wr.heap.size + 1) = some j := hj; injection h with h; omega); have hs3 := hB3.size; simp at hs3; obtain ⟨g3, cap3, e3, hg3, hg3s⟩ := rq hown3 (by omega); subst e3; have hn3 := HidP.mk (EZ hown3))
        | (gi_at_builtin; refine wpListIn_append_own_at _ rfl _ _ 22 rfl (wr.heap.size + 1) 28 i28 _ 1 24 Try.underlying22 hi28 hy0 hy1 hy2 rfl (by decide) _ 0 [] rfl (World.ownsRow_made w3 #[] 0 (by omega) (by unfold maxLen; omega) rfl) ⟨g, 0, none⟩ l.length _ ((l.take l.length).map enc2) rfl (by simp <;> omega) (BZ hR (hB3.alloc (by omega) _) l.length) (by intro u hu; obtain ⟨z, _, rfl⟩ := List.mem_map.1 hu; rfl) (by unfold maxLen; omega) (by omega) (by simp; omega) ?_; intro v4 w4 hown4 hgrow4 hif4 hat4; have hB4 : Below (wr.heap.size + 1) (wr.alloc (.cells #[.int .i64 gp, .int .i64 1] 2)) w4 := (hB3.alloc (by omega) _).grown hgrow4 (by simp; omega) (fun j hj => by have h : some w3.heap.size = some j := hj; injection h with h; omega); have hs4 := hB4.size; simp at hs4; have hn4 : ∀ j u, ([enc2 (wr.heap.size, gp, 1)] ++ (l.drop l.length).map enc2)[j]? = some u → w4.cell? (Addr.add ⟨g3, 0, none⟩ j) = some u := (by intro j u hj; rw [addp, Nat.zero_add, World.cell?_of_block (hgrow4.block g3 (by simp; omega) (by intro e; have h : some g3 = some w3.heap.size := e; injection h with h; omega)), World.cell?_of_block (w := w3) (by simp only [World.alloc, Array.getElem?_push]; rw [if_neg (by show ¬ g3 = w3.heap.size; omega)])]; exact hn3.out j u (by simpa using hj)); replace hn4 := HidP.mk hn4)
        | (gi_at_builtin; refine wpListIn_append_own_at _ rfl _ _ 22 rfl (wr.heap.size + 1) 28 i28 _ 1 24 Try.underlying22 hi28 hy0 hy1 hy2 rfl (by decide) _ (0 + l.length) _ rfl hown4 ⟨g3, 0, none⟩ _ _ ([enc2 (wr.heap.size, gp, 1)] ++ (l.drop l.length).map enc2) rfl (by simp; try omega) hn4.out (XV _ _) (by unfold maxLen; omega) (by omega) (by omega) ?_; intro v5 w5 hown5 hgrow5 hif5 hat5)
       ·have hz0 : gp ≠ 0 := by omega
        obtain ⟨h5, hB5⟩ := hR.insert hWs (a := l.length) gp 1 hown5 (by simp) (hB4.grown hgrow5 (by omega) (fun j hj => (hown4.lt j hj).1))
        obtain ⟨g5, cap5, e5, _, _⟩ := rq hown5 (by omega)
        subst e5
        refine ⟨⟨k + 1, _, g5, cap5, by omega, by simp, ?_, h5, ?_, ?_, hB.trans hB5⟩, ?_⟩
        ·congr 1; simp <;> omega
        ·rw [tq, hg, if_neg hz0]
         have := hT.ins (a := l.length) (by simp <;> omega) (g := gp) hlow.out (fun x c h => by rw [List.getElem?_eq_none (by simp)] at h; cases h)
         rw [List.map_append, List.map_cons, List.map_take, List.map_drop]
         exact this
        ·simp <;> omega
        ·simp [intOf]; omega
      ·gi_wp2_with first
        | (gi_at_builtin; refine wpListIn_append_own_at _ rfl _ _ 22 rfl (wr.heap.size + 1) 28 i28 _ 1 24 Try.underlying22 hi28 hy0 hy1 hy2 rfl (by decide) _ 1 [enc2 (wr.heap.size, gp, 1)] rfl (Lj _ _ (enc2 (wr.heap.size, gp, 1)) 28 (by omega)) ⟨g, _, none⟩ _ _ [] rfl (by simp) (by intro j u hj; simp at hj) (by intro u hu; simp at hu) (by unfold maxLen; omega) (by omega) (by simp) ?_; intro v3 w3 hown3 hgrow3 hif3 hat3; have hB3 : Below (wr.heap.size + 1) (wr.alloc (.cells #[.int .i64 gp, .int .i64 1] 2)) w3 := ((Below.refl _ _).alloc (by simp) _).grown hgrow3 (by simp) (fun j hj => by have h : some (wr.heap.size + 1) = some j := hj; injection h with h; omega); have hs3 := hB3.size; simp at hs3; obtain ⟨g3, cap3, e3, hg3, hg3s⟩ := rq hown3 (by omega); subst e3; have hn3 := HidP.mk (EZ hown3))
        | (gi_at_builtin; refine wpListIn_append_own_at _ rfl _ _ 22 rfl (wr.heap.size + 1) 28 i28 _ 1 24 Try.underlying22 hi28 hy0 hy1 hy2 rfl (by decide) _ 0 [] rfl (World.ownsRow_made w3 #[] 0 (by omega) (by unfold maxLen; omega) rfl) ⟨g, 0, none⟩ l.length _ ((l.take l.length).map enc2) rfl (by simp <;> omega) (BZ hR (hB3.alloc (by omega) _) l.length) (by intro u hu; obtain ⟨z, _, rfl⟩ := List.mem_map.1 hu; rfl) (by unfold maxLen; omega) (by omega) (by simp; omega) ?_; intro v4 w4 hown4 hgrow4 hif4 hat4; have hB4 : Below (wr.heap.size + 1) (wr.alloc (.cells #[.int .i64 gp, .int .i64 1] 2)) w4 := (hB3.alloc (by omega) _).grown hgrow4 (by simp; omega) (fun j hj => by have h : some w3.heap.size = some j := hj; injection h with h; omega); have hs4 := hB4.size; simp at hs4; have hn4 : ∀ j u, ([enc2 (wr.heap.size, gp, 1)] ++ (l.drop l.length).map enc2)[j]? = some u → w4.cell? (Addr.add ⟨g3, 0, none⟩ j) = some u := (by intro j u hj; rw [addp, Nat.zero_add, World.cell?_of_block (hgrow4.block g3 (by simp; omega) (by intro e; have h : some g3 = some w3.heap.size := e; injection h with h; omega)), World.cell?_of_block (w := w3) (by simp only [World.alloc, Array.getElem?_push]; rw [if_neg (by show ¬ g3 = w3.heap.size; omega)])]; exact hn3.out j u (by simpa using hj)); replace hn4 := HidP.mk hn4)
        | (gi_at_builtin; refine wpListIn_append_own_at _ rfl _ _ 22 rfl (wr.heap.size + 1) 28 i28 _ 1 24 Try.underlying22 hi28 hy0 hy1 hy2 rfl (by decide) _ (0 + l.length) _ rfl hown4 ⟨g3, 0, none⟩ _ _ ([enc2 (wr.heap.size, gp, 1)] ++ (l.drop l.length).map enc2) rfl (by simp; try omega) hn4.out (XV _ _) (by unfold maxLen; omega) (by omega) (by omega) ?_; intro v5 w5 hown5 hgrow5 hif5 hat5)
       ·have hz0 : gp ≠ 0 := by omega
        obtain ⟨h5, hB5⟩ := hR.insert hWs (a := l.length) gp 1 hown5 (by simp) (hB4.grown hgrow5 (by omega) (fun j hj => (hown4.lt j hj).1))
        obtain ⟨g5, cap5, e5, _, _⟩ := rq hown5 (by omega)
        subst e5
        refine ⟨⟨k + 1, _, g5, cap5, by omega, by simp, ?_, h5, ?_, ?_, hB.trans hB5⟩, ?_⟩
        ·congr 1; simp <;> omega
        ·rw [tq, hg, if_neg hz0]
         have := hT.ins (a := l.length) (by simp <;> omega) (g := gp) hlow.out (fun x c h => by rw [List.getElem?_eq_none (by simp)] at h; cases h)
         rw [List.map_append, List.map_cons, List.map_take, List.map_drop]
         exact this
        ·simp <;> omega
        ·simp [intOf]; omega
  ·have hkn : n = k := by omega
   subst hkn
   gi_wp2
   refine bodyPost_ret (results_tmp2 rfl _ _ _) rfl ?_
   have hs1 := hB1.size
   exact ⟨_, l, rfl, ⟨adt hR.row hs1, fun x hx => ⟨Nat.le_trans hs1 (hR.inn x hx).1, (hR.inn x hx).2⟩, hR.nd, hR.own⟩, hT, hB1.trans (hB.mono hs1)⟩
end Go.Proofs.Ythjehhoafmnmkaa
